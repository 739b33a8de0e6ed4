/- WHAT AN EXPRESSION's TEXT TELLS IS THAT EXPRESSION AGAIN: plain. CONTRACTS: package expr: how great an expression is; the keep's fact of it. THE LAW ExprBack, out of the contracts. CONTRACTS OUT OF THE KIT's SHELF: strings.Join, strings.IndexByte. CONTRACTS OUT OF THE KIT's SHELF: what writes a row of texts of the caller's: slices.Sort, slices.Compact. CONTRACTS: package expr: names and edges, sorted, each once. (of the seat YtjdfaaccmdajdaaDoor) -/
import Derived.Test.YtjdfaaccmdajdaaDoorCore9
import Derived.Lib.Join
import Derived.Lib.Bytealg
import Derived.Sort.Row
import Derived.Sort.EncStr
import Derived.Sort.Grow
import Derived.Lib.SlicesCompact
namespace Go.Sc
open Go
set_option linter.unusedSimpArgs false
set_option linter.unusedVariables false

/-! ### how deep -/
mutual
def Ex.dep : Ex → Nat
  | .not x => x.dep + 1
  | .and l => Ex.depL l + 1
  | .or l => Ex.depO l + 1
  | _ => 1
def Ex.depL : List Ex → Nat
  | [] => 0
  | x :: l => max x.dep (Ex.depL l)
def Ex.depO : List Ex → Nat
  | [] => 0
  | x :: l => max (if x.isAnd then x.dep - 1 else x.dep) (Ex.depO l)
end
def Ex.dA (x : Ex) : Nat := if x.isAnd then x.dep - 1 else x.dep
def Ex.dO (x : Ex) : Nat := if x.isOr then x.dep - 1 else x.dA
theorem Ex.depL_le {d : Nat} : ∀ {l : List Ex}, Ex.depL l ≤ d ↔ ∀ x ∈ l, x.dep ≤ d
  | [] => by simp [Ex.depL]
  | x :: l => by simp [Ex.depL, Ex.depL_le (l := l), Nat.max_le]
theorem Ex.depO_le {d : Nat} : ∀ {l : List Ex}, Ex.depO l ≤ d ↔ ∀ x ∈ l, x.dA ≤ d
  | [] => by simp [Ex.depO]
  | x :: l => by simp only [Ex.depO, Nat.max_le, Ex.depO_le (l := l), List.mem_cons, forall_eq_or_imp, Ex.dA]
theorem Ex.dA_le (x : Ex) : x.dA ≤ x.dep := by unfold Ex.dA; split <;> omega
theorem Ex.dO_le (x : Ex) : x.dO ≤ x.dA := by
  unfold Ex.dO
  split
  · rename_i h
    have : x.isAnd = false := by cases x <;> simp_all [Ex.isOr, Ex.isAnd]
    simp [Ex.dA, this]
  · exact Nat.le_refl _
theorem Ex.dep_dO (x : Ex) : x.dep ≤ x.dO + 1 := by
  unfold Ex.dO Ex.dA
  split
  · omega
  · split <;> omega
theorem Ex.dA_dO (x : Ex) : x.dA ≤ x.dO + 1 := Nat.le_trans x.dA_le x.dep_dO
def DepR (s : Str) (m : Ex → Nat) (d : Nat) (f : Nat → Rs Ex) : Prop := ∀ i x j, f i = .ok x j → m x ≤ d
theorem rowR_mem {s : Str} {c : UInt8} {f : Nat → Rs Ex} {Q : Ex → Prop} (hf : ∀ i x j, f i = .ok x j → Q x) : ∀ (n i : Nat) (l : List Ex) {l' : List Ex} {j : Nat}, (∀ x ∈ l, Q x) → rowR s c f n i l = .ok l' j → ∀ x ∈ l', Q x
  | 0, i, l, l', j, _, h => by simp [rowR] at h
  | n + 1, i, l, l', j, hl, h => by
    unfold rowR at h
    split at h
    · cases h
    · rename_i x k hx
      have hl2 : ∀ y ∈ l ++ [x], Q y := fun y hy => by
        rcases List.mem_append.1 hy with hy | hy
        · exact hl y hy
        · simp at hy; subst hy; exact hf _ _ _ hx
      split at h
      · exact rowR_mem hf n _ _ hl2 h
      · injection h with h1 h2
        subst h1
        exact hl2
theorem allR_mem {s : Str} {c : UInt8} {mk : List Ex → Ex} {f : Nat → Rs Ex} {Q R : Ex → Prop} (hf : ∀ i x j, f i = .ok x j → Q x) (h1 : ∀ x, Q x → R x) (h2 : ∀ l, (∀ x ∈ l, Q x) → R (mk l)) : ∀ i x j, allR s c mk f i = .ok x j → R x := by
  intro i x j h
  unfold allR at h
  split at h
  · rename_i l k hl
    injection h with h3 h4
    subst h3
    have := rowR_mem hf _ _ _ (by simp) hl
    match l, this with
    | [], this => exact h2 _ this
    | [x], this => exact h1 _ (this x (by simp))
    | x :: y :: r, this => exact h2 _ this
  · cases h
theorem andR_dep {s : Str} {d : Nat} {f : Nat → Rs Ex} (hf : ∀ i x j, f i = .ok x j → x.dep ≤ d) : ∀ i x j, andR s f i = .ok x j → x.dA ≤ d :=
  allR_mem hf (fun x h => Nat.le_trans x.dA_le h) (fun l h => by simpa [Ex.dA, Ex.isAnd, Ex.dep] using Ex.depL_le.2 h)
theorem orR_dep {s : Str} {d : Nat} {f : Nat → Rs Ex} (hf : ∀ i x j, f i = .ok x j → x.dep ≤ d) : ∀ i x j, orR s f i = .ok x j → x.dO ≤ d :=
  allR_mem (andR_dep hf) (fun x h => Nat.le_trans x.dO_le h) (fun l h => by simpa [Ex.dO, Ex.isOr, Ex.dep] using Ex.depO_le.2 h)
theorem oneR_dep (s : Str) : ∀ d i x j, oneR s d i = .ok x j → x.dep ≤ d
  | 0, i, x, j, h => by simp [oneR] at h
  | d + 1, i, x, j, h => by
    have ih := oneR_dep s d
    unfold oneR at h
    split at h
    · obtain ⟨y, hy, rfl⟩ := map_ok h
      have := ih _ _ _ hy
      simp only [Ex.dep]; omega
    split at h
    · cases ho : orR s (oneR s d) (skipTo s i + 1) with
      | no e p => rw [ho] at h; cases h
      | ok y k =>
        rw [ho] at h
        have := orR_dep ih _ _ _ ho
        have := y.dep_dO
        simp only [closeR] at h
        split at h
        · injection h with h1 h2
          subst h1
          omega
        · cases h
    split at h
    · injection h with h1 h2; subst h1; simp [Ex.dep]
    split at h
    · injection h with h1 h2; subst h1; simp [Ex.dep]
    split at h
    · obtain ⟨y, hy, rfl⟩ := map_ok h; simp [Ex.dep]
    split at h
    · obtain ⟨y, hy, rfl⟩ := map_ok h; simp [Ex.dep]
    · obtain ⟨y, hy, rfl⟩ := map_ok h; simp [Ex.dep]
theorem parseR_dep {s : Str} {x : Ex} {j : Nat} (h : parseR s = .ok x j) : x.dO ≤ 20 := by
  unfold parseR at h
  split at h
  · cases h
  · rename_i y k hy
    have := orR_dep (oneR_dep s 20) _ _ _ hy
    split at h
    · cases h
    · injection h with h1 _
      subst h1
      exact this

/-! ### what stands behind -/
def T9 (r : Str) : Prop := r = [] ∨ ∃ c r', r = c :: r' ∧ (c = 32 ∨ c = 41)
def fnb (r : Str) : Option UInt8 := (r.dropWhile (· == 32)).head?
def TA (r : Str) : Prop := T9 r ∧ fnb r ≠ some 38
def TO (r : Str) : Prop := T9 r ∧ fnb r ≠ some 38 ∧ fnb r ≠ some 124
theorem at_app {pre r : Str} {k : Nat} : (pre ++ r)[pre.length + k]? = r[k]? := by rw [List.getElem?_append_right (by omega)]; congr 1; omega
theorem at_app0 {pre r : Str} : (pre ++ r)[pre.length]? = r[0]? := at_app (k := 0)
theorem take_drop {p : UInt8 → Bool} : ∀ r : Str, r[(r.takeWhile p).length]? = (r.dropWhile p).head?
  | [] => rfl
  | c :: r => by
    rw [List.takeWhile_cons, List.dropWhile_cons]
    split
    · simpa using take_drop r
    · simp
theorem skip_app (pre r : Str) : (pre ++ r)[skipTo (pre ++ r) pre.length]? = fnb r := by
  unfold skipTo
  rw [List.drop_left, at_app, take_drop]; rfl
theorem skip_stay {pre r : Str} (h : r[0]? ≠ some 32) : skipTo (pre ++ r) pre.length = pre.length := skipTo_stop (by rw [at_app0]; exact h)

/-! ### names -/
theorem nch_stop {c : UInt8} (h : nch c = true) : c ∉ stop9 := by
  have : ∀ i : Fin 256, nch (UInt8.ofNat i.val) = true → UInt8.ofNat i.val ∉ stop9 := by decide +kernel
  have h2 := this ⟨c.toNat, c.toNat_lt⟩
  simpa using h2 (by simpa using h)
theorem low_not {c : UInt8} (h : low c = true) : c ≠ 32 ∧ c ≠ 33 ∧ c ≠ 40 ∧ c ≠ 48 ∧ c ≠ 49 ∧ c ≠ 94 ∧ c ≠ 126 ∧ nch c = true := by
  refine ⟨?_, ?_, ?_, ?_, ?_, ?_, ?_, by simp [nch, h]⟩ <;> (rintro rfl; revert h; decide)
theorem name_chars {w : Str} (h : nameOk w = true) : ∃ c r, w = c :: r ∧ low c = true ∧ ∀ x ∈ w, nch x = true := by
  cases w with
  | nil => simp [nameOk] at h
  | cons c r =>
    simp only [nameOk, Bool.and_eq_true] at h
    refine ⟨c, r, rfl, h.1.1.1, fun x hx => ?_⟩
    rcases List.mem_cons.1 hx with rfl | hx
    · simp [nch, h.1.1.1]
    · exact List.all_eq_true.1 h.1.1.2 x hx
theorem T9_stop {r : Str} (h : T9 r) : ∀ c, r[0]? = some c → c ∈ stop9 := by
  rintro c hc
  rcases h with rfl | ⟨d, r', rfl, h⟩
  · simp at hc
  · simp at hc; subst hc
    rcases h with rfl | rfl <;> simp [stop9]
theorem wEnd_app {w : Str} (hw : nameOk w = true) (pre r : Str) (hr : T9 r) : ∀ (n k : Nat), k + n = w.length → wEnd (pre ++ w ++ r) pre.length (pre.length + k) = pre.length + w.length
  | 0, k, hk => by
    have hk' : k = w.length := by omega
    subst hk'
    refine wEnd_stop ?_
    unfold wc
    have e : (pre ++ w ++ r)[pre.length + w.length]? = r[0]? := by rw [List.append_assoc, at_app]; exact at_app0
    rw [e]
    cases h0 : r[0]? with
    | none => rfl
    | some c => simp [T9_stop hr c h0]
  | n + 1, k, hk => by
    have hkl : k < w.length := by omega
    have e : (pre ++ w ++ r)[pre.length + k]? = some w[k] := by
      rw [List.append_assoc, at_app, List.getElem?_append_left hkl, List.getElem?_eq_getElem hkl]
    obtain ⟨c0, r0, hc0, hlow, hall⟩ := name_chars hw
    have hwc : wc (pre ++ w ++ r) pre.length (pre.length + k) = true := by
      unfold wc
      rw [e]
      have h9 := nch_stop (hall w[k] (List.getElem_mem hkl))
      simp only [decide_eq_false h9, Bool.not_false, Bool.true_and]
      by_cases h0 : k = 0
      · subst h0
        have : w[0] = c0 := by subst hc0; rfl
        have hl := low_not hlow
        simp [this, hl.2.2.2.1, hl.2.2.2.2.1]
      · simp; left; omega
    rw [wEnd_step hwc]
    exact wEnd_app hw pre r hr n (k + 1) (by omega)
theorem wordR_app {w : Str} (hw : nameOk w = true) (pre r : Str) (hr : T9 r) : wordR (pre ++ w ++ r) pre.length = .ok w (pre.length + w.length) := by
  obtain ⟨c0, r0, hc0, hlow, hall⟩ := name_chars hw
  have hl := low_not hlow
  have hs : skipTo (pre ++ w ++ r) pre.length = pre.length := by
    rw [List.append_assoc]; refine skip_stay ?_
    subst hc0; simpa using hl.1
  have he : wEnd (pre ++ w ++ r) pre.length pre.length = pre.length + w.length := wEnd_app hw pre r hr w.length 0 (by omega)
  have hwd : wordAt (pre ++ w ++ r) pre.length = w := by
    unfold wordAt
    rw [he, List.append_assoc, List.take_append, List.take_of_length_le (by omega)]
    simp
  unfold wordR
  rw [hs, hwd, he, if_neg (by rw [hc0]; simp), if_neg (by rw [hw]; simp)]

/-! ### blanks ahead count for nothing -/
def Blk0 (F : Str → Nat → Rs Ex) : Prop := ∀ s i, s[i]? = some 32 → F s i = F s (i + 1)
theorem oneR_blk (d : Nat) : Blk0 (fun s => oneR s d) := by
  intro s i h
  cases d with
  | zero => simp only [oneR]; rw [skipTo_step h]
  | succ d => simp only [oneR]; rw [skipTo_step h]
theorem wordR_skip (s : Str) (i : Nat) : wordR s (skipTo s i) = wordR s i := by unfold wordR; rw [skipTo_idem]
theorem rowR_blk {c : UInt8} {F : Str → Nat → Rs Ex} (hF : Blk0 F) : ∀ (s : Str) (n i : Nat) (l : List Ex), s[i]? = some 32 → rowR s c (F s) (n + 1) i l = rowR s c (F s) (n + 1) (i + 1) l := by
  intro s n i l h
  simp only [rowR]
  rw [hF s i h]
theorem allR_blk {c : UInt8} {mk : List Ex → Ex} {F : Str → Nat → Rs Ex} (hF : Blk0 F) : Blk0 (fun s => allR s c mk (F s)) := by
  intro s i h
  simp only [allR]
  rw [rowR_blk hF s _ i _ h]
/-- F reads the text t as x, where what is behind is as T says -/
def Reads (F : Str → Nat → Rs Ex) (T : Str → Prop) (t : Str) (x : Ex) : Prop := ∀ pre r, T r → ∃ j, F (pre ++ t ++ r) pre.length = .ok x j ∧ skipTo (pre ++ t ++ r) j = skipTo (pre ++ t ++ r) (pre.length + t.length)
theorem joinS_cons (sep t : Str) (ts : List Str) (h : ts ≠ []) : joinS sep (t :: ts) = t ++ sep ++ joinS sep ts := by
  cases ts with
  | nil => exact absurd rfl h
  | cons a b => rfl
/-- a row of parts is read -/
theorem row_reads {F : Str → Nat → Rs Ex} {T Tp : Str → Prop} {c : UInt8} {u : Ex → Str} (hF : Blk0 F) (hc : c ≠ 32) (hTp : ∀ r, T r → Tp r) (hTs : ∀ r, Tp (32 :: c :: 32 :: r)) (hT : ∀ r, T r → fnb r ≠ some c) :
    ∀ (l : List Ex), l ≠ [] → (∀ x ∈ l, Reads F Tp (u x) x) → ∀ (n : Nat) (acc : List Ex) (pre r : Str), l.length ≤ n → T r →
      rowR (pre ++ joinS [32, c, 32] (l.map u) ++ r) c (F (pre ++ joinS [32, c, 32] (l.map u) ++ r)) n pre.length acc = .ok (acc ++ l) (skipTo (pre ++ joinS [32, c, 32] (l.map u) ++ r) (pre.length + (joinS [32, c, 32] (l.map u)).length))
  | [], h, _, _, _, _, _, _, _ => absurd rfl h
  | [x], _, hx, 0, _, _, _, hn, _ => by simp at hn
  | [x], _, hx, n + 1, acc, pre, r, hn, hr => by
    simp only [List.map_cons, List.map_nil, joinS, rowR]
    obtain ⟨j, hj1, hj2⟩ := hx x (by simp) pre r (hTp r hr)
    rw [hj1]
    simp only
    rw [hj2]
    have : (pre ++ u x ++ r)[skipTo (pre ++ u x ++ r) (pre.length + (u x).length)]? = fnb r := by
      have := skip_app (pre ++ u x) r
      rwa [List.length_append] at this
    rw [this, if_neg (hT r hr)]
  | x :: y :: l, _, hx, 0, _, _, _, hn, _ => by simp at hn
  | x :: y :: l, _, hx, n + 1, acc, pre, r, hn, hr => by
    have hj : joinS [32, c, 32] ((x :: y :: l).map u) = u x ++ [32, c, 32] ++ joinS [32, c, 32] ((y :: l).map u) := rfl
    rw [hj]
    generalize hJ : joinS [32, c, 32] ((y :: l).map u) = J
    have e1 : pre ++ (u x ++ [32, c, 32] ++ J) ++ r = pre ++ u x ++ (32 :: c :: 32 :: (J ++ r)) := by simp
    have e2 : pre ++ (u x ++ [32, c, 32] ++ J) ++ r = (pre ++ u x ++ [32, c, 32]) ++ J ++ r := by simp
    obtain ⟨jj, h0, h00⟩ := hx x (by simp) pre (32 :: c :: 32 :: (J ++ r)) (hTs _)
    rw [← e1] at h0 h00
    simp only [rowR]
    rw [h0]
    simp only
    rw [h00]
    have hsk : skipTo (pre ++ (u x ++ [32, c, 32] ++ J) ++ r) (pre.length + (u x).length) = pre.length + (u x).length + 1 := by
      rw [e1, ← List.length_append]
      rw [skipTo_step (by rw [at_app0]; rfl)]
      refine skipTo_stop ?_
      rw [at_app]; simpa using hc
    have hch : (pre ++ (u x ++ [32, c, 32] ++ J) ++ r)[pre.length + (u x).length + 1]? = some c := by
      rw [e1, ← List.length_append, at_app]; rfl
    rw [hsk, hch, if_pos rfl]
    have hb : (pre ++ (u x ++ [32, c, 32] ++ J) ++ r)[pre.length + (u x).length + 1 + 1]? = some 32 := by
      rw [e1, ← List.length_append, Nat.add_assoc, at_app]; rfl
    obtain ⟨n, rfl⟩ : ∃ k, n = k + 1 := ⟨n - 1, by simp at hn; omega⟩
    rw [rowR_blk hF _ _ _ _ hb]
    have ih := row_reads hF hc hTp hTs hT (y :: l) (by simp) (fun z hz => hx z (by simp at hz ⊢; exact .inr hz)) (n + 1) (acc ++ [x]) (pre ++ u x ++ [32, c, 32]) r (by simpa using hn) hr
    rw [hJ, ← e2] at ih
    have hl1 : (pre ++ u x ++ [32, c, 32]).length = pre.length + (u x).length + 1 + 1 + 1 := by simp; omega
    rw [hl1] at ih
    rw [ih]
    have hl2 : pre.length + (u x ++ [32, c, 32] ++ J).length = pre.length + (u x).length + 1 + 1 + 1 + J.length := by simp; omega
    rw [hl2]
    simp
theorem joinS_count (sep : Str) (hs : sep.length = 3) : ∀ l : List Str, l.length ≤ (joinS sep l).length + 1
  | [] => by simp
  | [x] => by simp
  | x :: y :: l => by
    have := joinS_count sep hs (y :: l)
    simp only [joinS, List.length_append, List.length_cons, hs] at this ⊢
    omega
theorem all_reads {F : Str → Nat → Rs Ex} {T Tp : Str → Prop} {c : UInt8} {mk : List Ex → Ex} {u : Ex → Str} (hF : Blk0 F) (hc : c ≠ 32) (hTp : ∀ r, T r → Tp r) (hTs : ∀ r, Tp (32 :: c :: 32 :: r)) (hT : ∀ r, T r → fnb r ≠ some c)
    (l : List Ex) (hl : l ≠ []) (hx : ∀ x ∈ l, Reads F Tp (u x) x) : Reads (fun s => allR s c mk (F s)) T (joinS [32, c, 32] (l.map u)) (foldR mk l) := by
  intro pre r hr
  have hn : l.length ≤ (pre ++ joinS [32, c, 32] (l.map u) ++ r).length + 1 := by
    have := joinS_count [32, c, 32] rfl (l.map u)
    simp only [List.length_append, List.length_map] at this ⊢
    omega
  have := row_reads hF hc hTp hTs hT l hl hx _ [] pre r hn hr
  refine ⟨_, ?_, skipTo_idem _ _⟩
  simp only [allR]
  rw [this]
  rfl
theorem TA_T9 : ∀ r, TA r → T9 r := fun _ h => h.1
theorem TO_TA : ∀ r, TO r → TA r := fun _ h => ⟨h.1, h.2.1⟩
theorem T9_sp (r : Str) : T9 (32 :: r) := .inr ⟨32, r, rfl, .inl rfl⟩
theorem TA_or (r : Str) : TA (32 :: 124 :: 32 :: r) := ⟨T9_sp _, by simp [fnb]⟩
theorem TO_close (r : Str) : TO (41 :: r) := ⟨.inr ⟨41, r, rfl, .inr rfl⟩, by simp [fnb], by simp [fnb]⟩
theorem andR_blk (d : Nat) : Blk0 (fun s => andR s (oneR s d)) := allR_blk (oneR_blk d)
theorem and_parts {d : Nat} {l : List Ex} (hl : 2 ≤ l.length) (hx : ∀ x ∈ l, Reads (fun s => oneR s d) T9 (x.wr 2) x) : Reads (fun s => andR s (oneR s d)) TA ((Ex.and l).wr 1) (.and l) := by
  have := all_reads (mk := .and) (oneR_blk d) (c := 38) (by decide) TA_T9 (fun r => T9_sp _) (fun r h => h.2) l (by intro e; rw [e] at hl; simp at hl) hx
  have e1 : (Ex.and l).wr 1 = joinS [32, 38, 32] (l.map (Ex.wr 2)) := by simp [Ex.wr, around, Ex.wrL_map]
  have e2 : foldR Ex.and l = .and l := by
    match l, hl with
    | x :: y :: r, _ => rfl
  rw [e2] at this
  rw [e1]
  exact this
theorem or_parts {d : Nat} {l : List Ex} (hl : 2 ≤ l.length) (hx : ∀ x ∈ l, Reads (fun s => andR s (oneR s d)) TA (x.wr 1) x) : Reads (fun s => orR s (oneR s d)) TO ((Ex.or l).wr 0) (.or l) := by
  have := all_reads (mk := .or) (andR_blk d) (c := 124) (by decide) TO_TA (fun r => TA_or _) (fun r h => h.2.2) l (by intro e; rw [e] at hl; simp at hl) hx
  have e1 : (Ex.or l).wr 0 = joinS [32, 124, 32] (l.map (Ex.wr 1)) := by simp [Ex.wr, around, Ex.wrL_map]
  have e2 : foldR Ex.or l = .or l := by
    match l, hl with
    | x :: y :: r, _ => rfl
  rw [e2] at this
  rw [e1]
  exact this
theorem and_one {d : Nat} {x : Ex} (h : Reads (fun s => oneR s d) T9 (x.wr 2) x) (hx : x.isAnd = false) : Reads (fun s => andR s (oneR s d)) TA (x.wr 1) x := by
  have := all_reads (mk := .and) (oneR_blk d) (c := 38) (by decide) TA_T9 (fun r => T9_sp _) (fun r h => h.2) (u := Ex.wr 2) [x] (by simp) (by simpa using h)
  have e1 : x.wr 1 = x.wr 2 := by rw [Ex.wr_one, Ex.wr_two, hx]; rfl
  rw [e1]
  exact this
theorem or_one {d : Nat} {x : Ex} (h : Reads (fun s => andR s (oneR s d)) TA (x.wr 1) x) (hx : x.isOr = false) : Reads (fun s => orR s (oneR s d)) TO (x.wr 0) x := by
  have := all_reads (mk := .or) (andR_blk d) (c := 124) (by decide) TO_TA (fun r => TA_or _) (fun r h => h.2.2) (u := Ex.wr 1) [x] (by simp) (by simpa using h)
  have e1 : x.wr 0 = x.wr 1 := by rw [Ex.wr_one, hx]; rfl
  rw [e1]
  exact this
theorem one_paren {d : Nat} {x : Ex} {t : Str} (h : Reads (fun s => orR s (oneR s d)) TO t x) : Reads (fun s => oneR s (d + 1)) T9 (40 :: t ++ [41]) x := by
  intro pre r hr
  have e1 : pre ++ (40 :: t ++ [41]) ++ r = (pre ++ [40]) ++ t ++ (41 :: r) := by simp
  have e0 : pre ++ (40 :: t ++ [41]) ++ r = pre ++ (40 :: (t ++ 41 :: r)) := by simp
  obtain ⟨j, h1, h2⟩ := h (pre ++ [40]) (41 :: r) (TO_close r)
  simp only at h1
  have hs : skipTo (pre ++ (40 :: t ++ [41]) ++ r) pre.length = pre.length := by rw [e0]; exact skip_stay (by simp)
  have h40 : (pre ++ (40 :: t ++ [41]) ++ r)[pre.length]? = some 40 := by rw [e0, at_app0]; rfl
  have e2 : (pre ++ [40] ++ t ++ (41 :: r)) = (pre ++ [40] ++ t) ++ (41 :: r) := rfl
  have h41 : (pre ++ [40] ++ t ++ (41 :: r))[(pre ++ [40]).length + t.length]? = some 41 := by
    rw [← List.length_append, at_app0]; rfl
  have hs2 : skipTo (pre ++ [40] ++ t ++ (41 :: r)) ((pre ++ [40]).length + t.length) = (pre ++ [40]).length + t.length := skipTo_stop (by rw [h41]; simp)
  rw [hs2] at h2
  refine ⟨(pre ++ [40]).length + t.length + 1, ?_, by simp; congr 1; omega⟩
  simp only [oneR]
  rw [hs, h40]
  simp only [show ((some (40 : UInt8) = some 33) = False) by simp, if_false, if_true]
  rw [e1]
  have hl : pre.length + 1 = (pre ++ [40]).length := by simp
  rw [hl, h1]
  simp only [closeR]
  rw [h2, h41, if_pos rfl]
theorem reads_all : ∀ (n : Nat) (x : Ex), x.wt < n → x.fine →
    (∀ d, x.dep ≤ d → Reads (fun s => oneR s d) T9 (x.wr 2) x) ∧ (∀ d, x.dA ≤ d → Reads (fun s => andR s (oneR s d)) TA (x.wr 1) x) ∧ (∀ d, x.dO ≤ d → Reads (fun s => orR s (oneR s d)) TO (x.wr 0) x) := by
  intro n
  induction n with
  | zero => intro x h; omega
  | succ n ih =>
    intro x hw hf
    have lift : x.isAnd = false → x.isOr = false → (∀ d, x.dep ≤ d → Reads (fun s => oneR s d) T9 (x.wr 2) x) → (∀ d, x.dep ≤ d → Reads (fun s => oneR s d) T9 (x.wr 2) x) ∧ (∀ d, x.dA ≤ d → Reads (fun s => andR s (oneR s d)) TA (x.wr 1) x) ∧ (∀ d, x.dO ≤ d → Reads (fun s => orR s (oneR s d)) TO (x.wr 0) x) := by
      intro h1 h2 h
      have hA : x.dA = x.dep := by simp [Ex.dA, h1]
      have hO : x.dO = x.dep := by simp [Ex.dO, h2, hA]
      rw [hA, hO]
      exact ⟨h, fun d hd => and_one (h d hd) h1, fun d hd => or_one (and_one (h d hd) h1) h2⟩
    cases x with
    | k b =>
      refine lift rfl rfl fun d hd pre r hr => ⟨_, ?_, rfl⟩
      obtain ⟨d, rfl⟩ : ∃ k, d = k + 1 := ⟨d - 1, by simp [Ex.dep] at hd; omega⟩
      have hs : skipTo (pre ++ (Ex.k b).wr 2 ++ r) pre.length = pre.length := by rw [List.append_assoc]; exact skip_stay (by cases b <;> simp [Ex.wr])
      have hc : (pre ++ (Ex.k b).wr 2 ++ r)[pre.length]? = some (if b then 49 else 48) := by rw [List.append_assoc, at_app0]; cases b <;> rfl
      simp only [oneR]
      rw [hs, hc]
      cases b <;> simp [Ex.wr]
    | bit w =>
      refine lift rfl rfl fun d hd pre r hr => ⟨_, ?_, rfl⟩
      obtain ⟨d, rfl⟩ : ∃ k, d = k + 1 := ⟨d - 1, by simp [Ex.dep] at hd; omega⟩
      obtain ⟨c0, r0, hc0, hlow, _⟩ := name_chars hf
      have hl := low_not hlow
      have hc : (pre ++ (Ex.bit w).wr 2 ++ r)[pre.length]? = some c0 := by rw [List.append_assoc, at_app0]; simp [Ex.wr, hc0]
      have hs : skipTo (pre ++ (Ex.bit w).wr 2 ++ r) pre.length = pre.length := skipTo_stop (by rw [hc]; simpa using hl.1)
      simp only [oneR]
      rw [hs, hc]
      simp only [Option.some.injEq, hl.2.1, hl.2.2.1, hl.2.2.2.1, hl.2.2.2.2.1, hl.2.2.2.2.2.1, hl.2.2.2.2.2.2.1, if_false]
      simp only [Ex.wr]
      rw [wordR_app hf pre r hr]
      rfl
    | rise w =>
      refine lift rfl rfl fun d hd pre r hr => ⟨_, ?_, rfl⟩
      obtain ⟨d, rfl⟩ : ∃ k, d = k + 1 := ⟨d - 1, by simp [Ex.dep] at hd; omega⟩
      have hc : (pre ++ (Ex.rise w).wr 2 ++ r)[pre.length]? = some 94 := by rw [List.append_assoc, at_app0]; rfl
      have hs : skipTo (pre ++ (Ex.rise w).wr 2 ++ r) pre.length = pre.length := skipTo_stop (by rw [hc]; simp)
      have e1 : pre ++ (Ex.rise w).wr 2 ++ r = (pre ++ [94]) ++ w ++ r := by simp [Ex.wr]
      simp only [oneR]
      rw [hs, hc]
      simp only [show (some (94 : UInt8) = some 33) = False by simp, show (some (94 : UInt8) = some 40) = False by simp, show (some (94 : UInt8) = some 48) = False by simp, show (some (94 : UInt8) = some 49) = False by simp, if_false, if_true]
      have hl : pre.length + 1 = (pre ++ [94]).length := by simp
      rw [e1, hl, wordR_app hf (pre ++ [94]) r hr]
      simp [Rs.map, Ex.wr]; omega
    | fall w =>
      refine lift rfl rfl fun d hd pre r hr => ⟨_, ?_, rfl⟩
      obtain ⟨d, rfl⟩ : ∃ k, d = k + 1 := ⟨d - 1, by simp [Ex.dep] at hd; omega⟩
      have hc : (pre ++ (Ex.fall w).wr 2 ++ r)[pre.length]? = some 126 := by rw [List.append_assoc, at_app0]; rfl
      have hs : skipTo (pre ++ (Ex.fall w).wr 2 ++ r) pre.length = pre.length := skipTo_stop (by rw [hc]; simp)
      have e1 : pre ++ (Ex.fall w).wr 2 ++ r = (pre ++ [126]) ++ w ++ r := by simp [Ex.wr]
      simp only [oneR]
      rw [hs, hc]
      simp only [show (some (126 : UInt8) = some 33) = False by simp, show (some (126 : UInt8) = some 40) = False by simp, show (some (126 : UInt8) = some 48) = False by simp, show (some (126 : UInt8) = some 49) = False by simp, show (some (126 : UInt8) = some 94) = False by simp, if_false, if_true]
      have hl : pre.length + 1 = (pre ++ [126]).length := by simp
      rw [e1, hl, wordR_app hf (pre ++ [126]) r hr]
      simp [Rs.map, Ex.wr]; omega
    | not y =>
      refine lift rfl rfl fun d hd pre r hr => ?_
      simp only [Ex.dep] at hd
      simp only [Ex.wt] at hw
      obtain ⟨d, rfl⟩ : ∃ k, d = k + 1 := ⟨d - 1, by omega⟩
      have hc : (pre ++ (Ex.not y).wr 2 ++ r)[pre.length]? = some 33 := by rw [List.append_assoc, at_app0]; rfl
      have hs : skipTo (pre ++ (Ex.not y).wr 2 ++ r) pre.length = pre.length := skipTo_stop (by rw [hc]; simp)
      have e1 : pre ++ (Ex.not y).wr 2 ++ r = (pre ++ [33]) ++ y.wr 2 ++ r := by simp [Ex.wr]
      obtain ⟨j, h1, h2⟩ := (ih y (by omega) hf).1 d (by omega) (pre ++ [33]) r hr
      simp only at h1
      refine ⟨j, ?_, ?_⟩
      · simp only [oneR]
        rw [hs, hc]
        simp only [if_true]
        have hl : pre.length + 1 = (pre ++ [33]).length := by simp
        rw [e1, hl, h1]
        rfl
      · rw [e1, h2]
        congr 1
        simp [Ex.wr]; omega
    | and l =>
      simp only [Ex.wt] at hw
      have hA : ∀ d, (Ex.and l).dA ≤ d → Reads (fun s => andR s (oneR s d)) TA ((Ex.and l).wr 1) (.and l) := fun d hd => and_parts hf.1 fun y hy => (ih y (by have := Ex.wt_mem hy; omega) (Ex.fine_mem hf.2 hy)).1 d (by
        have : Ex.depL l ≤ d := by simpa [Ex.dA, Ex.isAnd, Ex.dep] using hd
        exact Ex.depL_le.1 this y hy)
      have hO : ∀ d, (Ex.and l).dO ≤ d → Reads (fun s => orR s (oneR s d)) TO ((Ex.and l).wr 0) (.and l) := fun d hd => or_one (hA d (by simpa [Ex.dO, Ex.isOr] using hd)) rfl
      refine ⟨fun d hd => ?_, hA, hO⟩
      obtain ⟨d, rfl⟩ : ∃ k, d = k + 1 := ⟨d - 1, by simp only [Ex.dep] at hd; omega⟩
      have e : (Ex.and l).wr 2 = 40 :: (Ex.and l).wr 0 ++ [41] := by rw [Ex.wr_two]; rfl
      rw [e]
      exact one_paren (hO d (by simp [Ex.dO, Ex.isOr, Ex.dA, Ex.isAnd, Ex.dep] at hd ⊢; omega))
    | or l =>
      simp only [Ex.wt] at hw
      have hO : ∀ d, (Ex.or l).dO ≤ d → Reads (fun s => orR s (oneR s d)) TO ((Ex.or l).wr 0) (.or l) := fun d hd => or_parts hf.1 fun y hy => (ih y (by have := Ex.wt_mem hy; omega) (Ex.fine_mem hf.2 hy)).2.1 d (by
        have : Ex.depO l ≤ d := by simpa [Ex.dO, Ex.isOr, Ex.dep] using hd
        exact Ex.depO_le.1 this y hy)
      have h1 : ∀ d, (Ex.or l).dep ≤ d → Reads (fun s => oneR s d) T9 ((Ex.or l).wr 2) (.or l) := fun d hd => by
        obtain ⟨d, rfl⟩ : ∃ k, d = k + 1 := ⟨d - 1, by simp only [Ex.dep] at hd; omega⟩
        have e : (Ex.or l).wr 2 = 40 :: (Ex.or l).wr 0 ++ [41] := by rw [Ex.wr_two]; rfl
        rw [e]
        exact one_paren (hO d (by simp [Ex.dO, Ex.isOr, Ex.dep] at hd ⊢; omega))
      exact ⟨h1, fun d hd => and_one (h1 d (by simpa [Ex.dA, Ex.isAnd] using hd)) rfl, hO⟩
/-- what a text tells is the expression again -/
theorem orR_text {x : Ex} (hf : x.fine) {d : Nat} (hd : x.dO ≤ d) : ∃ j, orR (x.wr 0) (oneR (x.wr 0) d) 0 = .ok x j ∧ skipTo (x.wr 0) j = (x.wr 0).length := by
  obtain ⟨j, h1, h2⟩ := (reads_all (x.wt + 1) x (by omega) hf).2.2 d hd [] [] ⟨.inl rfl, by simp [fnb], by simp [fnb]⟩
  simp only [List.nil_append, List.append_nil, List.length_nil, Nat.zero_add] at h1 h2
  refine ⟨j, h1, h2.trans (skipTo_stop (by rw [List.getElem?_eq_none (by omega)]; simp))⟩
theorem parse_text {x : Ex} (hf : x.fine) (hd : x.dO ≤ 20) : parseR (x.wr 0) = .ok x (x.wr 0).length := by
  obtain ⟨j, h1, h2⟩ := orR_text hf hd
  unfold parseR
  rw [h1]
  simp only
  rw [h2, if_neg (by omega)]
theorem wr_inj {x y : Ex} (hx : x.fine) (hy : y.fine) (h : x.wr 0 = y.wr 0) : x = y := by
  obtain ⟨j, h1, _⟩ := orR_text hx (d := x.dO + y.dO) (by omega)
  obtain ⟨k, h2, _⟩ := orR_text hy (d := x.dO + y.dO) (by omega)
  rw [h, h2] at h1
  injection h1 with h1 _
  exact h1.symm
end Go.Sc
namespace Go.Sc
open Go
set_option linter.unusedSimpArgs false
set_option linter.unusedVariables false
set_option linter.unnecessarySimpa false

structure SizeBodies (E : Env) (P : Program) : Prop where
  size : Body1 E P 156 F.expr_Size
  size1 : Body2 E P 160 F.expr_Size_c1
  walk : Body2 E P 161 F.expr_walk
section
variable {E : Env} {P : Program}
theorem size1_spec (B : SizeBodies E P) (y : Ex) (n : Nat) (hn : n < 1000000000) : PC E P 160 1 [Z n] (fun b g => [y.enc, .ptrL b 0 g]) (fun r cs => r = .tup [] ∧ cs = [Z ((n + 1 : Nat) : Int)]) := by
  refine PC.of (fun f g => by simp only [AV.renL, AV.ren, AV.ren_closed _ (Ex.enc_closed y)]) ⟨trivial, trivial⟩ (by rintro r cs ⟨rfl, rfl⟩; exact ⟨trivial, trivial, trivial⟩) fun c g R hR => B.size1 _ _ _ _ ?_
  unfold F.expr_Size_c1
  simp only [nd0, Y1n, Y1o, Y1p, Y1q, Y1w, Y1x, Y1y, Y1z, Y20, Y21, Y28, Y2a, AV.cells?, Nat.reduceAdd, Nat.reduceMul]
  rw [binA_succ (by omega)]
  simp only [nd0, Y1n, Y1o, Y1p, Y1q, Y1w, Y1x, Y1y, Y1z, Y20, Y21, Y28, Y2a, AV.cells?, Nat.reduceAdd, Nat.reduceMul]
  rw [store1_L rfl]
  simp only [nd0, Y1n, Y1o, Y1p, Y1q, Y1w, Y1x, Y1y, Y1z, Y20, Y21, Y28, Y2a, AV.cells?, Nat.reduceAdd, Nat.reduceMul, Nat.reduceLT]
  exact hR _ _ [Z ((n + 1 : Nat) : Int)] [] c (.same _) ⟨rfl, rfl⟩
theorem walkL_spec (B : SizeBodies E P) (l : List Ex) (hl : ∀ x ∈ l, ∀ n : Nat, n + x.size < 1000000000 → PC E P 161 1 [Z n] (fun b g => [x.enc, .fn 160 [] [.ptrL b 0 g]]) (fun r cs => r = .tup [] ∧ cs = [Z ((n + x.size : Nat) : Int)])) (hlen : l.length < 1000000000) (n : Nat) (hn : n + Ex.sizeL l < 1000000000) {g c : Nat} {R : Kt} (rest : List Blk)
    (hR : ∀ c, R (.tup []) ⟨.cells g 1 [Z ((n + Ex.sizeL l : Nat) : Int)] :: rest, c⟩) :
    wLoop 1 (fun I1 => I1 (Z 0) ⟨.cells g 1 [Z n] :: rest, c⟩) fun I1 t27 H =>
      wGet (binA .lss t27 (Z l.length)) H fun t28 H =>
      wIf t28 (
        wGet (iaddr 1 (.slN (Ex.encL l) l.length) t27) H fun t29 H =>
        wGet (load1 t29 H) H fun t30 H =>
        wCall E P 161 [t30, .fn 160 [] [.ptrL 0 0 g]] H fun t33 H =>
        wGet (binA .add t27 (.val (.int .i64 1))) H fun t34 H =>
        I1 t34 H) (
        R (.tup []) H) := by
  refine wLoop.one (fun m i H => ∃ pre r c, l = pre ++ r ∧ i = Z pre.length ∧ m = r.length ∧ H = ⟨.cells g 1 [Z ((n + Ex.sizeL pre : Nat) : Int)] :: rest, c⟩) l.length (gh1.mk ⟨[], l, c, rfl, rfl, rfl, by simp [Ex.sizeL]⟩) ?_
  rintro m i H ⟨pre, r, c, rfl, rfl, rfl, rfl⟩
  have happ : ∀ a b : List Ex, Ex.sizeL (a ++ b) = Ex.sizeL a + Ex.sizeL b := fun a b => by
    induction a with
    | nil => simp [Ex.sizeL]
    | cons x a ih => simp only [List.cons_append, Ex.sizeL, ih]; omega
  cases r with
  | nil =>
    rw [List.append_nil] at hR ⊢
    simp only [nd0, Y1n, Y1o, Y1p, Y1q, Y1w, Y1x, Y1y, Y1z, Y20, Y21, Y28, Y2a, AV.cells?, Nat.reduceAdd, Nat.reduceMul, Int.lt_irrefl]
    exact hR c
  | cons x r =>
    rw [happ] at hn
    simp only [Ex.sizeL] at hn
    simp only [nd0, Y1n, Y1o, Y1p, Y1q, Y1w, Y1x, Y1y, Y1z, Y20, Y21, Y28, Y2a, AV.cells?, Nat.reduceAdd, Nat.reduceMul, decide_eq_true (show (pre.length : Int) < ((pre ++ x :: r).length : Int) by simp; omega)]
    rw [iaddr_Nn lt_mid]
    simp only [nd0, Y1n, Y1o, Y1p, Y1q, Y1w, Y1x, Y1y, Y1z, Y20, Y21, Y28, Y2a, AV.cells?, Nat.reduceAdd, Nat.reduceMul, show (Ex.encL (pre ++ x :: r))[pre.length]? = some x.enc by rw [Ex.encL_map]; simp]
    refine wCall.pc (b := 0) (hl x (by simp) (n + Ex.sizeL pre) (by omega)) rfl rfl ?_
    rintro rr cs n3 ⟨rfl, rfl⟩
    rw [binA_succ (by simp at hlen; omega)]
    simp only [nd0, Y1n, Y1o, Y1p, Y1q, Y1w, Y1x, Y1y, Y1z, Y20, Y21, Y28, Y2a, AV.cells?, Nat.reduceAdd, Nat.reduceMul]
    refine back1.mk r.length (by simp) ⟨pre ++ [x], r, n3, by simp, by simp, rfl, ?_⟩
    rw [happ]
    simp only [Ex.sizeL]
    congr 5; omega
theorem walk_spec (B : SizeBodies E P) : ∀ (k : Nat) (x : Ex), x.wt < k → x.wt ≤ 1000000 → x.fine → ∀ n : Nat, n + x.size < 1000000000 → PC E P 161 1 [Z n] (fun b g => [x.enc, .fn 160 [] [.ptrL b 0 g]]) (fun r cs => r = .tup [] ∧ cs = [Z ((n + x.size : Nat) : Int)]) := by
  intro k
  induction k with
  | zero => intro x h; omega
  | succ k ih =>
    intro x hx hw hf n hn
    refine PC.of (fun f g => by simp only [AV.renL, AV.ren, AV.ren_closed _ (Ex.enc_closed x)]) ⟨trivial, trivial⟩ (by rintro r cs ⟨rfl, rfl⟩; exact ⟨trivial, trivial, trivial⟩) fun c g R hR => B.walk _ _ _ _ ?_
    unfold F.expr_walk
    have h1 : 1 ≤ x.size := by cases x <;> simp [Ex.size]
    refine wCallV.pc (b := 0) (size1_spec B x n (by omega)) rfl rfl ?_
    rintro r cs c2 ⟨rfl, rfl⟩
    have fin : ∀ rest c, x.size = 1 → R (.tup []) ⟨.cells g 1 [Z ((n + 1 : Nat) : Int)] :: rest, c⟩ := fun rest c h => hR _ _ _ rest c (.same _) ⟨rfl, by rw [h]⟩
    cases x with
    | k b => simp only [Ex.enc]; simp only [nd0, Y1n, Y1o, Y1p, Y1q, Y1w, Y1x, Y1y, Y1z, Y20, Y21, Y28, Y2a, AV.cells?, Nat.reduceAdd, Nat.reduceMul, asA, show (11 : Nat) = 10 ↔ False by decide, show (11 : Nat) = 9 ↔ False by decide, show (11 : Nat) = 8 ↔ False by decide]; exact fin [] c2 rfl
    | bit b => simp only [Ex.enc]; simp only [nd0, Y1n, Y1o, Y1p, Y1q, Y1w, Y1x, Y1y, Y1z, Y20, Y21, Y28, Y2a, AV.cells?, Nat.reduceAdd, Nat.reduceMul, asA, show (14 : Nat) = 10 ↔ False by decide, show (14 : Nat) = 9 ↔ False by decide, show (14 : Nat) = 8 ↔ False by decide]; exact fin [] c2 rfl
    | rise b => simp only [Ex.enc]; simp only [nd0, Y1n, Y1o, Y1p, Y1q, Y1w, Y1x, Y1y, Y1z, Y20, Y21, Y28, Y2a, AV.cells?, Nat.reduceAdd, Nat.reduceMul, asA, show (12 : Nat) = 10 ↔ False by decide, show (12 : Nat) = 9 ↔ False by decide, show (12 : Nat) = 8 ↔ False by decide]; exact fin [] c2 rfl
    | fall b => simp only [Ex.enc]; simp only [nd0, Y1n, Y1o, Y1p, Y1q, Y1w, Y1x, Y1y, Y1z, Y20, Y21, Y28, Y2a, AV.cells?, Nat.reduceAdd, Nat.reduceMul, asA, show (13 : Nat) = 10 ↔ False by decide, show (13 : Nat) = 9 ↔ False by decide, show (13 : Nat) = 8 ↔ False by decide]; exact fin [] c2 rfl
    | not y =>
      simp only [Ex.enc]
      simp only [Ex.wt] at hw hx
      simp only [Ex.size] at hn hR
      simp only [nd0, Y1n, Y1o, Y1p, Y1q, Y1w, Y1x, Y1y, Y1z, Y20, Y21, Y28, Y2a, AV.cells?, Nat.reduceAdd, Nat.reduceMul, asA, show (10 : Nat) = 10 ↔ True by decide]
      refine wNew.L (l := [nilE]) rfl ?_
      simp only [nd0, Y1n, Y1o, Y1p, Y1q, Y1w, Y1x, Y1y, Y1z, Y20, Y21, Y28, Y2a, AV.cells?, Nat.reduceAdd, Nat.reduceMul]
      rw [storeN_L (n := 1) (xs := [y.enc]) rfl (by simp [Ex.enc_scalar])]
      simp only [nd0, Y1n, Y1o, Y1p, Y1q, Y1w, Y1x, Y1y, Y1z, Y20, Y21, Y28, Y2a, AV.cells?, Nat.reduceAdd, Nat.reduceMul, show putL [nilE] 0 [y.enc] = some [y.enc] from rfl]
      refine wCall.pc (b := 0) (ih y (by omega) (by omega) hf (n + 1) (by omega)) rfl rfl ?_
      rintro r cs c3 ⟨rfl, rfl⟩
      refine hR _ _ _ _ c3 (.same _) ⟨rfl, ?_⟩
      congr 3; omega
    | and l =>
      simp only [Ex.enc]
      simp only [Ex.wt] at hw hx
      simp only [Ex.size] at hn hR
      have hll := Ex.len_wtL hf.2
      simp only [nd0, Y1n, Y1o, Y1p, Y1q, Y1w, Y1x, Y1y, Y1z, Y20, Y21, Y28, Y2a, AV.cells?, Nat.reduceAdd, Nat.reduceMul, asA, show (9 : Nat) = 10 ↔ False by decide, show (9 : Nat) = 9 ↔ True by decide]
      refine walkL_spec B l (fun y hy => ih y (by have := Ex.wt_mem hy; omega) (by have := Ex.wt_mem hy; omega) (Ex.fine_mem hf.2 hy)) (by omega) (n + 1) (by omega) [] fun c => ?_
      refine hR _ _ _ [] c (.same _) ⟨rfl, ?_⟩
      congr 3; omega
    | or l =>
      simp only [Ex.enc]
      simp only [Ex.wt] at hw hx
      simp only [Ex.size] at hn hR
      have hll := Ex.len_wtL hf.2
      simp only [nd0, Y1n, Y1o, Y1p, Y1q, Y1w, Y1x, Y1y, Y1z, Y20, Y21, Y28, Y2a, AV.cells?, Nat.reduceAdd, Nat.reduceMul, asA, show (8 : Nat) = 10 ↔ False by decide, show (8 : Nat) = 9 ↔ False by decide, show (8 : Nat) = 8 ↔ True by decide]
      refine walkL_spec B l (fun y hy => ih y (by have := Ex.wt_mem hy; omega) (by have := Ex.wt_mem hy; omega) (Ex.fine_mem hf.2 hy)) (by omega) (n + 1) (by omega) [] fun c => ?_
      refine hR _ _ _ [] c (.same _) ⟨rfl, ?_⟩
      congr 3; omega
theorem Size_spec (B : SizeBodies E P) (x : Ex) (hw : x.wt ≤ 1000000) (hf : x.fine) : FX E P 156 [x.enc] (Z x.size) := by
  refine FX.of' ⟨Ex.enc_closed x, trivial⟩ trivial fun n R hR => B.size _ _ _ ?_
  unfold F.expr_Size
  refine wNew.L (l := [Z 0]) rfl ?_
  simp only [nd0, Y1n, Y1o, Y1p, Y1q, Y1w, Y1x, Y1y, Y1z, Y20, Y21, Y28, Y2a, AV.cells?, Nat.reduceAdd, Nat.reduceMul]
  rw [store1_L rfl]
  simp only [nd0, Y1n, Y1o, Y1p, Y1q, Y1w, Y1x, Y1y, Y1z, Y20, Y21, Y28, Y2a, AV.cells?, Nat.reduceAdd, Nat.reduceMul, Nat.reduceLT]
  have := Ex.size_wt x hf
  refine wCall.pc (b := 0) (walk_spec B (x.wt + 1) x (by omega) hw hf 0 (by omega)) rfl rfl ?_
  rintro r cs c2 ⟨rfl, rfl⟩
  simp only [nd0, Y1n, Y1o, Y1p, Y1q, Y1w, Y1x, Y1y, Y1z, Y20, Y21, Y28, Y2a, AV.cells?, Nat.reduceAdd, Nat.reduceMul]
  exact hR _ _ (by simp)
end

/-! ### a fact: an expression of two -/
structure KeepExprBodies (E : Env) (P : Program) : Prop where
  p : ParseBodies E P
  w : WriteBodies E P
  e : EvalBodies E P
  says : Body0 E P 155 F.keep_says
section
variable {E : Env} {P : Program}
def saysEx : Ex := .and [.bit [97], .not (.bit [98])]
theorem saysEx_text : saysEx.wr 0 = [97, 32, 38, 32, 33, 98] := by rfl
theorem saysEx_fine : saysEx.fine := ⟨by simp, by show nameOk [97] = true; decide, by show nameOk [98] = true; decide, trivial⟩
theorem saysEx_parse : parseA [97, 32, 38, 32, 33, 98] = .tup [saysEx.enc, nilE] := by
  have h := parse_text saysEx_fine (by decide)
  rw [saysEx_text] at h
  unfold parseA
  rw [if_neg (by decide), h]
theorem says_spec (B : KeepExprBodies E P) : FX E P 155 [] (Bo true) := by
  refine FX.of' trivial trivial fun n R hR => B.says _ _ ?_
  unfold F.keep_says
  have hp := Parse_spec B.p [97, 32, 38, 32, 33, 98]
  rw [saysEx_parse] at hp
  have nilT : TXL nilS [] := .inl ⟨rfl, rfl⟩
  refine wCall.fx hp fun n => ?_
  have hne : eqA .iface saysEx.enc nilE = some false := rfl
  simp only [nd0, Y1n, Y1o, Y1p, Y1q, Y1w, Y1x, Y1y, Y1z, Y20, Y21, Y28, Y2a, AV.cells?, Nat.reduceAdd, Nat.reduceMul, hne]
  have hS : ∀ l : List Str, (fillA (List.replicate l.length [S []]).flatten []) = (fillA (List.replicate l.length [S []]).flatten []) := fun _ => rfl
  have hwt : saysEx.wt ≤ 1000000 := by decide
  refine wNewS.F' (l := [S [97]]) rfl rfl ?_
  have t1 : TXL (.slN [S [97]] 1) [[97]] := .inr rfl
  refine wCall.fx (among_spec B.e t1) fun n => ?_
  refine wCall.fx (among_spec B.e nilT) fun n => ?_
  refine wCall.fx (Eval_spec B.e (among_asks B.e t1 (by decide)) (among_asks B.e nilT (by decide)) (saysEx.wt + 1) saysEx (by omega) hwt saysEx_fine) fun n => ?_
  rw [show saysEx.says (fun s => decide (s ∈ [[97]])) (fun s => decide (s ∈ ([] : List Str))) = true by decide]
  simp only [nd0, Y1n, Y1o, Y1p, Y1q, Y1w, Y1x, Y1y, Y1z, Y20, Y21, Y28, Y2a, AV.cells?, Nat.reduceAdd, Nat.reduceMul]
  refine wNewS.F' (l := [S [97], S [98]]) rfl rfl ?_
  have t2 : TXL (.slN [S [97], S [98]] 2) [[97], [98]] := .inr rfl
  refine wCall.fx (among_spec B.e t2) fun n => ?_
  refine wCall.fx (among_spec B.e nilT) fun n => ?_
  refine wCall.fx (Eval_spec B.e (among_asks B.e t2 (by decide)) (among_asks B.e nilT (by decide)) (saysEx.wt + 1) saysEx (by omega) hwt saysEx_fine) fun n => ?_
  rw [show saysEx.says (fun s => decide (s ∈ [[97], [98]])) (fun s => decide (s ∈ ([] : List Str))) = false by decide]
  simp only [nd0, Y1n, Y1o, Y1p, Y1q, Y1w, Y1x, Y1y, Y1z, Y20, Y21, Y28, Y2a, AV.cells?, Nat.reduceAdd, Nat.reduceMul]
  refine wCall.fx (Text_spec B.w saysEx hwt saysEx_fine) fun n => ?_
  rw [saysEx_text]
  simp only [nd0, Y1n, Y1o, Y1p, Y1q, Y1w, Y1x, Y1y, Y1z, Y20, Y21, Y28, Y2a, AV.cells?, Nat.reduceAdd, Nat.reduceMul]
  exact hR _ _ rfl
end
end Go.Sc
namespace Go.Sc
open Go
set_option linter.unusedSimpArgs false
set_option linter.unusedVariables false
set_option linter.unnecessarySimpa false

structure BackBodies (E : Env) (P : Program) : Prop where
  k : KeepExprBodies E P
  s : SizeBodies E P
theorem TXL_Lm (l : List Str) : TXL (Lm S l) l := .inr rfl
section
variable {E : Env} {P : Program}
theorem parseA_ok {s : Str} (h : s.length ≤ 2000) : (∃ e p, parseA s = .tup [nilE, At e p]) ∨ ∃ x j, parseR s = .ok x j ∧ parseA s = .tup [x.enc, nilE] := by
  unfold parseA
  rw [if_neg (by omega)]
  cases hp : parseR s with
  | no e p => exact .inl ⟨e, p, rfl⟩
  | ok x j => exact .inr ⟨x, j, rfl, rfl⟩
set_option maxHeartbeats 1000000 in
theorem ExprBack_body (B : BackBodies E P) (s : Str) (l m : List Str) (n : Nat) : F.keep_ExprBack E P (S s) (Lm S l) (Lm S m) ⟨[], n⟩ (fun r _ => r = Bo true) := by
  unfold F.keep_ExprBack
  rw [Lm_S, Lm_S]
  simp only [nd0, Y1n, Y1o, Y1p, Y1q, Y1w, Y1x, Y1y, Y1z, Y20, Y21, Y28, Y2a, AV.cells?, Nat.reduceAdd, Nat.reduceMul]
  by_cases h1 : 900 < s.length
  · simp only [nd0, Y1n, Y1o, Y1p, Y1q, Y1w, Y1x, Y1y, Y1z, Y20, Y21, Y28, Y2a, AV.cells?, Nat.reduceAdd, Nat.reduceMul, decide_eq_true (show (900 : Int) < (s.length : Int) by omega)]
  simp only [nd0, Y1n, Y1o, Y1p, Y1q, Y1w, Y1x, Y1y, Y1z, Y20, Y21, Y28, Y2a, AV.cells?, Nat.reduceAdd, Nat.reduceMul, decide_eq_false (show ¬ (900 : Int) < (s.length : Int) by omega)]
  by_cases h2 : 20 < l.length
  · simp only [nd0, Y1n, Y1o, Y1p, Y1q, Y1w, Y1x, Y1y, Y1z, Y20, Y21, Y28, Y2a, AV.cells?, Nat.reduceAdd, Nat.reduceMul, decide_eq_true (show (20 : Int) < (l.length : Int) by omega)]
  simp only [nd0, Y1n, Y1o, Y1p, Y1q, Y1w, Y1x, Y1y, Y1z, Y20, Y21, Y28, Y2a, AV.cells?, Nat.reduceAdd, Nat.reduceMul, decide_eq_false (show ¬ (20 : Int) < (l.length : Int) by omega)]
  by_cases h3 : 20 < m.length
  · simp only [nd0, Y1n, Y1o, Y1p, Y1q, Y1w, Y1x, Y1y, Y1z, Y20, Y21, Y28, Y2a, AV.cells?, Nat.reduceAdd, Nat.reduceMul, decide_eq_true (show (20 : Int) < (m.length : Int) by omega)]
  simp only [nd0, Y1n, Y1o, Y1p, Y1q, Y1w, Y1x, Y1y, Y1z, Y20, Y21, Y28, Y2a, AV.cells?, Nat.reduceAdd, Nat.reduceMul, decide_eq_false (show ¬ (20 : Int) < (m.length : Int) by omega)]
  have hp := Parse_spec B.k.p s
  refine wCall.fx hp fun n => ?_
  rcases parseA_ok (s := s) (by omega) with ⟨e, p, hA⟩ | ⟨x, j, hx, hA⟩
  · rw [hA]
    simp only [nd0, Y1n, Y1o, Y1p, Y1q, Y1w, Y1x, Y1y, Y1z, Y20, Y21, Y28, Y2a, AV.cells?, Nat.reduceAdd, Nat.reduceMul]
    refine wCall.fx (says_spec B.k) fun n => ?_
    simp only [nd0, Y1n, Y1o, Y1p, Y1q, Y1w, Y1x, Y1y, Y1z, Y20, Y21, Y28, Y2a, AV.cells?, Nat.reduceAdd, Nat.reduceMul, eqA_At]
    refine wCall.fx (says_spec B.k) fun n => ?_
    simp only [nd0, Y1n, Y1o, Y1p, Y1q, Y1w, Y1x, Y1y, Y1z, Y20, Y21, Y28, Y2a, AV.cells?, Nat.reduceAdd, Nat.reduceMul, beq_self_eq_true]
  · rw [hA]
    obtain ⟨hw, hf⟩ := parseR_good hx
    have hd := parseR_dep hx
    have hne : eqA .iface x.enc nilE = some false := by cases x <;> rfl
    simp only [nd0, Y1n, Y1o, Y1p, Y1q, Y1w, Y1x, Y1y, Y1z, Y20, Y21, Y28, Y2a, AV.cells?, Nat.reduceAdd, Nat.reduceMul]
    refine wCall.fx (says_spec B.k) fun n => ?_
    simp only [nd0, Y1n, Y1o, Y1p, Y1q, Y1w, Y1x, Y1y, Y1z, Y20, Y21, Y28, Y2a, AV.cells?, Nat.reduceAdd, Nat.reduceMul]
    have hT := Text_spec B.k.w x (by omega) hf
    refine wCall.fx hT fun n => ?_
    simp only [nd0, Y1n, Y1o, Y1p, Y1q, Y1w, Y1x, Y1y, Y1z, Y20, Y21, Y28, Y2a, AV.cells?, Nat.reduceAdd, Nat.reduceMul]
    by_cases h4 : 2000 < (x.wr 0).length
    · simp only [nd0, Y1n, Y1o, Y1p, Y1q, Y1w, Y1x, Y1y, Y1z, Y20, Y21, Y28, Y2a, AV.cells?, Nat.reduceAdd, Nat.reduceMul, decide_eq_true (show (2000 : Int) < ((x.wr 0).length : Int) by omega)]
    simp only [nd0, Y1n, Y1o, Y1p, Y1q, Y1w, Y1x, Y1y, Y1z, Y20, Y21, Y28, Y2a, AV.cells?, Nat.reduceAdd, Nat.reduceMul, decide_eq_false (show ¬ (2000 : Int) < ((x.wr 0).length : Int) by omega)]
    have hp2 := Parse_spec B.k.p (x.wr 0)
    unfold parseA at hp2
    rw [if_neg h4, parse_text hf hd] at hp2
    refine wCall.fx hp2 fun n => ?_
    simp only [nd0, Y1n, Y1o, Y1p, Y1q, Y1w, Y1x, Y1y, Y1z, Y20, Y21, Y28, Y2a, AV.cells?, Nat.reduceAdd, Nat.reduceMul, hne]
    refine wCall.fx hT fun n => ?_
    simp only [nd0, Y1n, Y1o, Y1p, Y1q, Y1w, Y1x, Y1y, Y1z, Y20, Y21, Y28, Y2a, AV.cells?, Nat.reduceAdd, Nat.reduceMul, decide_eq_true (show Ex.wr 0 x = Ex.wr 0 x from rfl)]
    refine wCall.fx (Size_spec B.s x (by omega) hf) fun n => ?_
    simp only [nd0, Y1n, Y1o, Y1p, Y1q, Y1w, Y1x, Y1y, Y1z, Y20, Y21, Y28, Y2a, AV.cells?, Nat.reduceAdd, Nat.reduceMul]
    refine wCall.fx (Size_spec B.s x (by omega) hf) fun n => ?_
    simp only [nd0, Y1n, Y1o, Y1p, Y1q, Y1w, Y1x, Y1y, Y1z, Y20, Y21, Y28, Y2a, AV.cells?, Nat.reduceAdd, Nat.reduceMul, decide_eq_true (show (x.size : Int) = (x.size : Int) from rfl)]
    have a1 := among_asks B.k.e (TXL_Lm l) (by omega)
    have a2 := among_asks B.k.e (TXL_Lm m) (by omega)
    have hE := Eval_spec B.k.e a1 a2 (x.wt + 1) x (by omega) (by omega) hf
    refine wCall.fx (among_spec B.k.e (TXL_Lm l)) fun n => ?_
    simp only [nd0, Y1n, Y1o, Y1p, Y1q, Y1w, Y1x, Y1y, Y1z, Y20, Y21, Y28, Y2a, AV.cells?, Nat.reduceAdd, Nat.reduceMul]
    refine wCall.fx (among_spec B.k.e (TXL_Lm m)) fun n => ?_
    simp only [nd0, Y1n, Y1o, Y1p, Y1q, Y1w, Y1x, Y1y, Y1z, Y20, Y21, Y28, Y2a, AV.cells?, Nat.reduceAdd, Nat.reduceMul]
    refine wCall.fx hE fun n => ?_
    simp only [nd0, Y1n, Y1o, Y1p, Y1q, Y1w, Y1x, Y1y, Y1z, Y20, Y21, Y28, Y2a, AV.cells?, Nat.reduceAdd, Nat.reduceMul]
    refine wCall.fx (among_spec B.k.e (TXL_Lm l)) fun n => ?_
    simp only [nd0, Y1n, Y1o, Y1p, Y1q, Y1w, Y1x, Y1y, Y1z, Y20, Y21, Y28, Y2a, AV.cells?, Nat.reduceAdd, Nat.reduceMul]
    refine wCall.fx (among_spec B.k.e (TXL_Lm m)) fun n => ?_
    simp only [nd0, Y1n, Y1o, Y1p, Y1q, Y1w, Y1x, Y1y, Y1z, Y20, Y21, Y28, Y2a, AV.cells?, Nat.reduceAdd, Nat.reduceMul]
    refine wCall.fx hE fun n => ?_
    simp only [nd0, Y1n, Y1o, Y1p, Y1q, Y1w, Y1x, Y1y, Y1z, Y20, Y21, Y28, Y2a, AV.cells?, Nat.reduceAdd, Nat.reduceMul, beq_self_eq_true]
end
end Go.Sc
namespace Go.Sc
set_option linter.unusedSimpArgs false
open Go Go.RowKit
section
variable {E : Env} {P : Program}
theorem intercalate_joinS (sep : Str) : ∀ l : List Str, sep.intercalate l = joinS sep l
  | [] => by simp [List.intercalate, joinS]
  | [x] => by simp [List.intercalate, joinS]
  | x :: y :: l => by
    have := intercalate_joinS sep (y :: l)
    simp only [List.intercalate, List.intersperse, List.flatten_cons, joinS] at this ⊢
    rw [this]; simp
theorem indexByte_idx (c : UInt8) : ∀ s : Str, Lib.indexByte s c = idx s c
  | [] => by simp [Lib.indexByte, idx]
  | x :: s => by
    have ih := indexByte_idx c s
    unfold Lib.indexByte
    by_cases h : x = c
    · subst h; simp [idx]
    · have h' : ¬ c = x := fun e => h e.symm
      have hb : (x == c) = false := by simpa using h
      by_cases hm : c ∈ s
      · simp [idx, hm, h, h', ih, List.idxOf_cons, hb] <;> omega
      · simp [idx, hm, h, h', ih]
theorem cell_in {w : World} {b o : Nat} {v : Value} (h : w.cell? ⟨b, o, none⟩ = some v) : b < w.heap.size := by
  by_cases hb : b < w.heap.size
  · exact hb
  · simp [World.cell?, Array.getElem?_eq_none (Nat.le_of_not_lt hb)] at h
theorem FX.indexByte {k : Nat} {fn : Func} (hf : P.funcs[E.fn k]? = some fn) (hn : (fn.name == "runtime.NumGoroutine") = false) (hb : fn.body.isNone = false)
    (h : ∀ (s : ByteArray) (c : Int) (w : World), Calls P (E.fn k) #[.string s, .int .u8 c] w fun e w' => e = .returned (.int .i64 (Lib.indexByte s.data.toList c.toNat.toUInt8)) ∧ w' = w) (s : Str) (c : UInt8) : FX E P k [S s, By c] (Z (idx s c)) := by
  refine FX.ofCalls hf hn hb (by simp [AV.closedL, AV.closed]) (by simp [AV.flat]) (by simp [AV.closed]) fun cx vs _ _ hv => ?_
  simp only [LRel, VRel] at hv
  obtain ⟨v0, _, rfl, rfl, v1, _, rfl, rfl, rfl⟩ := hv
  refine (h ⟨s.toArray⟩ c.toNat cx.w).mono ?_
  rintro e w' ⟨rfl, rfl⟩
  refine ⟨_, rfl, Below.refl _ _, ?_⟩
  have e1 : (((c.toNat : Nat) : Int).toNat).toUInt8 = c := by simp
  rw [e1, indexByte_idx]
  simp [VRel]
theorem FX.join {k : Nat} {fn : Func} (hf : P.funcs[E.fn k]? = some fn) (hn : (fn.name == "runtime.NumGoroutine") = false) (hb : fn.body.isNone = false)
    (h0 : ∀ (a : Option Addr) (c : Nat) (sep : ByteArray) (w : World), Calls P (E.fn k) #[.slice a 0 c, .string sep] w fun e w' => e = .returned (.string ⟨#[]⟩) ∧ w' = w)
    (h1 : ∀ (bk o c : Nat) (xs : List ByteArray) (sep : ByteArray) (w : World), (∀ (j : Nat) x, xs[j]? = some x → w.cell? ⟨bk, o + j, none⟩ = some (.string x)) → bk < w.heap.size → xs.length ≤ 140737488355328 → xs.length ≤ c → (Lib.join (xs.map (·.data.toList)) sep.data.toList).length ≤ 140737488355328 →
      Calls P (E.fn k) #[.slice (some ⟨bk, o, none⟩) xs.length c, .string sep] w fun e w' => e = .returned (.string ⟨(Lib.join (xs.map (·.data.toList)) sep.data.toList).toArray⟩) ∧ Below w.heap.size w w')
    (l : List Str) (sep : Str) (hl : l.length ≤ 140737488355328) (hj : (joinS sep l).length ≤ 140737488355328) : FX E P k [Lm S l, S sep] (S (joinS sep l)) := by
  refine FX.ofCalls hf hn hb (by simp only [AV.closedL, Lm, AV.closed]; exact ⟨closed_S l, trivial, trivial⟩) (by simp [AV.flat]) (by simp [AV.closed]) fun cx vs _ _ hv => ?_
  simp only [LRel] at hv
  obtain ⟨v0, _, rfl, hv0, v1, _, rfl, hv1, rfl⟩ := hv
  simp only [VRel] at hv1
  subst hv1
  simp only [Lm, VRel] at hv0
  cases l with
  | nil =>
    have hz : ∃ a c, v0 = .slice a 0 c := by
      rcases hv0 with ⟨rfl, _⟩ | ⟨p, cap, rfl, _⟩
      · exact ⟨_, _, rfl⟩
      · exact ⟨_, _, rfl⟩
    obtain ⟨a, c, rfl⟩ := hz
    refine (h0 a c ⟨sep.toArray⟩ cx.w).mono ?_
    rintro e w' ⟨rfl, rfl⟩
    exact ⟨_, rfl, Below.refl _ _, by simp [VRel, joinS]⟩
  | cons x l =>
    rcases hv0 with ⟨_, h⟩ | ⟨p, cap, rfl, hcap, hc⟩
    · simp at h
    rcases hc with hc | ⟨b, o, rfl, hc⟩
    · simp at hcap; omega
    have hcells : ∀ (j : Nat) y, ((x :: l).map fun s : Str => (⟨s.toArray⟩ : ByteArray))[j]? = some y → cx.w.cell? ⟨b, o + j, none⟩ = some (.string y) := fun j y hy => by
      rw [List.getElem?_map] at hy
      simp only [Option.map_eq_some_iff] at hy
      obtain ⟨s, hs, rfl⟩ := hy
      obtain ⟨u, hu, hv⟩ := hc.get (i := j) (x := S s) (by rw [List.getElem?_map, hs]; rfl)
      simp only [VRel] at hv
      rw [hu, hv]
    have hb0 := cell_in (hcells 0 ⟨x.toArray⟩ (by simp))
    have hlen : ((x :: l).map fun s : Str => (⟨s.toArray⟩ : ByteArray)).length = (x :: l).length := by simp
    have hjj : Lib.join (((x :: l).map fun s : Str => (⟨s.toArray⟩ : ByteArray)).map (·.data.toList)) (⟨sep.toArray⟩ : ByteArray).data.toList = joinS sep (x :: l) := by
      unfold Lib.join
      rw [List.map_map, intercalate_joinS]
      congr 1
      simp [Function.comp_def]
    have := h1 b o cap ((x :: l).map fun s => ⟨s.toArray⟩) ⟨sep.toArray⟩ cx.w hcells hb0 (by rw [hlen]; exact hl) (by rw [hlen]; exact hcap) (by rw [hjj]; exact hj)
    rw [hlen, hjj] at this
    refine this.mono ?_
    rintro e w' ⟨rfl, bel⟩
    exact ⟨_, rfl, bel, by simp [VRel]⟩
end
end Go.Sc
namespace Go.Sc
open Go Go.RowKit Go.Sort Go.Proofs
set_option linter.unusedSimpArgs false
set_option linter.unusedVariables false
section
variable {E : Env} {P : Program} {c : Cx} {H : AH}
theorem HRel.more (h : HRel E c H) (os : Array Obj) : HRel E { c with w := grow c.w os } H ∧ Later c { c with w := grow c.w os } := by
  have hsame : ∀ k, k < c.w.heap.size → (grow c.w os).heap[k]? = c.w.heap[k]? := fun k hk => by
    show (c.w.heap ++ os)[k]? = _
    rw [Array.getElem?_append_left hk]
  have hsz : c.w.heap.size ≤ (grow c.w os).heap.size := by show c.w.heap.size ≤ (c.w.heap ++ os).size; simp
  have hL : Later c { c with w := grow c.w os } := {
    le := ⟨Nat.le_refl _, fun b hb => ⟨hb, hsame b (h.fzlt b hb)⟩, fun k j hk => ⟨.inr hk, cell_of_heap (hsame k (h.fclt k j hk)) _ _⟩, fun b g _ e => ⟨e, rfl, rfl, rfl, rfl⟩, fun _ _ _ _ _ hj => hj⟩
    os := rfl
    tape := rfl
    output := rfl
    size := hsz
    keep := fun k hk _ => hsame k hk
    own := fun b hb => .inl ⟨b, hb, rfl⟩
    fz := fun k hk => .inl hk
    fc := fun k j hk => .inl hk }
  exact ⟨⟨h.ctr, h.out, fun b x e => (h.blk b x e).mono hL.le rfl rfl rfl rfl rfl (fun hd => hsame _ (h.lt b (h.live' e hd))), h.apart, h.solid, h.inj, fun b hb => Nat.lt_of_lt_of_le (h.lt b hb) hsz, fun b hb => Nat.lt_of_lt_of_le (h.fzlt b hb) hsz, fun b j hb => Nat.lt_of_lt_of_le (h.fclt b j hb) hsz, h.globLe hL.le⟩, hL⟩
theorem rel_texts : ∀ {l : List Str} {vs : List Value}, LRel E c (l.map fun s => S s) vs → vs = l.map encStr
  | [], vs, h => by simpa [LRel] using h
  | s :: l, vs, h => by
    simp only [List.map_cons, LRel] at h
    obtain ⟨u, us, rfl, hu, h⟩ := h
    simp only [VRel] at hu
    rw [rel_texts h, hu]
    rfl
theorem texts_rel : ∀ {l : List Str}, LRel E c (l.map fun s => S s) (l.map encStr)
  | [] => by simp [LRel]
  | s :: l => by simp only [List.map_cons, LRel]; exact ⟨_, _, rfl, by simp only [VRel], texts_rel⟩
/-- where a row of texts lies -/
theorem HRel.row (h : HRel E c H) {b g : Nat} {l : List Str} (hb : H.bs[b]? = some (.cells g 1 (l.map fun s => S s))) : ∃ p0 rest e, c.w.heap[c.al b]? = some (.cells (p0 ++ l.map encStr ++ rest).toArray e (0, 0)) ∧ p0.length = c.base b ∧ c.gen b = some g ∧ c.sz b = 1 ∧ c.csz b = (p0 ++ l.map encStr ++ rest).length := by
  have hB := h.blk b _ hb
  simp only [BRel] at hB
  obtain ⟨h1, h2, h3, arr, e, h4, h5, p0, pre, rest, rfl, h7, h8⟩ := hB
  have := rel_texts h8
  subst this
  exact ⟨p0, rest, e, h4, h7, h2, h3, h5⟩
theorem HRel.holds (h : HRel E c H) {b g : Nat} {l : List Str} (hb : H.bs[b]? = some (.cells g 1 (l.map fun s => S s))) : Holds encStr c.w (c.al b) (c.base b) l.toArray := by
  obtain ⟨p0, rest, e, h4, h7, -⟩ := h.row hb
  intro j hj
  simp at hj
  rw [← h7]
  refine ⟨?_, ?_⟩
  · simp only [World.cell?, h4]
    simp [List.getElem?_append_right, List.getElem?_append_left, hj]
  · simp [World.frozen?, h4]
theorem HRel.putTexts (h : HRel E c H) {b g : Nat} {l l' : List Str} (hl : l'.length = l.length) (hb : H.bs[b]? = some (.cells g 1 (l.map fun s => S s))) (q : Nat) (os : Array Obj) :
    HRel E { c with w := grow (putRow encStr (Sort.ahead c.w q) (c.al b) (c.base b) l'.toArray) os } ⟨H.bs.set b (.cells g 1 (l'.map fun s => S s)), H.ctr⟩ ∧ Later c { c with w := grow (putRow encStr (Sort.ahead c.w q) (c.al b) (c.base b) l'.toArray) os } := by
  obtain ⟨p0, rest, e, h4, h7, -⟩ := h.row hb
  have hlt := h.lt (b := b) (h.live' hb)
  have hheap : (putRow encStr (Sort.ahead c.w q) (c.al b) (c.base b) l'.toArray).heap = c.w.heap.setIfInBounds (c.al b) (.cells (p0 ++ l'.map encStr ++ rest).toArray e (0, 0)) := by
    have hput : putCells encStr (c.base b) l'.toArray (p0 ++ l.map encStr ++ rest).toArray = (p0 ++ l'.map encStr ++ rest).toArray := by
      apply Array.ext_getElem?
      intro k
      unfold putCells
      simp only [Array.getElem?_mapIdx, List.size_toArray, List.getElem?_toArray, ← h7]
      by_cases h1 : k < p0.length
      · rw [List.append_assoc, List.append_assoc, List.getElem?_append_left h1, List.getElem?_append_left h1]
        have : ¬ (p0.length ≤ k ∧ k < p0.length + l'.length) := by omega
        simp only [if_neg this]
        cases p0[k]? <;> rfl
      · by_cases h2 : k < p0.length + l'.length
        · have e1 : (p0 ++ l'.map encStr ++ rest)[k]? = some (encStr (l'[k - p0.length]'(by omega))) := by
            rw [List.getElem?_append_left (by simp; omega), List.getElem?_append_right (by omega), List.getElem?_map, List.getElem?_eq_getElem (by omega)]; rfl
          have e2 : ∃ v, (p0 ++ l.map encStr ++ rest)[k]? = some v := ⟨_, List.getElem?_eq_getElem (by simp; omega)⟩
          obtain ⟨v, e2⟩ := e2
          rw [e1, e2]
          have : (p0.length ≤ k ∧ k < p0.length + l'.length) := by omega
          simp only [Option.map_some, if_pos this]
          congr 2
          simp [getElem!_pos, show k - p0.length < l'.length by omega]
        · have : ¬ (p0.length ≤ k ∧ k < p0.length + l'.length) := by omega
          simp only [if_neg this]
          rw [List.getElem?_append_right (by simp; omega), List.getElem?_append_right (by simp; omega)]
          simp only [List.length_append, List.length_map, hl]
          cases rest[k - (p0.length + l.length)]? <;> rfl
    apply Array.ext_getElem?
    intro k
    unfold putRow mapBlock
    show (c.w.heap.modify (c.al b) _)[k]? = _
    rw [Array.getElem?_modify, Array.getElem?_setIfInBounds]
    by_cases hk : c.al b = k
    · subst hk
      rw [if_pos rfl, if_pos rfl, h4, if_pos hlt]
      simp only [Option.map_some, onCells, hput]
    · rw [if_neg hk, if_neg hk]
  obtain ⟨k1, k2⟩ := h.setRow (w' := putRow encStr (Sort.ahead c.w q) (c.al b) (c.base b) l'.toArray) hb h4 h7 (pre' := l'.map encStr) (by simp [hl]) texts_rel hheap rfl rfl rfl
  obtain ⟨k3, k4⟩ := k1.more os
  exact ⟨k3, k2.trans k4⟩
/-- a walk of the kit's, as a call of ours -/
theorem ACalls.ofWalk {k : Nat} {fn : Func} {args : List AV} {R : Kt} (hf : P.funcs[E.fn k]? = some fn) (hn : (fn.name == "runtime.NumGoroutine") = false) (hb : fn.body.isNone = false)
    (h : ∀ (c : Cx) (vs : List Value), HRel E c H → LRel E c args vs → Calls P (E.fn k) vs.toArray c.w fun e w' => ∃ v r c' H', e = .returned v ∧ c'.w = w' ∧ R r H' ∧ HRel E c' H' ∧ VRel E c' r v ∧ Later c c') : ACalls E P k args H R := by
  intro c vs hH hv o a next Q hnext
  have hrun : (callFunc (E.fn k) vs.toArray).run P c.w = .ok (.enter (E.fn k) vs.toArray) c.w := by
    have hn' : ¬ ((fn.name == "runtime.NumGoroutine") = true) := by rw [hn]; simp
    have hb' : ¬ (fn.body.isNone = true) := by rw [hb]; simp
    simp only [callFunc, Sem.run_bind, run_program, Result.andThen_ok, hf, if_neg hn', if_neg hb', Sem.run_pure]
  rw [hrun]
  simp only [Oper.upon]
  refine (h c vs hH hv).mono ?_
  rintro e w' ⟨v, r, c', H', rfl, h1, h2, h3, h4, h5⟩
  exact hnext v w' ⟨r, c', H', h1, h2, h3, h4, h5⟩
def sortS (l : List Str) : List Str := l.mergeSort fun x y => decide (x ≤ y)
theorem sortS_length (l : List Str) : (sortS l).length = l.length := by simp [sortS]
/-- slices.Sort of texts -/
theorem sort_calls {k : Nat} {fn : Func} (hf : P.funcs[E.fn k]? = some fn) (hn : (fn.name == "runtime.NumGoroutine") = false) (hbd : fn.body.isNone = false)
    (h0 : ∀ (p : Option Addr) (cap : Nat) (w : World), Calls P (E.fn k) #[.slice p 0 cap] w fun e w' => e = .returned (.tuple #[]) ∧ w' = w)
    (h1 : ∀ (blk off cap : Nat) (ss : List (List UInt8)) (w : World), Holds encStr w blk off ss.toArray → blk < w.heap.size → ss.length < 4611686018427387904 → Calls P (E.fn k) #[.slice (some ⟨blk, off, none⟩) ss.length cap] w fun e w' =>
      e = .returned (.tuple #[]) ∧ ∃ n os, w' = grow (putRow encStr (Sort.ahead w n) blk off (ss.mergeSort fun x y => decide (x ≤ y)).toArray) os)
    {b g : Nat} {l : List Str} (hl : l.length < 4611686018427387904) (hb : H.bs[b]? = some (.cells g 1 (l.map fun s => S s))) : ACalls E P k [.slL b 0 l.length g] H fun r H' => r = .tup [] ∧ H' = ⟨H.bs.set b (.cells g 1 ((sortS l).map fun s => S s)), H.ctr⟩ := by
  refine ACalls.ofWalk hf hn hbd fun c vs hH hv => ?_
  obtain ⟨v, rfl, hr⟩ := hv.one'
  simp only [VRel] at hr
  obtain ⟨_, p, cap, rfl, hcap, hp⟩ := hr
  obtain ⟨p0, rest, e, h4, h7, hg, _⟩ := hH.row hb
  rcases hp hg with hz | ⟨rfl, _⟩
  · subst hz
    have hl0 : l = [] := List.eq_nil_of_length_eq_zero (by omega)
    subst hl0
    refine (h0 (some p) 0 c.w).mono ?_
    rintro e w' ⟨rfl, rfl⟩
    obtain ⟨k1, k2⟩ := hH.more #[]
    refine ⟨_, .tup [], c, H, rfl, rfl, ⟨rfl, ?_⟩, hH, by simp [VRel, LRel], Later.refl c⟩
    have : sortS [] = [] := by simp [sortS]
    rw [this]
    have hlt := lt_of_get hb
    have : H.bs[b] = .cells g 1 (([] : List Str).map fun s => S s) := by rw [List.getElem?_eq_getElem hlt] at hb; injection hb
    rw [← this, List.set_getElem_self]
  · refine (h1 (c.al b) (c.base b) cap l c.w (hH.holds hb) (hH.lt b (hH.live' hb)) hl).mono ?_
    rintro e w' ⟨rfl, n, os, rfl⟩
    obtain ⟨k1, k2⟩ := hH.putTexts (l' := sortS l) (sortS_length l) hb n os
    exact ⟨_, .tup [], _, _, rfl, rfl, ⟨rfl, rfl⟩, k1, by simp [VRel, LRel], k2⟩
def packS (l : List Str) : List Str := Lib.compact l
theorem packS_length (l : List Str) : (packS l).length ≤ l.length := by
  have h := List.length_filter_le (Lib.keeps l.toArray) (List.range l.length)
  simp only [packS, Lib.compact, Lib.compactUpTo, List.length_map]
  simpa using h
theorem packS_mem {l : List Str} {x : Str} : x ∈ packS l ↔ x ∈ l := by
  simp only [packS, Lib.compact, Lib.compactUpTo, List.mem_map, List.mem_filter, List.mem_range]
  constructor
  · rintro ⟨j, ⟨hj, _⟩, rfl⟩
    have : (l.toArray)[j]! = l[j] := by simp [getElem!_pos, hj]
    rw [this]; exact List.getElem_mem hj
  · intro hx
    obtain ⟨j, hj, rfl⟩ := List.getElem_of_mem hx
    induction j with
    | zero => exact ⟨0, ⟨hj, by simp [Lib.keeps]⟩, by simp [getElem!_pos, hj]⟩
    | succ j ih =>
      by_cases hk : Lib.keeps l.toArray (j + 1) = true
      · exact ⟨j + 1, ⟨hj, hk⟩, by simp [getElem!_pos, hj]⟩
      · have heq : (l.toArray)[j + 1]! = (l.toArray)[j]! := by
          simp only [Lib.keeps] at hk
          simpa using hk
        have h1 : (l.toArray)[j + 1]! = l[j + 1] := by simp [getElem!_pos, hj]
        have h2 : (l.toArray)[j]! = l[j] := by simp [getElem!_pos, show j < l.length by omega]
        obtain ⟨i, hi, he⟩ := ih (by omega) (List.getElem_mem (by omega))
        exact ⟨i, hi, by rw [he, ← h2, ← heq, h1]⟩
theorem sortS_mem {l : List Str} {x : Str} : x ∈ sortS l ↔ x ∈ l := by simp [sortS]
/-- slices.Compact of texts -/
theorem compact_calls {k : Nat} {fn : Func} (hf : P.funcs[E.fn k]? = some fn) (hn : (fn.name == "runtime.NumGoroutine") = false) (hbd : fn.body.isNone = false)
    (h0 : ∀ (a : Option Addr) (cap : Nat) (w : World), Calls P (E.fn k) #[.slice a 0 cap] w fun e w' => e = .returned (.slice a 0 cap) ∧ w' = w)
    (h1 : ∀ (blk off cap : Nat) (zs : List (List UInt8)) (w : World), Holds encStr w blk off zs.toArray → zs.length ≤ 9223372036854775807 → zs.length ≤ cap → Calls P (E.fn k) #[.slice (some ⟨blk, off, none⟩) zs.length cap] w fun e w' =>
      e = .returned (.slice (some ⟨blk, off, none⟩) (Lib.compact zs).length cap) ∧ ∃ q, w' = putRow encStr (Sort.ahead w q) blk off (Lib.compact zs ++ List.replicate (zs.length - (Lib.compact zs).length) []).toArray)
    {b g : Nat} {l : List Str} (hl : l.length < 4611686018427387904) (hb : H.bs[b]? = some (.cells g 1 (l.map fun s => S s))) : ACalls E P k [.slL b 0 l.length g] H fun r H' => r = .slL b 0 (packS l).length g ∧ H' = ⟨H.bs.set b (.cells g 1 ((packS l ++ List.replicate (l.length - (packS l).length) []).map fun s => S s)), H.ctr⟩ := by
  refine ACalls.ofWalk hf hn hbd fun c vs hH hv => ?_
  obtain ⟨v, rfl, hr⟩ := hv.one'
  simp only [VRel] at hr
  obtain ⟨hgl, p, cap, rfl, hcap, hp⟩ := hr
  obtain ⟨p0, rest, e, h4, h7, hg, _⟩ := hH.row hb
  have hpl := packS_length l
  rcases hp hg with hz | ⟨rfl, hroom⟩
  · subst hz
    have hl0 : l = [] := List.eq_nil_of_length_eq_zero (by omega)
    subst hl0
    have hp0 : packS [] = [] := List.eq_nil_of_length_eq_zero (by simpa using hpl)
    refine (h0 (some p) 0 c.w).mono ?_
    rintro e w' ⟨rfl, rfl⟩
    refine ⟨_, .slL b 0 (packS []).length g, c, H, rfl, rfl, ⟨rfl, ?_⟩, hH, ?_, Later.refl c⟩
    · rw [hp0]
      have hlt := lt_of_get hb
      have : H.bs[b] = .cells g 1 (([] : List Str).map fun s => S s) := by rw [List.getElem?_eq_getElem hlt] at hb; injection hb
      simp only [List.length_nil, Nat.sub_self, List.replicate_zero, List.append_nil]
      rw [← this, List.set_getElem_self]
    · simp only [VRel]
      exact ⟨hgl, p, 0, by rw [hp0]; rfl, by rw [hp0]; exact Nat.le_refl _, fun _ => .inl rfl⟩
  · refine (h1 (c.al b) (c.base b) cap l c.w (hH.holds hb) (by omega) hcap).mono ?_
    rintro e w' ⟨rfl, q, rfl⟩
    obtain ⟨k1, k2⟩ := hH.putTexts (l' := packS l ++ List.replicate (l.length - (packS l).length) []) (by simp; omega) hb q #[]
    rw [grow_empty] at k1 k2
    refine ⟨_, .slL b 0 (packS l).length g, _, _, rfl, rfl, ⟨rfl, rfl⟩, k1, ?_, k2⟩
    simp only [VRel]
    exact ⟨hgl, _, cap, rfl, Nat.le_trans hpl hcap, fun _ => .inr ⟨rfl, hroom⟩⟩
theorem FX.sortNil {k : Nat} {fn : Func} (hf : P.funcs[E.fn k]? = some fn) (hn : (fn.name == "runtime.NumGoroutine") = false) (hbd : fn.body.isNone = false)
    (h0 : ∀ (p : Option Addr) (cap : Nat) (w : World), Calls P (E.fn k) #[.slice p 0 cap] w fun e w' => e = .returned (.tuple #[]) ∧ w' = w) : FX E P k [nilS] (.tup []) := by
  refine FX.ofCalls hf hn hbd ⟨trivial, trivial⟩ trivial trivial fun c vs _ _ hv => ?_
  obtain ⟨v, rfl, hr⟩ := hv.one'
  simp only [VRel] at hr
  subst hr
  refine (h0 none 0 c.w).mono ?_
  rintro e w' ⟨rfl, rfl⟩
  exact ⟨_, rfl, Below.refl _ _, by simp [VRel, LRel]⟩
theorem FX.compactNil {k : Nat} {fn : Func} (hf : P.funcs[E.fn k]? = some fn) (hn : (fn.name == "runtime.NumGoroutine") = false) (hbd : fn.body.isNone = false)
    (h0 : ∀ (a : Option Addr) (cap : Nat) (w : World), Calls P (E.fn k) #[.slice a 0 cap] w fun e w' => e = .returned (.slice a 0 cap) ∧ w' = w) : FX E P k [nilS] nilS := by
  refine FX.ofCalls hf hn hbd ⟨trivial, trivial⟩ trivial trivial fun c vs _ _ hv => ?_
  obtain ⟨v, rfl, hr⟩ := hv.one'
  simp only [VRel] at hr
  subst hr
  refine (h0 none 0 c.w).mono ?_
  rintro e w' ⟨rfl, rfl⟩
  exact ⟨_, rfl, Below.refl _ _, by simp [VRel]⟩
end
end Go.Sc
namespace Go.Sc.F
open Go Go.Sc
set_option linter.unusedVariables false

/-- signalbox/signalboxlaw.ExprSays -/
def law_ExprSays (E : Env) (P : Program) (a0 a1 a2 : AV) (H : AH) (R : Kt) : Prop :=
  wCall E P 169 [a0] H fun t13 H =>
  wGet (extractA t13 0) H fun t14 H =>
  wGet (extractA t13 1) H fun t15 H =>
  wGet (extractA t13 2) H fun t16 H =>
  wGet (unA .not t16) H fun t18 H =>
  wGuard t18 false H (fun k => k a1 H) fun t20 H =>
  wGuard t18 false H (fun k => wGet (lenA t20) H k) fun t21 H =>
  wGuard t18 false H (fun k => wGet (binA .gtr t21 (.val (.int .i64 30))) H k) fun t22 H =>
  wGet (pickA t18 (.val (.bool true)) t22) H fun t23 H =>
  wGuard t23 false H (fun k => k a2 H) fun t25 H =>
  wGuard t23 false H (fun k => wGet (lenA t25) H k) fun t26 H =>
  wGuard t23 false H (fun k => wGet (binA .gtr t26 (.val (.int .i64 30))) H k) fun t27 H =>
  wGet (pickA t23 (.val (.bool true)) t27) H fun t28 H =>
  wIf t28 (
    R (.val (.bool true)) H) (
    wBool (eqA .iface t14 (.val (.nilIface))) H true fun t30 H =>
    wGuard t30 true H (fun k => k t14 H) fun t32 H =>
    wGuard t30 true H (fun k => k (.fn 179 [] []) H) fun t33 H =>
    wGuard t30 true H (fun k => k a1 H) fun t34 H =>
    wGuard t30 true H (fun k => wCallV E P t33 [t34] H k) fun t35 H =>
    wGuard t30 true H (fun k => k (.fn 179 [] []) H) fun t36 H =>
    wGuard t30 true H (fun k => k a2 H) fun t37 H =>
    wGuard t30 true H (fun k => wCallV E P t36 [t37] H k) fun t38 H =>
    wGuard t30 true H (fun k => wCall E P 158 [t32, t35, t38] H k) fun t39 H =>
    wGuard t30 true H (fun k => k t15 H) fun t40 H =>
    wGuard t30 true H (fun k => k (.fn 179 [] []) H) fun t41 H =>
    wGuard t30 true H (fun k => k a1 H) fun t42 H =>
    wGuard t30 true H (fun k => wCallV E P t41 [t42] H k) fun t43 H =>
    wGuard t30 true H (fun k => k (.fn 179 [] []) H) fun t44 H =>
    wGuard t30 true H (fun k => k a2 H) fun t45 H =>
    wGuard t30 true H (fun k => wCallV E P t44 [t45] H k) fun t46 H =>
    wGuard t30 true H (fun k => wCall E P 180 [t40, t43, t46] H k) fun t47 H =>
    wGuard t30 true H (fun k => wBool (eqA .bool t39 t47) H false k) fun t48 H =>
    wGet (pickA t30 t48 (.val (.bool false))) H fun t49 H =>
    wGuard t49 true H (fun k => k t14 H) fun t51 H =>
    wGuard t49 true H (fun k => wCall E P 181 [t51] H k) fun t52 H =>
    wGuard t49 true H (fun k => k t15 H) fun t53 H =>
    wGuard t49 true H (fun k => wCall E P 182 [t53] H k) fun t54 H =>
    wGuard t49 true H (fun k => wCall E P 183 [t52, t54] H k) fun t55 H =>
    wGet (pickA t49 t55 (.val (.bool false))) H fun t56 H =>
    wGuard t56 true H (fun k => k t14 H) fun t58 H =>
    wGuard t56 true H (fun k => wCall E P 184 [t58] H k) fun t59 H =>
    wGuard t56 true H (fun k => k t15 H) fun t60 H =>
    wGuard t56 true H (fun k => wCall E P 185 [t60] H k) fun t61 H =>
    wGuard t56 true H (fun k => wCall E P 183 [t59, t61] H k) fun t62 H =>
    wGet (pickA t56 t62 (.val (.bool false))) H fun t63 H =>
    wGuard t63 true H (fun k => k t14 H) fun t65 H =>
    wGuard t63 true H (fun k => wCall E P 156 [t65] H k) fun t66 H =>
    wGuard t63 true H (fun k => k t15 H) fun t67 H =>
    wGuard t63 true H (fun k => wCall E P 186 [t67] H k) fun t68 H =>
    wGuard t63 true H (fun k => wGet (binA .eql t66 t68) H k) fun t69 H =>
    wGet (pickA t63 t69 (.val (.bool false))) H fun t70 H =>
    R t70 H)

/-- signalbox/signalboxlaw.ExprSays$1 -/
def law_ExprSays_c1 (E : Env) (P : Program) (a0 : AV) (H : AH) (R : Kt) : Prop :=
  wNew 1 (AV.cells? a0) H fun t1 H =>
  R (.fn 188 [] [t1]) H

/-- signalbox/signalboxlaw.ExprSays$1$1 -/
def law_ExprSays_c1_c1 (E : Env) (P : Program) (a0 a1 : AV) (H : AH) (R : Kt) : Prop :=
  wLoop 1 (fun I1 => I1 (.val (.int .i64 0)) H) fun I1 t4 H =>
    wGet (load1 a1 H) H fun t6 H =>
    wGet (lenA t6) H fun t7 H =>
    wGet (binA .lss t4 t7) H fun t8 H =>
    wIf t8 (
      wGet (load1 a1 H) H fun t11 H =>
      wGet (iaddr 1 t11 t4) H fun t13 H =>
      wGet (load1 t13 H) H fun t14 H =>
      wGet (binA .eql t14 a0) H fun t16 H =>
      wIf t16 (
        R (.val (.bool true)) H) (
        wGet (binA .add t4 (.val (.int .i64 1))) H fun t10 H =>
        I1 t10 H)) (
      R (.val (.bool false)) H)

/-- (*signalbox/signalboxref.Expr).Eval -/
def pref_Expr_Eval (E : Env) (P : Program) (a0 a1 a2 : AV) (H : AH) (R : Kt) : Prop :=
  wGet (nilA a0) H fun t11 H =>
  wGet (faddr 0 t11) H fun t12 H =>
  wGet (load1 t12 H) H fun t13 H =>
  wGet (binA .eql t13 (.val (.string ⟨#[49]⟩))) H fun t15 H =>
  wIf t15 (
    R (.val (.bool true)) H) (
    wGet (binA .eql t13 (.val (.string ⟨#[98, 105, 116]⟩))) H fun t17 H =>
    wIf t17 (
      wGet (nilA a0) H fun t20 H =>
      wGet (faddr 1 t20) H fun t21 H =>
      wGet (load1 t21 H) H fun t22 H =>
      wCallV E P a1 [t22] H fun t23 H =>
      R t23 H) (
      wGet (binA .eql t13 (.val (.string ⟨#[94]⟩))) H fun t25 H =>
      wIf t25 (
        wGet (nilA a0) H fun t28 H =>
        wGet (faddr 1 t28) H fun t29 H =>
        wGet (load1 t29 H) H fun t30 H =>
        wCallV E P a1 [t30] H fun t31 H =>
        wGuard t31 true H (fun k => k a2 H) fun t33 H =>
        wGuard t31 true H (fun k => k a0 H) fun t34 H =>
        wGuard t31 true H (fun k => wGet (nilA t34) H k) fun t35 H =>
        wGuard t31 true H (fun k => wGet (faddr 1 t35) H k) fun t36 H =>
        wGuard t31 true H (fun k => wGet (load1 t36 H) H k) fun t37 H =>
        wGuard t31 true H (fun k => wCallV E P t33 [t37] H k) fun t38 H =>
        wGuard t31 true H (fun k => wGet (unA .not t38) H k) fun t39 H =>
        wGet (pickA t31 t39 (.val (.bool false))) H fun t40 H =>
        R t40 H) (
        wGet (binA .eql t13 (.val (.string ⟨#[126]⟩))) H fun t42 H =>
        wIf t42 (
          wGet (nilA a0) H fun t45 H =>
          wGet (faddr 1 t45) H fun t46 H =>
          wGet (load1 t46 H) H fun t47 H =>
          wCallV E P a2 [t47] H fun t48 H =>
          wGuard t48 true H (fun k => k a1 H) fun t50 H =>
          wGuard t48 true H (fun k => k a0 H) fun t51 H =>
          wGuard t48 true H (fun k => wGet (nilA t51) H k) fun t52 H =>
          wGuard t48 true H (fun k => wGet (faddr 1 t52) H k) fun t53 H =>
          wGuard t48 true H (fun k => wGet (load1 t53 H) H k) fun t54 H =>
          wGuard t48 true H (fun k => wCallV E P t50 [t54] H k) fun t55 H =>
          wGuard t48 true H (fun k => wGet (unA .not t55) H k) fun t56 H =>
          wGet (pickA t48 t56 (.val (.bool false))) H fun t57 H =>
          R t57 H) (
          wGet (binA .eql t13 (.val (.string ⟨#[33]⟩))) H fun t59 H =>
          wIf t59 (
            wGet (nilA a0) H fun t61 H =>
            wGet (faddr 2 t61) H fun t62 H =>
            wGet (load1 t62 H) H fun t63 H =>
            wGet (iaddr 1 t63 (.val (.int .i64 0))) H fun t64 H =>
            wGet (load1 t64 H) H fun t65 H =>
            wCall E P 180 [t65, a1, a2] H fun t68 H =>
            wGet (unA .not t68) H fun t69 H =>
            R t69 H) (
            wJoin 1 (fun J1 =>
              wGet (binA .eql t13 (.val (.string ⟨#[38]⟩))) H fun t71 H =>
              wIf t71 (
                J1 t71 H) (
                wGet (binA .eql t13 (.val (.string ⟨#[124]⟩))) H fun t72 H =>
                J1 t72 H)) fun t70 H =>
              wIf t70 (
                wGet (nilA a0) H fun t74 H =>
                wGet (faddr 2 t74) H fun t75 H =>
                wGet (load1 t75 H) H fun t76 H =>
                wGet (lenA t76) H fun t77 H =>
                wLoop 2 (fun I2 => I2 (.val (.int .i64 0)) (.val (.int .i64 0)) H) fun I2 t7 t78 H =>
                  wGet (binA .lss t78 t77) H fun t79 H =>
                  wIf t79 (
                    wJoin 1 (fun J3 =>
                      wGet (iaddr 1 t76 t78) H fun t80 H =>
                      wGet (load1 t80 H) H fun t81 H =>
                      wCall E P 180 [t81, a1, a2] H fun t85 H =>
                      wIf t85 (
                        wGet (binA .add t7 (.val (.int .i64 1))) H fun t87 H =>
                        J3 t87 H) (
                        J3 t7 H)) fun t7_1 H =>
                      wGet (binA .add t78 (.val (.int .i64 1))) H fun t88 H =>
                      I2 t7_1 t88 H) (
                    wGet (nilA a0) H fun t90 H =>
                    wGet (faddr 0 t90) H fun t91 H =>
                    wGet (load1 t91 H) H fun t92 H =>
                    wGet (binA .eql t92 (.val (.string ⟨#[124]⟩))) H fun t93 H =>
                    wGuard t93 true H (fun k => k t7 H) fun t95 H =>
                    wGuard t93 true H (fun k => wGet (binA .gtr t95 (.val (.int .i64 0))) H k) fun t96 H =>
                    wGet (pickA t93 t96 (.val (.bool false))) H fun t97 H =>
                    wGuard t97 false H (fun k => k t7 H) fun t99 H =>
                    wGuard t97 false H (fun k => k a0 H) fun t100 H =>
                    wGuard t97 false H (fun k => wGet (nilA t100) H k) fun t101 H =>
                    wGuard t97 false H (fun k => wGet (faddr 2 t101) H k) fun t102 H =>
                    wGuard t97 false H (fun k => wGet (load1 t102 H) H k) fun t103 H =>
                    wGuard t97 false H (fun k => wGet (lenA t103) H k) fun t104 H =>
                    wGuard t97 false H (fun k => wGet (binA .eql t99 t104) H k) fun t105 H =>
                    wGet (pickA t97 (.val (.bool true)) t105) H fun t106 H =>
                    R t106 H)) (
                R (.val (.bool false)) H))))))

/-- signalbox/signalboxlaw.sameTexts -/
def law_sameTexts (E : Env) (P : Program) (a0 a1 : AV) (H : AH) (R : Kt) : Prop :=
  wGet (lenA a0) H fun t7 H =>
  wGet (lenA a1) H fun t9 H =>
  wGet (binA .neq t7 t9) H fun t10 H =>
  wIf t10 (
    R (.val (.bool false)) H) (
    wLoop 1 (fun I1 => I1 (.val (.int .i64 0)) H) fun I1 t5 H =>
      wGet (lenA a0) H fun t13 H =>
      wGet (binA .lss t5 t13) H fun t14 H =>
      wIf t14 (
        wGet (iaddr 1 a0 t5) H fun t19 H =>
        wGet (load1 t19 H) H fun t20 H =>
        wGet (iaddr 1 a1 t5) H fun t23 H =>
        wGet (load1 t23 H) H fun t24 H =>
        wGet (binA .neq t20 t24) H fun t25 H =>
        wIf t25 (
          R (.val (.bool false)) H) (
          wGet (binA .add t5 (.val (.int .i64 1))) H fun t16 H =>
          I1 t16 H)) (
        R (.val (.bool true)) H))

/-- signalbox/expr.Names -/
def expr_Names (E : Env) (P : Program) (a0 : AV) (H : AH) (R : Kt) : Prop :=
  wCall E P 190 [a0, (.fn 189 [] [])] H fun t4 H =>
  R t4 H

/-- (*signalbox/signalboxref.Expr).Names -/
def pref_Expr_Names (E : Env) (P : Program) (a0 : AV) (H : AH) (R : Kt) : Prop :=
  wCall E P 191 [a0, (.val (.string ⟨#[98, 105, 116, 94, 126]⟩))] H fun t4 H =>
  R t4 H

/-- signalbox/expr.Edges -/
def expr_Edges (E : Env) (P : Program) (a0 : AV) (H : AH) (R : Kt) : Prop :=
  wCall E P 190 [a0, (.fn 192 [] [])] H fun t4 H =>
  R t4 H

/-- (*signalbox/signalboxref.Expr).Edges -/
def pref_Expr_Edges (E : Env) (P : Program) (a0 : AV) (H : AH) (R : Kt) : Prop :=
  wCall E P 191 [a0, (.val (.string ⟨#[94, 126]⟩))] H fun t4 H =>
  R t4 H

/-- (*signalbox/signalboxref.Expr).Size -/
def pref_Expr_Size (E : Env) (P : Program) (a0 : AV) (H : AH) (R : Kt) : Prop :=
  wGet (nilA a0) H fun t7 H =>
  wGet (faddr 2 t7) H fun t8 H =>
  wGet (load1 t8 H) H fun t9 H =>
  wGet (lenA t9) H fun t10 H =>
  wLoop 2 (fun I1 => I1 (.val (.int .i64 1)) (.val (.int .i64 0)) H) fun I1 t3 t11 H =>
    wGet (binA .lss t11 t10) H fun t12 H =>
    wIf t12 (
      wGet (iaddr 1 t9 t11) H fun t13 H =>
      wGet (load1 t13 H) H fun t14 H =>
      wCall E P 186 [t14] H fun t17 H =>
      wGet (binA .add t3 t17) H fun t18 H =>
      wGet (binA .add t11 (.val (.int .i64 1))) H fun t19 H =>
      I1 t18 t19 H) (
      R t3 H)

/-- signalbox/expr.sorted -/
def expr_sorted (E : Env) (P : Program) (a0 a1 : AV) (H : AH) (R : Kt) : Prop :=
  wNew 1 (AV.cells? a1) H fun t3 H =>
  wNew 1 (some [(.val (.slice none 0 0))]) H fun t5 H =>
  wCall E P 161 [a0, (.fn 193 [] [t3, t5])] H fun t8 H =>
  wGet (load1 t5 H) H fun t9 H =>
  wCall E P 194 [t9] H fun t10 H =>
  wGet (load1 t5 H) H fun t11 H =>
  wCall E P 195 [t11] H fun t12 H =>
  R t12 H

/-- signalbox/expr.Names$1 -/
def expr_Names_c1 (E : Env) (P : Program) (a0 : AV) (H : AH) (R : Kt) : Prop :=
  wGet (assertA 14 (.val (.string ⟨#[]⟩)) a0) H fun t7 H =>
  wGet (extractA t7 1) H fun t8 H =>
  wGet (extractA t7 0) H fun t9 H =>
  wIf t8 (
    R t9 H) (
    wGet (assertA 12 (.val (.string ⟨#[]⟩)) a0) H fun t11 H =>
    wGet (extractA t11 1) H fun t12 H =>
    wGet (extractA t11 0) H fun t13 H =>
    wIf t12 (
      R t13 H) (
      wGet (assertA 13 (.val (.string ⟨#[]⟩)) a0) H fun t15 H =>
      wGet (extractA t15 1) H fun t16 H =>
      wGet (extractA t15 0) H fun t17 H =>
      wIf t16 (
        R t17 H) (
        R (.val (.string ⟨#[]⟩)) H)))

/-- (*signalbox/signalboxref.Expr).named -/
def pref_Expr_named (E : Env) (P : Program) (a0 a1 : AV) (H : AH) (R : Kt) : Prop :=
  wNew 1 (AV.cells? a1) H fun t3 H =>
  wNew 1 (some [(.val (.slice none 0 0))]) H fun t5 H =>
  wNew 1 (some [(.val (.nilFunc))]) H fun t6 H =>
  wPut (store1 t6 (.fn 196 [] [t3, t5, t6]) H) fun _u H =>
  wGet (load1 t6 H) H fun t8 H =>
  wCallV E P t8 [a0] H fun t10 H =>
  wGet (load1 t5 H) H fun t11 H =>
  R t11 H

/-- signalbox/expr.Edges$1 -/
def expr_Edges_c1 (E : Env) (P : Program) (a0 : AV) (H : AH) (R : Kt) : Prop :=
  wGet (assertA 12 (.val (.string ⟨#[]⟩)) a0) H fun t6 H =>
  wGet (extractA t6 1) H fun t7 H =>
  wGet (extractA t6 0) H fun t8 H =>
  wIf t7 (
    R t8 H) (
    wGet (assertA 13 (.val (.string ⟨#[]⟩)) a0) H fun t10 H =>
    wGet (extractA t10 1) H fun t11 H =>
    wGet (extractA t10 0) H fun t12 H =>
    wIf t11 (
      R t12 H) (
      R (.val (.string ⟨#[]⟩)) H))

/-- signalbox/expr.sorted$1 -/
def expr_sorted_c1 (E : Env) (P : Program) (a0 a1 a2 : AV) (H : AH) (R : Kt) : Prop :=
  wGet (load1 a1 H) H fun t5 H =>
  wCallV E P t5 [a0] H fun t7 H =>
  wGet (binA .neq t7 (.val (.string ⟨#[]⟩))) H fun t9 H =>
  wIf t9 (
    wGet (load1 a2 H) H fun t10 H =>
    wNewS 1 1 (fillA (List.replicate 1 [(.val (.string ⟨#[]⟩))]).flatten [(0, 1, t7)]) H fun t12 H =>
    wApp 1 16 t10 t12 H fun t13 H =>
    wPut (store1 a2 t13 H) fun _u H =>
    R (.tup []) H) (
    R (.tup []) H)

/-- (*signalbox/signalboxref.Expr).named$1 -/
def pref_Expr_named_c1 (E : Env) (P : Program) (a0 a1 a2 a3 : AV) (H : AH) (R : Kt) : Prop :=
  wJoin 0 (fun J1 =>
    wGet (nilA a0) H fun t9 H =>
    wGet (faddr 1 t9) H fun t10 H =>
    wGet (load1 t10 H) H fun t11 H =>
    wGet (binA .neq t11 (.val (.string ⟨#[]⟩))) H fun t12 H =>
    wGuard t12 true H (fun k => wGet (load1 a1 H) H k) fun t14 H =>
    wGuard t12 true H (fun k => k a0 H) fun t15 H =>
    wGuard t12 true H (fun k => wGet (nilA t15) H k) fun t16 H =>
    wGuard t12 true H (fun k => wGet (faddr 0 t16) H k) fun t17 H =>
    wGuard t12 true H (fun k => wGet (load1 t17 H) H k) fun t18 H =>
    wGuard t12 true H (fun k => wCall E P 199 [t14, t18] H k) fun t19 H =>
    wGet (pickA t12 t19 (.val (.bool false))) H fun t20 H =>
    wIf t20 (
      wLoop 1 (fun I2 => I2 (.val (.int .i64 0)) H) fun I2 t5 H =>
        wGet (load1 a2 H) H fun t22 H =>
        wGet (lenA t22) H fun t23 H =>
        wGet (binA .lss t5 t23) H fun t24 H =>
        wGuard t24 true H (fun k => wGet (load1 a2 H) H k) fun t26 H =>
        wGuard t24 true H (fun k => k t5 H) fun t27 H =>
        wGuard t24 true H (fun k => wGet (iaddr 1 t26 t27) H k) fun t28 H =>
        wGuard t24 true H (fun k => wGet (load1 t28 H) H k) fun t29 H =>
        wGuard t24 true H (fun k => k a0 H) fun t30 H =>
        wGuard t24 true H (fun k => wGet (nilA t30) H k) fun t31 H =>
        wGuard t24 true H (fun k => wGet (faddr 1 t31) H k) fun t32 H =>
        wGuard t24 true H (fun k => wGet (load1 t32 H) H k) fun t33 H =>
        wGuard t24 true H (fun k => wGet (binA .lss t29 t33) H k) fun t34 H =>
        wGet (pickA t24 t34 (.val (.bool false))) H fun t35 H =>
        wIf t35 (
          wGet (binA .add t5 (.val (.int .i64 1))) H fun t37 H =>
          I2 t37 H) (
          wGet (load1 a2 H) H fun t39 H =>
          wGet (lenA t39) H fun t40 H =>
          wGet (binA .eql t5 t40) H fun t41 H =>
          wGuard t41 false H (fun k => wGet (load1 a2 H) H k) fun t43 H =>
          wGuard t41 false H (fun k => k t5 H) fun t44 H =>
          wGuard t41 false H (fun k => wGet (iaddr 1 t43 t44) H k) fun t45 H =>
          wGuard t41 false H (fun k => wGet (load1 t45 H) H k) fun t46 H =>
          wGuard t41 false H (fun k => k a0 H) fun t47 H =>
          wGuard t41 false H (fun k => wGet (nilA t47) H k) fun t48 H =>
          wGuard t41 false H (fun k => wGet (faddr 1 t48) H k) fun t49 H =>
          wGuard t41 false H (fun k => wGet (load1 t49 H) H k) fun t50 H =>
          wGuard t41 false H (fun k => wGet (binA .neq t46 t50) H k) fun t51 H =>
          wGet (pickA t41 (.val (.bool true)) t51) H fun t52 H =>
          wIf t52 (
            wGet (load1 a2 H) H fun t53 H =>
            wNewS 1 1 (fillA (List.replicate 1 [(.val (.string ⟨#[]⟩))]).flatten [(0, 1, (.val (.string ⟨#[]⟩)))]) H fun t54 H =>
            wApp 1 16 t53 t54 H fun t55 H =>
            wPut (store1 a2 t55 H) fun _u H =>
            wGet (load1 a2 H) H fun t56 H =>
            wGet (binA .add t5 (.val (.int .i64 1))) H fun t58 H =>
            wGet (sliceA 1 t56 (some t58) none H) H fun t59 H =>
            wGet (load1 a2 H) H fun t60 H =>
            wGet (sliceA 1 t60 (some t5) none H) H fun t62 H =>
            wDo (copyA 1 t59 t62 H) fun t63 H =>
            wGet (load1 a2 H) H fun t64 H =>
            wGet (nilA a0) H fun t67 H =>
            wGet (faddr 1 t67) H fun t68 H =>
            wGet (load1 t68 H) H fun t69 H =>
            wGet (iaddr 1 t64 t5) H fun t70 H =>
            wPut (store1 t70 t69 H) fun _u H =>
            J1 H) (
            J1 H))) (
      J1 H)) fun H =>
    wGet (nilA a0) H fun t72 H =>
    wGet (faddr 2 t72) H fun t73 H =>
    wGet (load1 t73 H) H fun t74 H =>
    wGet (lenA t74) H fun t75 H =>
    wLoop 1 (fun I3 => I3 (.val (.int .i64 0)) H) fun I3 t76 H =>
      wGet (binA .lss t76 t75) H fun t77 H =>
      wIf t77 (
        wGet (iaddr 1 t74 t76) H fun t78 H =>
        wGet (load1 t78 H) H fun t79 H =>
        wGet (load1 a3 H) H fun t80 H =>
        wCallV E P t80 [t79] H fun t82 H =>
        wGet (binA .add t76 (.val (.int .i64 1))) H fun t83 H =>
        I3 t83 H) (
        R (.tup []) H)

end Go.Sc.F
namespace Go.Sc
open Go
set_option linter.unusedSimpArgs false
set_option linter.unusedVariables false
set_option linter.unnecessarySimpa false

def nmL (nf : Ex → Str) (x : Ex) : List Str := if nf x = [] then [] else [nf x]
mutual
/-- what is found in it, one after the other -/
def Ex.raw (nf : Ex → Str) : Ex → List Str
  | .not y => nmL nf (.not y) ++ y.raw nf
  | .and l => nmL nf (.and l) ++ Ex.rawL nf l
  | .or l => nmL nf (.or l) ++ Ex.rawL nf l
  | x => nmL nf x
def Ex.rawL (nf : Ex → Str) : List Ex → List Str
  | [] => []
  | x :: l => x.raw nf ++ Ex.rawL nf l
end
theorem Ex.rawL_append (nf : Ex → Str) : ∀ l m : List Ex, Ex.rawL nf (l ++ m) = Ex.rawL nf l ++ Ex.rawL nf m
  | [], m => by simp [Ex.rawL]
  | x :: l, m => by simp only [List.cons_append, Ex.rawL, Ex.rawL_append nf l m, List.append_assoc]
theorem nmL_len (nf : Ex → Str) (x : Ex) : (nmL nf x).length ≤ 1 := by unfold nmL; split <;> simp
mutual
theorem Ex.raw_len (nf : Ex → Str) : ∀ x : Ex, (x.raw nf).length ≤ x.size
  | .k _ => nmL_len nf _
  | .bit _ => nmL_len nf _
  | .rise _ => nmL_len nf _
  | .fall _ => nmL_len nf _
  | .not y => by have h1 := nmL_len nf (.not y); have h2 := Ex.raw_len nf y; simp only [Ex.raw, Ex.size, List.length_append]; omega
  | .and l => by have h1 := nmL_len nf (.and l); have h2 := Ex.rawL_len nf l; simp only [Ex.raw, Ex.size, List.length_append]; omega
  | .or l => by have h1 := nmL_len nf (.or l); have h2 := Ex.rawL_len nf l; simp only [Ex.raw, Ex.size, List.length_append]; omega
theorem Ex.rawL_len (nf : Ex → Str) : ∀ l : List Ex, (Ex.rawL nf l).length ≤ Ex.sizeL l
  | [] => by simp [Ex.rawL]
  | x :: l => by have h1 := Ex.raw_len nf x; have h2 := Ex.rawL_len nf l; simp only [Ex.rawL, Ex.sizeL, List.length_append]; omega
end
/-- what has been found so far -/
def SO (g0 : Nat) (l : List Str) (H : AH) : Prop := ∃ x tb c, H = ⟨.cells g0 1 [x] :: tb, c⟩ ∧ ((x = nilS ∧ l = [] ∧ tb = []) ∨ ∃ g1, x = .slL 1 0 l.length g1 ∧ tb = [.cells g1 1 (l.map fun s => S s)])
theorem ghost_drop {bs : List Blk} {n : Nat} {xs : List AV} (e : Blk) : Ghost xs ⟨bs ++ [e], n⟩ xs ⟨bs, n⟩ := by
  refine ghost_kill (H := ⟨bs ++ [e], n⟩) (H' := ⟨bs, n⟩) (S := fun i => decide (bs.length ≤ i)) rfl ?_ (FkL.same xs)
  have : ∀ (l : List Blk) (i : Nat), i + l.length = bs.length → KBL ⟨bs ++ [e], n⟩ (fun i => decide (bs.length ≤ i)) i (l ++ [e]) l := by
    intro l
    induction l with
    | nil =>
      intro i hi
      refine .cut fun j x hx => ?_
      cases j with
      | zero => exact .inl (by simp at hi ⊢; omega)
      | succ j => simp at hx
    | cons x l ih =>
      intro i hi
      simp only [List.length_cons] at hi
      exact .keep (by simp; omega) (KB.same x) (ih _ (by omega))
  exact this bs 0 (by omega)
structure SortedBodies (E : Env) (P : Program) : Prop where
  walk : Body2 E P 161 F.expr_walk
  sorted : Body2 E P 190 F.expr_sorted
  sorted1 : Body3 E P 193 F.expr_sorted_c1
  names : Body1 E P 181 F.expr_Names
  names1 : Body1 E P 189 F.expr_Names_c1
  edges : Body1 E P 184 F.expr_Edges
  edges1 : Body1 E P 192 F.expr_Edges_c1
  sortN : FX E P 194 [nilS] (.tup [])
  sortC : ∀ {H : AH} {b g : Nat} {l : List Str}, l.length < 4611686018427387904 → H.bs[b]? = some (.cells g 1 (l.map fun s => S s)) → ACalls E P 194 [.slL b 0 l.length g] H fun r H' => r = .tup [] ∧ H' = ⟨H.bs.set b (.cells g 1 ((sortS l).map fun s => S s)), H.ctr⟩
  compN : FX E P 195 [nilS] nilS
  compC : ∀ {H : AH} {b g : Nat} {l : List Str}, l.length < 4611686018427387904 → H.bs[b]? = some (.cells g 1 (l.map fun s => S s)) → ACalls E P 195 [.slL b 0 l.length g] H fun r H' => r = .slL b 0 (packS l).length g ∧ H' = ⟨H.bs.set b (.cells g 1 ((packS l ++ List.replicate (l.length - (packS l).length) []).map fun s => S s)), H.ctr⟩
section
variable {E : Env} {P : Program}
theorem look_spec (B : SortedBodies E P) {kn : Nat} {nf : Ex → Str} (hnf : ∀ y, FX E P kn [y.enc] (S (nf y))) {g0 : Nat} {l : List Str} (hl : l.length < 10000000) (y : Ex) {H : AH} (hH : SO g0 l H) :
    ACalls E P 193 [y.enc, .ptrF [.fn kn [] []] 0, .ptrL 0 0 g0] H fun r H' => r = .tup [] ∧ SO g0 (l ++ nmL nf y) H' := by
  obtain ⟨x, tb, c, rfl, ht⟩ := hH
  refine B.sorted1 _ _ _ _ _ ?_
  unfold F.expr_sorted_c1
  simp only [nd0, Y1n, Y1o, Y1p, Y1q, Y1w, Y1x, Y1y, Y1z, Y20, Y21, Y28, Y2a, AV.cells?, Nat.reduceAdd, Nat.reduceMul]
  refine wCallV.fx (fs := []) (cs := []) (hnf y) fun n1 => ?_
  simp only [nd0, Y1n, Y1o, Y1p, Y1q, Y1w, Y1x, Y1y, Y1z, Y20, Y21, Y28, Y2a, AV.cells?, Nat.reduceAdd, Nat.reduceMul, show (AV.val (.string ⟨#[]⟩)) = S [] from rfl]
  by_cases hn : nf y = []
  · simp only [nd0, Y1n, Y1o, Y1p, Y1q, Y1w, Y1x, Y1y, Y1z, Y20, Y21, Y28, Y2a, AV.cells?, Nat.reduceAdd, Nat.reduceMul, decide_eq_true hn]
    unfold nmL
    rw [if_pos hn, List.append_nil]
    exact ⟨trivial, x, tb, n1, rfl, ht⟩
  · simp only [nd0, Y1n, Y1o, Y1p, Y1q, Y1w, Y1x, Y1y, Y1z, Y20, Y21, Y28, Y2a, AV.cells?, Nat.reduceAdd, Nat.reduceMul, decide_eq_false hn]
    unfold nmL
    rw [if_neg hn]
    refine wNewS.F' (l := [S (nf y)]) rfl rfl ?_
    rcases ht with ⟨rfl, rfl, rfl⟩ | ⟨g1, rfl, rfl⟩
    · refine ⟨_, _, .old (r := .slL 1 0 1 n1) (H' := ⟨[.cells g0 1 [nilS], .cells n1 1 [S (nf y)]], n1 + 1⟩) rfl, ?_⟩
      rw [store1_L rfl]
      simp only [nd0, Y1n, Y1o, Y1p, Y1q, Y1w, Y1x, Y1y, Y1z, Y20, Y21, Y28, Y2a, AV.cells?, Nat.reduceAdd, Nat.reduceMul, Nat.reduceLT]
      exact ⟨trivial, .slL 1 0 1 n1, _, _, rfl, .inr ⟨n1, rfl, rfl⟩⟩
    · have happ : appendA 1 16 (.slL 1 0 l.length g1) (.slN [S (nf y)] 1) ⟨[.cells g0 1 [.slL 1 0 l.length g1], .cells g1 1 (l.map fun s => S s)], n1⟩
          = some (.slL 1 0 (l.length + 1) n1, ⟨[.cells g0 1 [.slL 1 0 l.length g1], .cells n1 1 ((l ++ [nf y]).map fun s => S s)], n1 + 1⟩) := by
        have hb : (l.length + 1) * 16 ≤ mostBytes ∧ l.length + 1 ≤ mostBytes := by simp [mostBytes]; omega
        simp [appendA, cellsOfA, subL, AH.cells, AH.esz, hb, AV.scalar]
      refine ⟨_, _, .old happ, ?_⟩
      rw [store1_L rfl]
      simp only [nd0, Y1n, Y1o, Y1p, Y1q, Y1w, Y1x, Y1y, Y1z, Y20, Y21, Y28, Y2a, AV.cells?, Nat.reduceAdd, Nat.reduceMul, Nat.reduceLT]
      exact ⟨trivial, .slL 1 0 (l.length + 1) n1, _, _, rfl, .inr ⟨n1, by simp, rfl⟩⟩
def WalkOk (E : Env) (P : Program) (kn g0 : Nat) (nf : Ex → Str) (x : Ex) : Prop := ∀ (l : List Str) (H : AH), l.length + x.size < 10000000 → SO g0 l H → ACalls E P 161 [x.enc, .fn 193 [] [.ptrF [.fn kn [] []] 0, .ptrL 0 0 g0]] H fun r H' => r = .tup [] ∧ SO g0 (l ++ x.raw nf) H'
theorem sizeL_app : ∀ a b : List Ex, Ex.sizeL (a ++ b) = Ex.sizeL a + Ex.sizeL b
  | [], b => by simp [Ex.sizeL]
  | x :: a, b => by simp only [List.cons_append, Ex.sizeL, sizeL_app a b]; omega
theorem walkSL_spec {kn g0 : Nat} {nf : Ex → Str} (xs : List Ex) (hx : ∀ x ∈ xs, WalkOk E P kn g0 nf x) (hlen : xs.length < 10000000) (l : List Str) (hn : l.length + Ex.sizeL xs < 10000000) {H0 : AH} (hH0 : SO g0 l H0) {R : Kt} (hR : ∀ H, SO g0 (l ++ Ex.rawL nf xs) H → R (.tup []) H) :
    wLoop 1 (fun I1 => I1 (Z 0) H0) fun I1 t27 H =>
      wGet (binA .lss t27 (Z xs.length)) H fun t28 H =>
      wIf t28 (
        wGet (iaddr 1 (.slN (Ex.encL xs) xs.length) t27) H fun t29 H =>
        wGet (load1 t29 H) H fun t30 H =>
        wCall E P 161 [t30, .fn 193 [] [.ptrF [.fn kn [] []] 0, .ptrL 0 0 g0]] H fun t33 H =>
        wGet (binA .add t27 (.val (.int .i64 1))) H fun t34 H =>
        I1 t34 H) (
        R (.tup []) H) := by
  refine wLoop.one (fun m i H => ∃ pre r, xs = pre ++ r ∧ i = Z pre.length ∧ m = r.length ∧ SO g0 (l ++ Ex.rawL nf pre) H) xs.length (gh1.mk ⟨[], xs, rfl, rfl, rfl, by simpa [Ex.rawL] using hH0⟩) ?_
  rintro m i H ⟨pre, r, rfl, rfl, rfl, hH⟩
  cases r with
  | nil =>
    rw [List.append_nil] at hR ⊢
    simp only [nd0, Y1n, Y1o, Y1p, Y1q, Y1w, Y1x, Y1y, Y1z, Y20, Y21, Y28, Y2a, AV.cells?, Nat.reduceAdd, Nat.reduceMul, Int.lt_irrefl]
    exact hR _ hH
  | cons x r =>
    rw [sizeL_app] at hn
    simp only [Ex.sizeL] at hn
    simp only [nd0, Y1n, Y1o, Y1p, Y1q, Y1w, Y1x, Y1y, Y1z, Y20, Y21, Y28, Y2a, AV.cells?, Nat.reduceAdd, Nat.reduceMul, decide_eq_true (show (pre.length : Int) < ((pre ++ x :: r).length : Int) by simp; omega)]
    rw [iaddr_Nn lt_mid]
    simp only [nd0, Y1n, Y1o, Y1p, Y1q, Y1w, Y1x, Y1y, Y1z, Y20, Y21, Y28, Y2a, AV.cells?, Nat.reduceAdd, Nat.reduceMul, show (Ex.encL (pre ++ x :: r))[pre.length]? = some x.enc by rw [Ex.encL_map]; simp]
    have hrl := Ex.rawL_len nf pre
    refine ⟨_, hx x (by simp) _ _ (by rw [List.length_append]; omega) hH, ?_⟩
    rintro rr H' ⟨rfl, hH'⟩
    rw [binA_succ (by simp at hlen; omega)]
    simp only [nd0, Y1n, Y1o, Y1p, Y1q, Y1w, Y1x, Y1y, Y1z, Y20, Y21, Y28, Y2a, AV.cells?, Nat.reduceAdd, Nat.reduceMul]
    refine back1.mk r.length (by simp) ⟨pre ++ [x], r, by simp, by simp, rfl, ?_⟩
    rw [Ex.rawL_append]
    simpa [Ex.rawL, List.append_assoc] using hH'
theorem walkS_spec (B : SortedBodies E P) {kn : Nat} {nf : Ex → Str} (hnf : ∀ y, FX E P kn [y.enc] (S (nf y))) {g0 : Nat} : ∀ (k : Nat) (x : Ex), x.wt < k → x.wt ≤ 1000000 → x.fine → WalkOk E P kn g0 nf x := by
  intro k
  induction k with
  | zero => intro x h; omega
  | succ k ih =>
    intro x hx hw hf l H hn hH
    refine B.walk _ _ _ _ ?_
    unfold F.expr_walk
    have h1 : 1 ≤ x.size := by cases x <;> simp [Ex.size]
    refine ⟨⟨193, [], _, rfl, _, look_spec B hnf (by omega) x hH, ?_⟩⟩
    rintro r H1 ⟨rfl, hH1⟩
    have hl1 : (l ++ nmL nf x).length ≤ l.length + 1 := by rw [List.length_append]; have := nmL_len nf x; omega
    have fin : x.raw nf = nmL nf x → SO g0 (l ++ x.raw nf) H1 := fun e => by rw [e]; exact hH1
    cases x with
    | k b => simp only [Ex.enc]; simp only [nd0, Y1n, Y1o, Y1p, Y1q, Y1w, Y1x, Y1y, Y1z, Y20, Y21, Y28, Y2a, AV.cells?, Nat.reduceAdd, Nat.reduceMul, asA, show (11 : Nat) = 10 ↔ False by decide, show (11 : Nat) = 9 ↔ False by decide, show (11 : Nat) = 8 ↔ False by decide]; exact ⟨trivial, fin rfl⟩
    | bit b => simp only [Ex.enc]; simp only [nd0, Y1n, Y1o, Y1p, Y1q, Y1w, Y1x, Y1y, Y1z, Y20, Y21, Y28, Y2a, AV.cells?, Nat.reduceAdd, Nat.reduceMul, asA, show (14 : Nat) = 10 ↔ False by decide, show (14 : Nat) = 9 ↔ False by decide, show (14 : Nat) = 8 ↔ False by decide]; exact ⟨trivial, fin rfl⟩
    | rise b => simp only [Ex.enc]; simp only [nd0, Y1n, Y1o, Y1p, Y1q, Y1w, Y1x, Y1y, Y1z, Y20, Y21, Y28, Y2a, AV.cells?, Nat.reduceAdd, Nat.reduceMul, asA, show (12 : Nat) = 10 ↔ False by decide, show (12 : Nat) = 9 ↔ False by decide, show (12 : Nat) = 8 ↔ False by decide]; exact ⟨trivial, fin rfl⟩
    | fall b => simp only [Ex.enc]; simp only [nd0, Y1n, Y1o, Y1p, Y1q, Y1w, Y1x, Y1y, Y1z, Y20, Y21, Y28, Y2a, AV.cells?, Nat.reduceAdd, Nat.reduceMul, asA, show (13 : Nat) = 10 ↔ False by decide, show (13 : Nat) = 9 ↔ False by decide, show (13 : Nat) = 8 ↔ False by decide]; exact ⟨trivial, fin rfl⟩
    | not y =>
      simp only [Ex.enc]
      simp only [Ex.wt] at hw hx
      simp only [Ex.size] at hn
      simp only [nd0, Y1n, Y1o, Y1p, Y1q, Y1w, Y1x, Y1y, Y1z, Y20, Y21, Y28, Y2a, AV.cells?, Nat.reduceAdd, Nat.reduceMul, asA, show (10 : Nat) = 10 ↔ True by decide]
      obtain ⟨x, tb, c, rfl, ht⟩ := hH1
      refine wNew.L (l := [nilE]) rfl ?_
      have hlast : ((Blk.cells g0 1 [x] :: tb) ++ [Blk.cells c 1 [nilE]])[(Blk.cells g0 1 [x] :: tb).length]? = some (.cells c 1 [nilE]) := by simp
      have hst : storeN 1 (.ptrL (Blk.cells g0 1 [x] :: tb).length 0 c) (.agg [y.enc]) ⟨(Blk.cells g0 1 [x] :: tb) ++ [Blk.cells c 1 [nilE]], c + 1⟩ = some ⟨(Blk.cells g0 1 [x] :: tb) ++ [Blk.cells c 1 [y.enc]], c + 1⟩ := by
        rw [storeN_L (n := 1) (xs := [y.enc]) rfl (by simp [Ex.enc_scalar]), hlast, blkDo_self]
        simp [putL]
      refine ⟨⟨_, hst, ?_⟩⟩
      refine wGet_some.2 ?_
      refine ⟨⟨y.enc, by simp [load1, AH.cells], ?_⟩⟩
      refine ⟨_, ACalls.args (ghost_drop _) (ih y (by omega) (by omega) hf _ ⟨Blk.cells g0 1 [x] :: tb, c + 1⟩ (by omega) ⟨x, tb, c + 1, rfl, ht⟩), ?_⟩
      rintro r H2 ⟨rfl, hH2⟩
      refine ⟨trivial, ?_⟩
      simp only [Ex.raw]
      rw [← List.append_assoc]; exact hH2
    | and xs =>
      simp only [Ex.enc]
      simp only [Ex.wt] at hw hx
      simp only [Ex.size] at hn
      have hll := Ex.len_wtL hf.2
      simp only [nd0, Y1n, Y1o, Y1p, Y1q, Y1w, Y1x, Y1y, Y1z, Y20, Y21, Y28, Y2a, AV.cells?, Nat.reduceAdd, Nat.reduceMul, asA, show (9 : Nat) = 10 ↔ False by decide, show (9 : Nat) = 9 ↔ True by decide]
      refine walkSL_spec (R := fun r H' => True ∧ SO g0 (l ++ (Ex.and xs).raw nf) H') xs (fun y hy => ih y (by have := Ex.wt_mem hy; omega) (by have := Ex.wt_mem hy; omega) (Ex.fine_mem hf.2 hy)) (by omega) _ (by omega) hH1 fun H2 hH2 => ⟨trivial, ?_⟩
      simp only [Ex.raw]
      rw [← List.append_assoc]; exact hH2
    | or xs =>
      simp only [Ex.enc]
      simp only [Ex.wt] at hw hx
      simp only [Ex.size] at hn
      have hll := Ex.len_wtL hf.2
      simp only [nd0, Y1n, Y1o, Y1p, Y1q, Y1w, Y1x, Y1y, Y1z, Y20, Y21, Y28, Y2a, AV.cells?, Nat.reduceAdd, Nat.reduceMul, asA, show (8 : Nat) = 10 ↔ False by decide, show (8 : Nat) = 9 ↔ False by decide, show (8 : Nat) = 8 ↔ True by decide]
      refine walkSL_spec (R := fun r H' => True ∧ SO g0 (l ++ (Ex.or xs).raw nf) H') xs (fun y hy => ih y (by have := Ex.wt_mem hy; omega) (by have := Ex.wt_mem hy; omega) (Ex.fine_mem hf.2 hy)) (by omega) _ (by omega) hH1 fun H2 hH2 => ⟨trivial, ?_⟩
      simp only [Ex.raw]
      rw [← List.append_assoc]; exact hH2
/-- sorted, each once -/
def onceS (l : List Str) : List Str := packS (sortS l)
theorem onceS_mem {l : List Str} {x : Str} : x ∈ onceS l ↔ x ∈ l := packS_mem.trans sortS_mem
theorem onceS_length (l : List Str) : (onceS l).length ≤ l.length := by
  have := packS_length (sortS l)
  rw [sortS_length] at this
  exact this
theorem sorted_spec (B : SortedBodies E P) {kn : Nat} {nf : Ex → Str} (hnf : ∀ y, FX E P kn [y.enc] (S (nf y))) (x : Ex) (hw : x.wt ≤ 1000000) (hf : x.fine) : FX E P 190 [x.enc, .fn kn [] []] (Lm S (onceS (x.raw nf))) := by
  refine FX.of ⟨Ex.enc_closed x, ⟨trivial, trivial⟩, trivial⟩ (closed_S _) fun n R hR => B.sorted _ _ _ _ ?_
  unfold F.expr_sorted
  rw [cells?_scalar (show (AV.fn kn [] []).scalar = true from rfl)]
  refine wNew.F' rfl ?_
  refine wNew.L (l := [nilS]) rfl ?_
  have hsz := Ex.size_wt x hf
  have hrl := Ex.raw_len nf x
  refine ⟨_, walkS_spec B hnf (x.wt + 1) x (by omega) hw hf [] _ (by simp; omega) ⟨nilS, [], _, rfl, .inl ⟨rfl, rfl, rfl⟩⟩, ?_⟩
  rintro r H1 ⟨rfl, y, tb, c, rfl, ht⟩
  rw [List.nil_append] at ht
  simp only [nd0, Y1n, Y1o, Y1p, Y1q, Y1w, Y1x, Y1y, Y1z, Y20, Y21, Y28, Y2a, AV.cells?, Nat.reduceAdd, Nat.reduceMul]
  rcases ht with ⟨rfl, hz, rfl⟩ | ⟨g1, rfl, rfl⟩
  · refine wCall.fx B.sortN fun n2 => ?_
    simp only [nd0, Y1n, Y1o, Y1p, Y1q, Y1w, Y1x, Y1y, Y1z, Y20, Y21, Y28, Y2a, AV.cells?, Nat.reduceAdd, Nat.reduceMul]
    refine wCall.fx B.compN fun n3 => ?_
    refine hR _ _ ?_
    rw [hz]
    have h0 : onceS [] = [] := List.eq_nil_of_length_eq_zero (by have := onceS_length []; simpa using this)
    rw [h0]
    exact .sub .nil
  · refine ⟨_, B.sortC (H := ⟨[.cells n 1 [.slL 1 0 (x.raw nf).length g1], .cells g1 1 ((x.raw nf).map fun s => S s)], c⟩) (b := 1) (by omega) rfl, ?_⟩
    rintro r H2 ⟨rfl, rfl⟩
    simp only [nd0, Y1n, Y1o, Y1p, Y1q, Y1w, Y1x, Y1y, Y1z, Y20, Y21, Y28, Y2a, AV.cells?, Nat.reduceAdd, Nat.reduceMul]
    have hlen := sortS_length (x.raw nf)
    rw [← hlen]
    refine ⟨_, B.compC (H := ⟨[.cells n 1 [.slL 1 0 (sortS (x.raw nf)).length g1], .cells g1 1 ((sortS (x.raw nf)).map fun s => S s)], c⟩) (b := 1) (by omega) rfl, ?_⟩
    rintro r H3 ⟨rfl, rfl⟩
    simp only [nd0, Y1n, Y1o, Y1p, Y1q, Y1w, Y1x, Y1y, Y1z, Y20, Y21, Y28, Y2a, AV.cells?, Nat.reduceAdd, Nat.reduceMul]
    refine hR _ _ ?_
    refine Fk.then (Fk.slF (H := ⟨[.cells n 1 [.slL 1 0 (sortS (x.raw nf)).length g1], .cells g1 1 ((packS (sortS (x.raw nf)) ++ List.replicate ((sortS (x.raw nf)).length - (packS (sortS (x.raw nf))).length) []).map fun s => S s)], c⟩) (b := 1) (ys := (onceS (x.raw nf)).map fun s => S s) (onceS (x.raw nf)).length rfl rfl ?_) .F'
    rw [List.drop_zero, List.map_append, List.take_append_of_le_length (by simp [onceS]), List.take_of_length_le (by simp [onceS])]
    exact FkL.same _
/-- its name, if it has one -/
def nf1 : Ex → Str
  | .bit s => s
  | .rise s => s
  | .fall s => s
  | _ => []
def nf2 : Ex → Str
  | .rise s => s
  | .fall s => s
  | _ => []
theorem names1_spec (B : SortedBodies E P) (y : Ex) : FX E P 189 [y.enc] (S (nf1 y)) := by
  refine FX.of' ⟨Ex.enc_closed y, trivial⟩ trivial fun n R hR => B.names1 _ _ _ ?_
  unfold F.expr_Names_c1
  cases y with
  | k b => simp only [Ex.enc]; simp only [nd0, Y1n, Y1o, Y1p, Y1q, Y1w, Y1x, Y1y, Y1z, Y20, Y21, Y28, Y2a, AV.cells?, Nat.reduceAdd, Nat.reduceMul, asA, show (11 : Nat) = 14 ↔ False by decide, show (11 : Nat) = 12 ↔ False by decide, show (11 : Nat) = 13 ↔ False by decide]; exact hR _ _ rfl
  | bit b => simp only [Ex.enc]; simp only [nd0, Y1n, Y1o, Y1p, Y1q, Y1w, Y1x, Y1y, Y1z, Y20, Y21, Y28, Y2a, AV.cells?, Nat.reduceAdd, Nat.reduceMul, asA, show (14 : Nat) = 14 ↔ True by decide]; exact hR _ _ rfl
  | rise b => simp only [Ex.enc]; simp only [nd0, Y1n, Y1o, Y1p, Y1q, Y1w, Y1x, Y1y, Y1z, Y20, Y21, Y28, Y2a, AV.cells?, Nat.reduceAdd, Nat.reduceMul, asA, show (12 : Nat) = 14 ↔ False by decide, show (12 : Nat) = 12 ↔ True by decide]; exact hR _ _ rfl
  | fall b => simp only [Ex.enc]; simp only [nd0, Y1n, Y1o, Y1p, Y1q, Y1w, Y1x, Y1y, Y1z, Y20, Y21, Y28, Y2a, AV.cells?, Nat.reduceAdd, Nat.reduceMul, asA, show (13 : Nat) = 14 ↔ False by decide, show (13 : Nat) = 12 ↔ False by decide, show (13 : Nat) = 13 ↔ True by decide]; exact hR _ _ rfl
  | not b => simp only [Ex.enc]; simp only [nd0, Y1n, Y1o, Y1p, Y1q, Y1w, Y1x, Y1y, Y1z, Y20, Y21, Y28, Y2a, AV.cells?, Nat.reduceAdd, Nat.reduceMul, asA, show (10 : Nat) = 14 ↔ False by decide, show (10 : Nat) = 12 ↔ False by decide, show (10 : Nat) = 13 ↔ False by decide]; exact hR _ _ rfl
  | and b => simp only [Ex.enc]; simp only [nd0, Y1n, Y1o, Y1p, Y1q, Y1w, Y1x, Y1y, Y1z, Y20, Y21, Y28, Y2a, AV.cells?, Nat.reduceAdd, Nat.reduceMul, asA, show (9 : Nat) = 14 ↔ False by decide, show (9 : Nat) = 12 ↔ False by decide, show (9 : Nat) = 13 ↔ False by decide]; exact hR _ _ rfl
  | or b => simp only [Ex.enc]; simp only [nd0, Y1n, Y1o, Y1p, Y1q, Y1w, Y1x, Y1y, Y1z, Y20, Y21, Y28, Y2a, AV.cells?, Nat.reduceAdd, Nat.reduceMul, asA, show (8 : Nat) = 14 ↔ False by decide, show (8 : Nat) = 12 ↔ False by decide, show (8 : Nat) = 13 ↔ False by decide]; exact hR _ _ rfl
theorem edges1_spec (B : SortedBodies E P) (y : Ex) : FX E P 192 [y.enc] (S (nf2 y)) := by
  refine FX.of' ⟨Ex.enc_closed y, trivial⟩ trivial fun n R hR => B.edges1 _ _ _ ?_
  unfold F.expr_Edges_c1
  cases y with
  | k b => simp only [Ex.enc]; simp only [nd0, Y1n, Y1o, Y1p, Y1q, Y1w, Y1x, Y1y, Y1z, Y20, Y21, Y28, Y2a, AV.cells?, Nat.reduceAdd, Nat.reduceMul, asA, show (11 : Nat) = 12 ↔ False by decide, show (11 : Nat) = 13 ↔ False by decide]; exact hR _ _ rfl
  | bit b => simp only [Ex.enc]; simp only [nd0, Y1n, Y1o, Y1p, Y1q, Y1w, Y1x, Y1y, Y1z, Y20, Y21, Y28, Y2a, AV.cells?, Nat.reduceAdd, Nat.reduceMul, asA, show (14 : Nat) = 12 ↔ False by decide, show (14 : Nat) = 13 ↔ False by decide]; exact hR _ _ rfl
  | rise b => simp only [Ex.enc]; simp only [nd0, Y1n, Y1o, Y1p, Y1q, Y1w, Y1x, Y1y, Y1z, Y20, Y21, Y28, Y2a, AV.cells?, Nat.reduceAdd, Nat.reduceMul, asA, show (12 : Nat) = 12 ↔ True by decide]; exact hR _ _ rfl
  | fall b => simp only [Ex.enc]; simp only [nd0, Y1n, Y1o, Y1p, Y1q, Y1w, Y1x, Y1y, Y1z, Y20, Y21, Y28, Y2a, AV.cells?, Nat.reduceAdd, Nat.reduceMul, asA, show (13 : Nat) = 12 ↔ False by decide, show (13 : Nat) = 13 ↔ True by decide]; exact hR _ _ rfl
  | not b => simp only [Ex.enc]; simp only [nd0, Y1n, Y1o, Y1p, Y1q, Y1w, Y1x, Y1y, Y1z, Y20, Y21, Y28, Y2a, AV.cells?, Nat.reduceAdd, Nat.reduceMul, asA, show (10 : Nat) = 12 ↔ False by decide, show (10 : Nat) = 13 ↔ False by decide]; exact hR _ _ rfl
  | and b => simp only [Ex.enc]; simp only [nd0, Y1n, Y1o, Y1p, Y1q, Y1w, Y1x, Y1y, Y1z, Y20, Y21, Y28, Y2a, AV.cells?, Nat.reduceAdd, Nat.reduceMul, asA, show (9 : Nat) = 12 ↔ False by decide, show (9 : Nat) = 13 ↔ False by decide]; exact hR _ _ rfl
  | or b => simp only [Ex.enc]; simp only [nd0, Y1n, Y1o, Y1p, Y1q, Y1w, Y1x, Y1y, Y1z, Y20, Y21, Y28, Y2a, AV.cells?, Nat.reduceAdd, Nat.reduceMul, asA, show (8 : Nat) = 12 ↔ False by decide, show (8 : Nat) = 13 ↔ False by decide]; exact hR _ _ rfl
def Ex.names (x : Ex) : List Str := onceS (x.raw nf1)
def Ex.edges (x : Ex) : List Str := onceS (x.raw nf2)
theorem Names_spec (B : SortedBodies E P) (x : Ex) (hw : x.wt ≤ 1000000) (hf : x.fine) : FX E P 181 [x.enc] (Lm S x.names) := by
  refine FX.of' ⟨Ex.enc_closed x, trivial⟩ (closed_S _) fun n R hR => B.names _ _ _ ?_
  unfold F.expr_Names
  exact wCall.fx (sorted_spec B (names1_spec B) x hw hf) fun n => hR _ _ rfl
theorem Edges_spec (B : SortedBodies E P) (x : Ex) (hw : x.wt ≤ 1000000) (hf : x.fine) : FX E P 184 [x.enc] (Lm S x.edges) := by
  refine FX.of' ⟨Ex.enc_closed x, trivial⟩ (closed_S _) fun n R hR => B.edges _ _ _ ?_
  unfold F.expr_Edges
  exact wCall.fx (sorted_spec B (edges1_spec B) x hw hf) fun n => hR _ _ rfl
end
end Go.Sc
