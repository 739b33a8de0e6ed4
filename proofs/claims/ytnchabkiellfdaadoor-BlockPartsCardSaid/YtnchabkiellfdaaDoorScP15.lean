/-
  CONTRACTS: the reference's tables: Part; bare.
-/
import Derived.Test.YtnchabkiellfdaaDoorScX4
import Derived.Test.YtnchabkiellfdaaDoorScV6
namespace Go.Sc
open Go
set_option linter.unusedSimpArgs false
set_option linter.unusedVariables false

theorem mk_same {t : Table} {x y e : Nat} (he : 0 < e) : ∀ {d K : Nat}, e ≤ d → d ≤ K → (mk t K x y = e ↔ mk t d x y = e) := by
  intro d K h1 h2
  induction K with
  | zero => have : d = 0 := by omega
            omega
  | succ K ih =>
    rcases Nat.lt_or_eq_of_le h2 with h | h
    · rw [← ih (by omega)]
      simp only [mk]
      split
      · exact Iff.rfl
      · split
        · constructor <;> intro h <;> omega
        · constructor <;> intro h <;> omega
    · subst h; exact Iff.rfl
theorem mk_first {t : Table} {a b : Nat} (ha : a < t.next.length) (hb : b < t.next.length) {d k : Nat} (h : mk t d a b = k) (hk : 0 < k) : k ≤ d ∧ cell (iter t k) a ≠ cell (iter t k) b ∧ ∀ j, j < k → cell (iter t j) a = cell (iter t j) b := by
  have hle : k ≤ d := h ▸ mk_le t a b d
  have h2 : mk t k a b = k := (mk_same hk (Nat.le_refl k) hle).1 h
  obtain ⟨e, rfl⟩ : ∃ e, k = e + 1 := ⟨k - 1, by omega⟩
  obtain ⟨h3, h4⟩ := (mk_is ha hb).1 h2
  exact ⟨hle, h4, fun j hj => iter_apart ha hb (by omega) h3⟩
theorem mk_idx {t : Table} {a b : Nat} (ha : a < t.next.length) (hb : b < t.next.length) (K : Nat) :
    ((List.range (K + 1)).map (iter t)).findIdx? (fun l => !decide (cell l a = cell l b)) = if mk t K a b = 0 then none else some (mk t K a b) := by
  by_cases h0 : mk t K a b = 0
  · rw [if_pos h0, List.findIdx?_eq_none_iff]
    intro l hl
    obtain ⟨j, hj, rfl⟩ := List.mem_map.1 hl
    rw [List.mem_range] at hj
    have := iter_apart ha hb (show j ≤ K by omega) ((mk_zero ha hb K).1 h0)
    simp [this]
  · rw [if_neg h0]
    obtain ⟨h1, h2, h3⟩ := mk_first ha hb rfl (Nat.pos_of_ne_zero h0)
    rw [List.findIdx?_eq_some_iff_getElem]
    refine ⟨by simp; omega, by simp [h2], fun j hj => ?_⟩
    have := h3 j hj
    simp [this]
noncomputable def pk (t : Table) (a b : Nat) : Nat := mk t (finK t) a b
theorem PartA_is {t : Table} (hc : check t = none) {a b : Int} (h : 0 ≤ a ∧ a < t.next.length ∧ 0 ≤ b ∧ b < t.next.length) :
    PartA t a b = if pk t a.toNat b.toNat = 0 then .tup [LI [], .ifc 1 (Z 8)] else .tup [LI (partFrom t (pk t a.toNat b.toNat) a.toNat b.toNat []), nilE] := by
  simp only [PartA, hc, if_true]
  rw [if_pos h, mk_idx (by omega) (by omega)]
  unfold pk
  by_cases h0 : mk t (finK t) a.toNat b.toNat = 0
  · rw [if_pos h0, if_pos h0]
  · rw [if_neg h0, if_neg h0]

theorem errA_Er {t : Table} (h : check t ≠ none) : (∃ c : Int, c ≠ 0 ∧ errA (check t) = Er c) ∨ ∃ c s : Int, c ≠ 0 ∧ errA (check t) = At c s := by
  cases hc : check t with
  | none => exact absurd hc h
  | some e =>
    obtain ⟨k, s⟩ := e
    have hk := check_code hc
    cases s with
    | none => exact .inl ⟨k, by omega, by rw [Er_ne (by omega)]; rfl⟩
    | some s => exact .inr ⟨k, s, by omega, rfl⟩
section
variable {E : Env} {P : Program}
theorem bare_spec (B : PlaceBodies E P) (hA : Body2 E P 77 F.law_at) (hb : Body1 E P 87 F.ref_Bare) (hB : Body2 E P 89 F.law_bare) (c e : Int) : FX E P 89 [Er c, Z e] (Bo (decide (c = e))) := by
  refine FX.of' (by simp [AV.closedL, Er_closed, AV.closed]) (by simp [AV.closed]) fun n R hR => hB _ _ _ _ ?_
  unfold F.law_bare
  refine wCall.fx (Bare_spec hb e) fun n => ?_
  refine wCall.fx (at_spec B hA c e (-1)) fun n => ?_
  exact hR _ _ (by simp)
theorem bareAt_spec (B : PlaceBodies E P) (hA : Body2 E P 77 F.law_at) (hb : Body1 E P 87 F.ref_Bare) (hB : Body2 E P 89 F.law_bare) (c q e : Int) : FX E P 89 [At c q, Z e] (Bo (decide (c = e) && decide (q = -1))) := by
  refine FX.of' (by simp [AV.closedL, At_closed, AV.closed]) (by simp [AV.closed]) fun n R hR => hB _ _ _ _ ?_
  unfold F.law_bare
  refine wCall.fx (Bare_spec hb e) fun n => ?_
  refine wCall.fx (atAt_spec B hA c q e (-1)) fun n => ?_
  exact hR _ _ rfl
noncomputable def rPartA (t : Table) (a b : Nat) : AV := if pk t a b = 0 then .tup [LI [], Bo false] else .tup [LI (partFrom t (pk t a b) a b []), Bo true]
theorem rPart_spec (hA : Body1 E P 85 F.ref_Table_apart) (hB : Body3 E P 88 F.ref_Table_Part) (t : Table) (hg : Good t) (a b : Nat) (ha : a < t.next.length) (hb : b < t.next.length) : FX E P 88 [Tb t, Z a, Z b] (rPartA t a b) := by
  refine FX.of (by simp [AV.closedL, Tb_closed, AV.closed]) (by unfold rPartA; split <;> simp [AV.closed, AV.closedL, LI_closed]) fun n R hR => hB _ _ _ _ _ ?_
  have g1 := hg.pos; have g2 := hg.few; have g3 := hg.wide; have g4 := hg.tells
  unfold F.ref_Table_Part
  simp only [Tb]
  refine wNew.F' (l := [LLI t.next, LLI t.tells]) rfl ?_
  simp only [Y0, Y1, Y2, Y3, Y4, Y5, Y6, Y7, Y8, Y9, Ya, Yb, Yc, Yd, Ye, Yf, Yg, Yh, Yi, Yj, Yk, Yl, Ym, Yn, Yo, Yp, Yq, Yr, Ys, Yt, Yu, Yv, Yw, Yx, Yy, Yz, Y10, Y11, Y12, Y13, Y14, Y15, Y16, Y17, Y18, Y19, Y1a, Y1b, Y1c, Y1d, Y1e, Y1f, Y1g, Y1h, Y1i, Y1j, Y1k, Y1l, AV.cells?, Y1n, Y1o, Y1p, Y1q, Y1r, Y1s, Y1t, Nat.reduceAdd, Nat.reduceMul, Y1w, Y1x, Y1y, Y1z, Y20, Y21, Y22, Y23, Y24, Y25, Y26, Y27, Y28, Y29, Y2a, Y2b]
  refine wCall.fx (apart_spec hA t hg) fun n1 => ?_
  obtain ⟨hK1, hK⟩ := finK_spec hg
  generalize hN : t.next.length = N at *
  have hrow : ∀ r, r < N → r < (sqL N (mk t (finK t))).length := fun r hr => by rw [sqL_len]; exact hr
  have hcel : ∀ r s, r < N → s < N → s < (row (sqL N (mk t (finK t))) r).length := fun r s hr hs => by rw [sqL_row hr]; simpa using hs
  rw [iaddr_LLI (hrow a ha)]
  simp only [Y0, Y1, Y2, Y3, Y4, Y5, Y6, Y7, Y8, Y9, Ya, Yb, Yc, Yd, Ye, Yf, Yg, Yh, Yi, Yj, Yk, Yl, Ym, Yn, Yo, Yp, Yq, Yr, Ys, Yt, Yu, Yv, Yw, Yx, Yy, Yz, Y10, Y11, Y12, Y13, Y14, Y15, Y16, Y17, Y18, Y19, Y1a, Y1b, Y1c, Y1d, Y1e, Y1f, Y1g, Y1h, Y1i, Y1j, Y1k, Y1l, AV.cells?, Y1n, Y1o, Y1p, Y1q, Y1r, Y1s, Y1t, Nat.reduceAdd, Nat.reduceMul, Y1w, Y1x, Y1y, Y1z, Y20, Y21, Y22, Y23, Y24, Y25, Y26, Y27, Y28, Y29, Y2a, Y2b, row_get (hrow a ha)]
  rw [iaddr_LI (hcel a b ha hb)]
  simp only [Y0, Y1, Y2, Y3, Y4, Y5, Y6, Y7, Y8, Y9, Ya, Yb, Yc, Yd, Ye, Yf, Yg, Yh, Yi, Yj, Yk, Yl, Ym, Yn, Yo, Yp, Yq, Yr, Ys, Yt, Yu, Yv, Yw, Yx, Yy, Yz, Y10, Y11, Y12, Y13, Y14, Y15, Y16, Y17, Y18, Y19, Y1a, Y1b, Y1c, Y1d, Y1e, Y1f, Y1g, Y1h, Y1i, Y1j, Y1k, Y1l, AV.cells?, Y1n, Y1o, Y1p, Y1q, Y1r, Y1s, Y1t, Nat.reduceAdd, Nat.reduceMul, Y1w, Y1x, Y1y, Y1z, Y20, Y21, Y22, Y23, Y24, Y25, Y26, Y27, Y28, Y29, Y2a, Y2b, cell_at (hcel a b ha hb)]
  rw [sqL_cell ha hb]
  have hpk : mk t (finK t) a b = pk t a b := rfl
  rw [hpk]
  by_cases h0 : pk t a b = 0
  · simp only [Y0, Y1, Y2, Y3, Y4, Y5, Y6, Y7, Y8, Y9, Ya, Yb, Yc, Yd, Ye, Yf, Yg, Yh, Yi, Yj, Yk, Yl, Ym, Yn, Yo, Yp, Yq, Yr, Ys, Yt, Yu, Yv, Yw, Yx, Yy, Yz, Y10, Y11, Y12, Y13, Y14, Y15, Y16, Y17, Y18, Y19, Y1a, Y1b, Y1c, Y1d, Y1e, Y1f, Y1g, Y1h, Y1i, Y1j, Y1k, Y1l, AV.cells?, Y1n, Y1o, Y1p, Y1q, Y1r, Y1s, Y1t, Nat.reduceAdd, Nat.reduceMul, Y1w, Y1x, Y1y, Y1z, Y20, Y21, Y22, Y23, Y24, Y25, Y26, Y27, Y28, Y29, Y2a, Y2b, decide_eq_true (show ((pk t a b : Nat) : Int) = 0 by omega)]
    refine hR _ _ (.sub ?_)
    rw [show rPartA t a b = .tup [LI [], Bo false] by simp [rPartA, h0]]
    exact .tup (.cons .nil (.one (.refl _)))
  simp only [Y0, Y1, Y2, Y3, Y4, Y5, Y6, Y7, Y8, Y9, Ya, Yb, Yc, Yd, Ye, Yf, Yg, Yh, Yi, Yj, Yk, Yl, Ym, Yn, Yo, Yp, Yq, Yr, Ys, Yt, Yu, Yv, Yw, Yx, Yy, Yz, Y10, Y11, Y12, Y13, Y14, Y15, Y16, Y17, Y18, Y19, Y1a, Y1b, Y1c, Y1d, Y1e, Y1f, Y1g, Y1h, Y1i, Y1j, Y1k, Y1l, AV.cells?, Y1n, Y1o, Y1p, Y1q, Y1r, Y1s, Y1t, Nat.reduceAdd, Nat.reduceMul, Y1w, Y1x, Y1y, Y1z, Y20, Y21, Y22, Y23, Y24, Y25, Y26, Y27, Y28, Y29, Y2a, Y2b, decide_eq_false (show ¬ ((pk t a b : Nat) : Int) = 0 by omega)]
  have hpkle : pk t a b ≤ finK t := mk_le t a b _
  refine wLoop.four (fun m t1 t2 t9 t10 H => ∃ (a' b' : Nat) (z : Blk) (out : List Int) (c : Nat), t10 = Z m ∧ t1 = Z a' ∧ t2 = Z b' ∧ H = ⟨[z], c⟩ ∧ a' < N ∧ b' < N ∧ Gr 1 z 0 t9 (out.map fun z => Z z) out.length ∧ out.length + m ≤ finK t ∧ (0 < m → mk t (finK t) a' b' = m) ∧ partFrom t m a' b' out = partFrom t (pk t a b) a b []) (pk t a b)
    (gh4.of (ghost_room [.dead] (by simp)) ⟨a, b, .dead, [], n1, rfl, rfl, rfl, rfl, ha, hb, .nil, by simpa using hpkle, fun _ => rfl, rfl⟩) ?_
  rintro m t1 t2 t9 t10 H ⟨a', b', z, out, c, rfl, rfl, rfl, rfl, ha', hb', h9, hlen, hmk, hpf⟩
  cases m with
  | zero =>
    simp only [Y0, Y1, Y2, Y3, Y4, Y5, Y6, Y7, Y8, Y9, Ya, Yb, Yc, Yd, Ye, Yf, Yg, Yh, Yi, Yj, Yk, Yl, Ym, Yn, Yo, Yp, Yq, Yr, Ys, Yt, Yu, Yv, Yw, Yx, Yy, Yz, Y10, Y11, Y12, Y13, Y14, Y15, Y16, Y17, Y18, Y19, Y1a, Y1b, Y1c, Y1d, Y1e, Y1f, Y1g, Y1h, Y1i, Y1j, Y1k, Y1l, AV.cells?, Y1n, Y1o, Y1p, Y1q, Y1r, Y1s, Y1t, Nat.reduceAdd, Nat.reduceMul, Y1w, Y1x, Y1y, Y1z, Y20, Y21, Y22, Y23, Y24, Y25, Y26, Y27, Y28, Y29, Y2a, Y2b, show ((0 : Nat) : Int) = 0 from rfl, Int.lt_irrefl]
    refine hR _ _ (.sub ?_)
    rw [show rPartA t a b = .tup [LI (partFrom t (pk t a b) a b []), Bo true] by simp [rPartA, h0], ← hpf]
    simp only [partFrom]
    refine .tup (.cons ?_ (.one (.refl _)))
    have := h9.sub
    simpa [LI, Lm] using this
  | succ k =>
  have hra := hg.rows a' (by omega)
  have hrb := hg.rows b' (by omega)
  obtain ⟨_, hf1, hf2⟩ := mk_first (t := t) (by omega) (by omega) (hmk (by omega)) (by omega)
  have hsame := hf2 k (by omega)
  simp only [Y0, Y1, Y2, Y3, Y4, Y5, Y6, Y7, Y8, Y9, Ya, Yb, Yc, Yd, Ye, Yf, Yg, Yh, Yi, Yj, Yk, Yl, Ym, Yn, Yo, Yp, Yq, Yr, Ys, Yt, Yu, Yv, Yw, Yx, Yy, Yz, Y10, Y11, Y12, Y13, Y14, Y15, Y16, Y17, Y18, Y19, Y1a, Y1b, Y1c, Y1d, Y1e, Y1f, Y1g, Y1h, Y1i, Y1j, Y1k, Y1l, AV.cells?, Y1n, Y1o, Y1p, Y1q, Y1r, Y1s, Y1t, Nat.reduceAdd, Nat.reduceMul, Y1w, Y1x, Y1y, Y1z, Y20, Y21, Y22, Y23, Y24, Y25, Y26, Y27, Y28, Y29, Y2a, Y2b, decide_eq_true (show (0 : Int) < ((k + 1 : Nat) : Int) by omega)]
  refine wJoin.three (fun t1 t2 t9 H => ∃ (a' b' : Nat) (z : Blk) (out : List Int) (c : Nat), t1 = Z a' ∧ t2 = Z b' ∧ H = ⟨[z], c⟩ ∧ a' < N ∧ b' < N ∧ Gr 1 z 0 t9 (out.map fun z => Z z) out.length ∧ out.length + k ≤ finK t ∧ (0 < k → mk t (finK t) a' b' = k) ∧ partFrom t k a' b' out = partFrom t (pk t a b) a b []) ?_ ?_
  case refine_2 =>
    rintro t1 t2 t9 H ⟨a', b', z, out, c, rfl, rfl, rfl, ha', hb', h9, hlen, hmk, hpf⟩
    rw [binA_sub (by omega)]
    simp only [Y0, Y1, Y2, Y3, Y4, Y5, Y6, Y7, Y8, Y9, Ya, Yb, Yc, Yd, Ye, Yf, Yg, Yh, Yi, Yj, Yk, Yl, Ym, Yn, Yo, Yp, Yq, Yr, Ys, Yt, Yu, Yv, Yw, Yx, Yy, Yz, Y10, Y11, Y12, Y13, Y14, Y15, Y16, Y17, Y18, Y19, Y1a, Y1b, Y1c, Y1d, Y1e, Y1f, Y1g, Y1h, Y1i, Y1j, Y1k, Y1l, AV.cells?, Y1n, Y1o, Y1p, Y1q, Y1r, Y1s, Y1t, Nat.reduceAdd, Nat.reduceMul, Y1w, Y1x, Y1y, Y1z, Y20, Y21, Y22, Y23, Y24, Y25, Y26, Y27, Y28, Y29, Y2a, Y2b, show (((k + 1 : Nat) : Int) - 1) = (k : Int) by omega]
    exact back4.mk k (by omega) ⟨a', b', z, out, c, rfl, rfl, rfl, rfl, ha', hb', h9, hlen, hmk, hpf⟩
  have ha2 : a' < t.next.length := by omega
  have hb2 : b' < t.next.length := by omega
  rw [iaddr_LLI ha2]
  simp only [Y0, Y1, Y2, Y3, Y4, Y5, Y6, Y7, Y8, Y9, Ya, Yb, Yc, Yd, Ye, Yf, Yg, Yh, Yi, Yj, Yk, Yl, Ym, Yn, Yo, Yp, Yq, Yr, Ys, Yt, Yu, Yv, Yw, Yx, Yy, Yz, Y10, Y11, Y12, Y13, Y14, Y15, Y16, Y17, Y18, Y19, Y1a, Y1b, Y1c, Y1d, Y1e, Y1f, Y1g, Y1h, Y1i, Y1j, Y1k, Y1l, AV.cells?, Y1n, Y1o, Y1p, Y1q, Y1r, Y1s, Y1t, Nat.reduceAdd, Nat.reduceMul, Y1w, Y1x, Y1y, Y1z, Y20, Y21, Y22, Y23, Y24, Y25, Y26, Y27, Y28, Y29, Y2a, Y2b, row_get ha2, lenA_LI]
  refine wLoop.four (fun m x1 x2 x9 i H => ∃ (j c : Nat), j + m = (row t.next a').length ∧ x1 = Z a' ∧ x2 = Z b' ∧ t9 = x9 ∧ i = Z j ∧ H = ⟨[z], c⟩ ∧ ∀ p, p < j → parts t (k + 1) a' b' p = false) (row t.next a').length
    (gh4.mk ⟨0, c, by omega, rfl, rfl, rfl, rfl, rfl, by simp⟩) ?_
  rintro m x1 x2 x9 i H ⟨j, c, hjm, rfl, rfl, rfl, rfl, rfl, hpre⟩
  by_cases hj : j < (row t.next a').length
  case neg =>
    exfalso
    obtain ⟨i, hi, hp⟩ := (parts_iff hg ha2 hb2 hsame).2 hf1
    have := hpre i (by omega)
    rw [hp] at this; cases this
  simp only [Y0, Y1, Y2, Y3, Y4, Y5, Y6, Y7, Y8, Y9, Ya, Yb, Yc, Yd, Ye, Yf, Yg, Yh, Yi, Yj, Yk, Yl, Ym, Yn, Yo, Yp, Yq, Yr, Ys, Yt, Yu, Yv, Yw, Yx, Yy, Yz, Y10, Y11, Y12, Y13, Y14, Y15, Y16, Y17, Y18, Y19, Y1a, Y1b, Y1c, Y1d, Y1e, Y1f, Y1g, Y1h, Y1i, Y1j, Y1k, Y1l, AV.cells?, Y1n, Y1o, Y1p, Y1q, Y1r, Y1s, Y1t, Nat.reduceAdd, Nat.reduceMul, Y1w, Y1x, Y1y, Y1z, Y20, Y21, Y22, Y23, Y24, Y25, Y26, Y27, Y28, Y29, Y2a, Y2b, decide_eq_true (show (j : Int) < ((row t.next a').length : Int) by omega)]
  rw [iaddr_LLI ha2]
  simp only [Y0, Y1, Y2, Y3, Y4, Y5, Y6, Y7, Y8, Y9, Ya, Yb, Yc, Yd, Ye, Yf, Yg, Yh, Yi, Yj, Yk, Yl, Ym, Yn, Yo, Yp, Yq, Yr, Ys, Yt, Yu, Yv, Yw, Yx, Yy, Yz, Y10, Y11, Y12, Y13, Y14, Y15, Y16, Y17, Y18, Y19, Y1a, Y1b, Y1c, Y1d, Y1e, Y1f, Y1g, Y1h, Y1i, Y1j, Y1k, Y1l, AV.cells?, Y1n, Y1o, Y1p, Y1q, Y1r, Y1s, Y1t, Nat.reduceAdd, Nat.reduceMul, Y1w, Y1x, Y1y, Y1z, Y20, Y21, Y22, Y23, Y24, Y25, Y26, Y27, Y28, Y29, Y2a, Y2b, row_get ha2]
  rw [iaddr_LI hj]
  simp only [Y0, Y1, Y2, Y3, Y4, Y5, Y6, Y7, Y8, Y9, Ya, Yb, Yc, Yd, Ye, Yf, Yg, Yh, Yi, Yj, Yk, Yl, Ym, Yn, Yo, Yp, Yq, Yr, Ys, Yt, Yu, Yv, Yw, Yx, Yy, Yz, Y10, Y11, Y12, Y13, Y14, Y15, Y16, Y17, Y18, Y19, Y1a, Y1b, Y1c, Y1d, Y1e, Y1f, Y1g, Y1h, Y1i, Y1j, Y1k, Y1l, AV.cells?, Y1n, Y1o, Y1p, Y1q, Y1r, Y1s, Y1t, Nat.reduceAdd, Nat.reduceMul, Y1w, Y1x, Y1y, Y1z, Y20, Y21, Y22, Y23, Y24, Y25, Y26, Y27, Y28, Y29, Y2a, Y2b, cell_at hj]
  rw [iaddr_LLI hb2]
  simp only [Y0, Y1, Y2, Y3, Y4, Y5, Y6, Y7, Y8, Y9, Ya, Yb, Yc, Yd, Ye, Yf, Yg, Yh, Yi, Yj, Yk, Yl, Ym, Yn, Yo, Yp, Yq, Yr, Ys, Yt, Yu, Yv, Yw, Yx, Yy, Yz, Y10, Y11, Y12, Y13, Y14, Y15, Y16, Y17, Y18, Y19, Y1a, Y1b, Y1c, Y1d, Y1e, Y1f, Y1g, Y1h, Y1i, Y1j, Y1k, Y1l, AV.cells?, Y1n, Y1o, Y1p, Y1q, Y1r, Y1s, Y1t, Nat.reduceAdd, Nat.reduceMul, Y1w, Y1x, Y1y, Y1z, Y20, Y21, Y22, Y23, Y24, Y25, Y26, Y27, Y28, Y29, Y2a, Y2b, row_get hb2]
  have hjb : j < (row t.next b').length := by omega
  rw [iaddr_LI hjb]
  simp only [Y0, Y1, Y2, Y3, Y4, Y5, Y6, Y7, Y8, Y9, Ya, Yb, Yc, Yd, Ye, Yf, Yg, Yh, Yi, Yj, Yk, Yl, Ym, Yn, Yo, Yp, Yq, Yr, Ys, Yt, Yu, Yv, Yw, Yx, Yy, Yz, Y10, Y11, Y12, Y13, Y14, Y15, Y16, Y17, Y18, Y19, Y1a, Y1b, Y1c, Y1d, Y1e, Y1f, Y1g, Y1h, Y1i, Y1j, Y1k, Y1l, AV.cells?, Y1n, Y1o, Y1p, Y1q, Y1r, Y1s, Y1t, Nat.reduceAdd, Nat.reduceMul, Y1w, Y1x, Y1y, Y1z, Y20, Y21, Y22, Y23, Y24, Y25, Y26, Y27, Y28, Y29, Y2a, Y2b, cell_at hjb, and_self, true_and]
  have hxa := hg.next_in ha2 (i := j) (by omega)
  have hxb := hg.next_in hb2 (i := j) (by omega)
  have hpr := pr_parts hg ha2 hb2 (i := j) (d := k) (by omega) hsame
  obtain ⟨x, hx⟩ : ∃ x : Nat, cell (row t.next a') j = x := ⟨(cell (row t.next a') j).toNat, by omega⟩
  obtain ⟨y, hy⟩ : ∃ y : Nat, cell (row t.next b') j = y := ⟨(cell (row t.next b') j).toNat, by omega⟩
  have hxN : x < N := by omega
  have hyN : y < N := by omega
  rw [hx, hy]
  have hit : parts t (k + 1) a' b' j = true → (0 < k → mk t (finK t) x y = k) → wNewS 1 1 (fillA (List.replicate 1 [(AV.val (.int .i64 0))]).flatten [(0, 1, Z j)]) ⟨[z], c⟩ fun t99 H =>
      wApp 1 8 t9 t99 H fun t100 H => gh3 (fun t1 t2 t9 H => ∃ (a' b' : Nat) (z : Blk) (out : List Int) (c : Nat), t1 = Z a' ∧ t2 = Z b' ∧ H = ⟨[z], c⟩ ∧ a' < N ∧ b' < N ∧ Gr 1 z 0 t9 (out.map fun z => Z z) out.length ∧ out.length + k ≤ finK t ∧ (0 < k → mk t (finK t) a' b' = k) ∧ partFrom t k a' b' out = partFrom t (pk t a b) a b []) (Z x) (Z y) t100 H := by
    intro hp hm
    refine wNewS.F' (l := [Z j]) rfl rfl ?_
    refine wApp.one (bytes := 8) h9 rfl (by simp) (.refl _) rfl (by simp [mostBytes]; omega) fun z' x' c' hg' => ?_
    simp only [Y0, Y1, Y2, Y3, Y4, Y5, Y6, Y7, Y8, Y9, Ya, Yb, Yc, Yd, Ye, Yf, Yg, Yh, Yi, Yj, Yk, Yl, Ym, Yn, Yo, Yp, Yq, Yr, Ys, Yt, Yu, Yv, Yw, Yx, Yy, Yz, Y10, Y11, Y12, Y13, Y14, Y15, Y16, Y17, Y18, Y19, Y1a, Y1b, Y1c, Y1d, Y1e, Y1f, Y1g, Y1h, Y1i, Y1j, Y1k, Y1l, AV.cells?, Y1n, Y1o, Y1p, Y1q, Y1r, Y1s, Y1t, Nat.reduceAdd, Nat.reduceMul, Y1w, Y1x, Y1y, Y1z, Y20, Y21, Y22, Y23, Y24, Y25, Y26, Y27, Y28, Y29, Y2a, Y2b]
    refine gh3.mk ⟨x, y, z', out ++ [(j : Int)], c', rfl, rfl, rfl, hxN, hyN, by simpa using hg', by simp; omega, hm, ?_⟩
    rw [← hpf]
    simp only [partFrom, find_range hj hp hpre, hx, hy, Int.toNat_natCast]
  have hmiss : parts t (k + 1) a' b' j = false → back4 (fun m x1 x2 x9 i H => ∃ (j c : Nat), j + m = (row t.next a').length ∧ x1 = Z a' ∧ x2 = Z b' ∧ t9 = x9 ∧ i = Z j ∧ H = ⟨[z], c⟩ ∧ ∀ p, p < j → parts t (k + 1) a' b' p = false) m (Z a') (Z b') t9 (Z ((j + 1 : Nat) : Int)) ⟨[z], c⟩ := by
    intro hp
    refine back4.mk (m - 1) (by omega) ⟨j + 1, c, by omega, rfl, rfl, rfl, rfl, rfl, fun p hpj => ?_⟩
    by_cases e : p < j
    · exact hpre p e
    · have : p = j := by omega
      subst this; exact hp
  cases k with
  | zero =>
    have hta : a' < t.tells.length := by omega
    have htb : b' < t.tells.length := by omega
    simp only [Y0, Y1, Y2, Y3, Y4, Y5, Y6, Y7, Y8, Y9, Ya, Yb, Yc, Yd, Ye, Yf, Yg, Yh, Yi, Yj, Yk, Yl, Ym, Yn, Yo, Yp, Yq, Yr, Ys, Yt, Yu, Yv, Yw, Yx, Yy, Yz, Y10, Y11, Y12, Y13, Y14, Y15, Y16, Y17, Y18, Y19, Y1a, Y1b, Y1c, Y1d, Y1e, Y1f, Y1g, Y1h, Y1i, Y1j, Y1k, Y1l, AV.cells?, Y1n, Y1o, Y1p, Y1q, Y1r, Y1s, Y1t, Nat.reduceAdd, Nat.reduceMul, Y1w, Y1x, Y1y, Y1z, Y20, Y21, Y22, Y23, Y24, Y25, Y26, Y27, Y28, Y29, Y2a, Y2b, show decide (((0 + 1 : Nat) : Int) = 1) = true from rfl]
    rw [iaddr_LLI hta]
    simp only [Y0, Y1, Y2, Y3, Y4, Y5, Y6, Y7, Y8, Y9, Ya, Yb, Yc, Yd, Ye, Yf, Yg, Yh, Yi, Yj, Yk, Yl, Ym, Yn, Yo, Yp, Yq, Yr, Ys, Yt, Yu, Yv, Yw, Yx, Yy, Yz, Y10, Y11, Y12, Y13, Y14, Y15, Y16, Y17, Y18, Y19, Y1a, Y1b, Y1c, Y1d, Y1e, Y1f, Y1g, Y1h, Y1i, Y1j, Y1k, Y1l, AV.cells?, Y1n, Y1o, Y1p, Y1q, Y1r, Y1s, Y1t, Nat.reduceAdd, Nat.reduceMul, Y1w, Y1x, Y1y, Y1z, Y20, Y21, Y22, Y23, Y24, Y25, Y26, Y27, Y28, Y29, Y2a, Y2b, row_get hta]
    rw [iaddr_LI (show j < (row t.tells a').length by omega)]
    simp only [Y0, Y1, Y2, Y3, Y4, Y5, Y6, Y7, Y8, Y9, Ya, Yb, Yc, Yd, Ye, Yf, Yg, Yh, Yi, Yj, Yk, Yl, Ym, Yn, Yo, Yp, Yq, Yr, Ys, Yt, Yu, Yv, Yw, Yx, Yy, Yz, Y10, Y11, Y12, Y13, Y14, Y15, Y16, Y17, Y18, Y19, Y1a, Y1b, Y1c, Y1d, Y1e, Y1f, Y1g, Y1h, Y1i, Y1j, Y1k, Y1l, AV.cells?, Y1n, Y1o, Y1p, Y1q, Y1r, Y1s, Y1t, Nat.reduceAdd, Nat.reduceMul, Y1w, Y1x, Y1y, Y1z, Y20, Y21, Y22, Y23, Y24, Y25, Y26, Y27, Y28, Y29, Y2a, Y2b, cell_at (show j < (row t.tells a').length by omega)]
    rw [iaddr_LLI htb]
    simp only [Y0, Y1, Y2, Y3, Y4, Y5, Y6, Y7, Y8, Y9, Ya, Yb, Yc, Yd, Ye, Yf, Yg, Yh, Yi, Yj, Yk, Yl, Ym, Yn, Yo, Yp, Yq, Yr, Ys, Yt, Yu, Yv, Yw, Yx, Yy, Yz, Y10, Y11, Y12, Y13, Y14, Y15, Y16, Y17, Y18, Y19, Y1a, Y1b, Y1c, Y1d, Y1e, Y1f, Y1g, Y1h, Y1i, Y1j, Y1k, Y1l, AV.cells?, Y1n, Y1o, Y1p, Y1q, Y1r, Y1s, Y1t, Nat.reduceAdd, Nat.reduceMul, Y1w, Y1x, Y1y, Y1z, Y20, Y21, Y22, Y23, Y24, Y25, Y26, Y27, Y28, Y29, Y2a, Y2b, row_get htb]
    rw [iaddr_LI (show j < (row t.tells b').length by omega)]
    simp only [Y0, Y1, Y2, Y3, Y4, Y5, Y6, Y7, Y8, Y9, Ya, Yb, Yc, Yd, Ye, Yf, Yg, Yh, Yi, Yj, Yk, Yl, Ym, Yn, Yo, Yp, Yq, Yr, Ys, Yt, Yu, Yv, Yw, Yx, Yy, Yz, Y10, Y11, Y12, Y13, Y14, Y15, Y16, Y17, Y18, Y19, Y1a, Y1b, Y1c, Y1d, Y1e, Y1f, Y1g, Y1h, Y1i, Y1j, Y1k, Y1l, AV.cells?, Y1n, Y1o, Y1p, Y1q, Y1r, Y1s, Y1t, Nat.reduceAdd, Nat.reduceMul, Y1w, Y1x, Y1y, Y1z, Y20, Y21, Y22, Y23, Y24, Y25, Y26, Y27, Y28, Y29, Y2a, Y2b, cell_at (show j < (row t.tells b').length by omega)]
    by_cases hne : cell (row t.tells a') j = cell (row t.tells b') j
    · simp only [Y0, Y1, Y2, Y3, Y4, Y5, Y6, Y7, Y8, Y9, Ya, Yb, Yc, Yd, Ye, Yf, Yg, Yh, Yi, Yj, Yk, Yl, Ym, Yn, Yo, Yp, Yq, Yr, Ys, Yt, Yu, Yv, Yw, Yx, Yy, Yz, Y10, Y11, Y12, Y13, Y14, Y15, Y16, Y17, Y18, Y19, Y1a, Y1b, Y1c, Y1d, Y1e, Y1f, Y1g, Y1h, Y1i, Y1j, Y1k, Y1l, AV.cells?, Y1n, Y1o, Y1p, Y1q, Y1r, Y1s, Y1t, Nat.reduceAdd, Nat.reduceMul, Y1w, Y1x, Y1y, Y1z, Y20, Y21, Y22, Y23, Y24, Y25, Y26, Y27, Y28, Y29, Y2a, Y2b, decide_eq_true hne, show decide ((1 : Int) < ((0 + 1 : Nat) : Int)) = false from rfl]
      rw [binA_succ (by omega)]
      simp only [Y0, Y1, Y2, Y3, Y4, Y5, Y6, Y7, Y8, Y9, Ya, Yb, Yc, Yd, Ye, Yf, Yg, Yh, Yi, Yj, Yk, Yl, Ym, Yn, Yo, Yp, Yq, Yr, Ys, Yt, Yu, Yv, Yw, Yx, Yy, Yz, Y10, Y11, Y12, Y13, Y14, Y15, Y16, Y17, Y18, Y19, Y1a, Y1b, Y1c, Y1d, Y1e, Y1f, Y1g, Y1h, Y1i, Y1j, Y1k, Y1l, AV.cells?, Y1n, Y1o, Y1p, Y1q, Y1r, Y1s, Y1t, Nat.reduceAdd, Nat.reduceMul, Y1w, Y1x, Y1y, Y1z, Y20, Y21, Y22, Y23, Y24, Y25, Y26, Y27, Y28, Y29, Y2a, Y2b]
      exact hmiss (by simp [parts, hne])
    · simp only [Y0, Y1, Y2, Y3, Y4, Y5, Y6, Y7, Y8, Y9, Ya, Yb, Yc, Yd, Ye, Yf, Yg, Yh, Yi, Yj, Yk, Yl, Ym, Yn, Yo, Yp, Yq, Yr, Ys, Yt, Yu, Yv, Yw, Yx, Yy, Yz, Y10, Y11, Y12, Y13, Y14, Y15, Y16, Y17, Y18, Y19, Y1a, Y1b, Y1c, Y1d, Y1e, Y1f, Y1g, Y1h, Y1i, Y1j, Y1k, Y1l, AV.cells?, Y1n, Y1o, Y1p, Y1q, Y1r, Y1s, Y1t, Nat.reduceAdd, Nat.reduceMul, Y1w, Y1x, Y1y, Y1z, Y20, Y21, Y22, Y23, Y24, Y25, Y26, Y27, Y28, Y29, Y2a, Y2b, decide_eq_false hne]
      exact hit (by simp [parts, hne]) (fun h => absurd h (by omega))
  | succ k =>
    simp only [Y0, Y1, Y2, Y3, Y4, Y5, Y6, Y7, Y8, Y9, Ya, Yb, Yc, Yd, Ye, Yf, Yg, Yh, Yi, Yj, Yk, Yl, Ym, Yn, Yo, Yp, Yq, Yr, Ys, Yt, Yu, Yv, Yw, Yx, Yy, Yz, Y10, Y11, Y12, Y13, Y14, Y15, Y16, Y17, Y18, Y19, Y1a, Y1b, Y1c, Y1d, Y1e, Y1f, Y1g, Y1h, Y1i, Y1j, Y1k, Y1l, AV.cells?, Y1n, Y1o, Y1p, Y1q, Y1r, Y1s, Y1t, Nat.reduceAdd, Nat.reduceMul, Y1w, Y1x, Y1y, Y1z, Y20, Y21, Y22, Y23, Y24, Y25, Y26, Y27, Y28, Y29, Y2a, Y2b, decide_eq_false (show ¬ (((k + 1 + 1 : Nat) : Int) = 1) by omega), decide_eq_true (show ((1 : Int) < ((k + 1 + 1 : Nat) : Int)) by omega)]
    rw [iaddr_LLI (hrow x hxN)]
    simp only [Y0, Y1, Y2, Y3, Y4, Y5, Y6, Y7, Y8, Y9, Ya, Yb, Yc, Yd, Ye, Yf, Yg, Yh, Yi, Yj, Yk, Yl, Ym, Yn, Yo, Yp, Yq, Yr, Ys, Yt, Yu, Yv, Yw, Yx, Yy, Yz, Y10, Y11, Y12, Y13, Y14, Y15, Y16, Y17, Y18, Y19, Y1a, Y1b, Y1c, Y1d, Y1e, Y1f, Y1g, Y1h, Y1i, Y1j, Y1k, Y1l, AV.cells?, Y1n, Y1o, Y1p, Y1q, Y1r, Y1s, Y1t, Nat.reduceAdd, Nat.reduceMul, Y1w, Y1x, Y1y, Y1z, Y20, Y21, Y22, Y23, Y24, Y25, Y26, Y27, Y28, Y29, Y2a, Y2b, row_get (hrow x hxN)]
    rw [iaddr_LI (hcel x y hxN hyN)]
    simp only [Y0, Y1, Y2, Y3, Y4, Y5, Y6, Y7, Y8, Y9, Ya, Yb, Yc, Yd, Ye, Yf, Yg, Yh, Yi, Yj, Yk, Yl, Ym, Yn, Yo, Yp, Yq, Yr, Ys, Yt, Yu, Yv, Yw, Yx, Yy, Yz, Y10, Y11, Y12, Y13, Y14, Y15, Y16, Y17, Y18, Y19, Y1a, Y1b, Y1c, Y1d, Y1e, Y1f, Y1g, Y1h, Y1i, Y1j, Y1k, Y1l, AV.cells?, Y1n, Y1o, Y1p, Y1q, Y1r, Y1s, Y1t, Nat.reduceAdd, Nat.reduceMul, Y1w, Y1x, Y1y, Y1z, Y20, Y21, Y22, Y23, Y24, Y25, Y26, Y27, Y28, Y29, Y2a, Y2b, cell_at (hcel x y hxN hyN)]
    rw [sqL_cell hxN hyN, binA_sub (by omega)]
    simp only [Y0, Y1, Y2, Y3, Y4, Y5, Y6, Y7, Y8, Y9, Ya, Yb, Yc, Yd, Ye, Yf, Yg, Yh, Yi, Yj, Yk, Yl, Ym, Yn, Yo, Yp, Yq, Yr, Ys, Yt, Yu, Yv, Yw, Yx, Yy, Yz, Y10, Y11, Y12, Y13, Y14, Y15, Y16, Y17, Y18, Y19, Y1a, Y1b, Y1c, Y1d, Y1e, Y1f, Y1g, Y1h, Y1i, Y1j, Y1k, Y1l, AV.cells?, Y1n, Y1o, Y1p, Y1q, Y1r, Y1s, Y1t, Nat.reduceAdd, Nat.reduceMul, Y1w, Y1x, Y1y, Y1z, Y20, Y21, Y22, Y23, Y24, Y25, Y26, Y27, Y28, Y29, Y2a, Y2b, show (((k + 1 + 1 : Nat) : Int) - 1) = ((k + 1 : Nat) : Int) by omega]
    have hsm : mk t (finK t) x y = k + 1 ↔ mk t (k + 1) x y = k + 1 := mk_same (by omega) (Nat.le_refl _) (by omega)
    have hpr2 : parts t (k + 1 + 1) a' b' j = decide (mk t (finK t) x y = k + 1) := by
      rw [← hpr]
      simp [pr, hx, hy, hsm]
    by_cases hm : mk t (finK t) x y = k + 1
    · simp only [Y0, Y1, Y2, Y3, Y4, Y5, Y6, Y7, Y8, Y9, Ya, Yb, Yc, Yd, Ye, Yf, Yg, Yh, Yi, Yj, Yk, Yl, Ym, Yn, Yo, Yp, Yq, Yr, Ys, Yt, Yu, Yv, Yw, Yx, Yy, Yz, Y10, Y11, Y12, Y13, Y14, Y15, Y16, Y17, Y18, Y19, Y1a, Y1b, Y1c, Y1d, Y1e, Y1f, Y1g, Y1h, Y1i, Y1j, Y1k, Y1l, AV.cells?, Y1n, Y1o, Y1p, Y1q, Y1r, Y1s, Y1t, Nat.reduceAdd, Nat.reduceMul, Y1w, Y1x, Y1y, Y1z, Y20, Y21, Y22, Y23, Y24, Y25, Y26, Y27, Y28, Y29, Y2a, Y2b, decide_eq_true (show ((mk t (finK t) x y : Nat) : Int) = ((k + 1 : Nat) : Int) by omega)]
      exact hit (by rw [hpr2, decide_eq_true hm]) (fun _ => hm)
    · simp only [Y0, Y1, Y2, Y3, Y4, Y5, Y6, Y7, Y8, Y9, Ya, Yb, Yc, Yd, Ye, Yf, Yg, Yh, Yi, Yj, Yk, Yl, Ym, Yn, Yo, Yp, Yq, Yr, Ys, Yt, Yu, Yv, Yw, Yx, Yy, Yz, Y10, Y11, Y12, Y13, Y14, Y15, Y16, Y17, Y18, Y19, Y1a, Y1b, Y1c, Y1d, Y1e, Y1f, Y1g, Y1h, Y1i, Y1j, Y1k, Y1l, AV.cells?, Y1n, Y1o, Y1p, Y1q, Y1r, Y1s, Y1t, Nat.reduceAdd, Nat.reduceMul, Y1w, Y1x, Y1y, Y1z, Y20, Y21, Y22, Y23, Y24, Y25, Y26, Y27, Y28, Y29, Y2a, Y2b, decide_eq_false (show ¬ ((mk t (finK t) x y : Nat) : Int) = ((k + 1 : Nat) : Int) by omega)]
      rw [binA_succ (by omega)]
      simp only [Y0, Y1, Y2, Y3, Y4, Y5, Y6, Y7, Y8, Y9, Ya, Yb, Yc, Yd, Ye, Yf, Yg, Yh, Yi, Yj, Yk, Yl, Ym, Yn, Yo, Yp, Yq, Yr, Ys, Yt, Yu, Yv, Yw, Yx, Yy, Yz, Y10, Y11, Y12, Y13, Y14, Y15, Y16, Y17, Y18, Y19, Y1a, Y1b, Y1c, Y1d, Y1e, Y1f, Y1g, Y1h, Y1i, Y1j, Y1k, Y1l, AV.cells?, Y1n, Y1o, Y1p, Y1q, Y1r, Y1s, Y1t, Nat.reduceAdd, Nat.reduceMul, Y1w, Y1x, Y1y, Y1z, Y20, Y21, Y22, Y23, Y24, Y25, Y26, Y27, Y28, Y29, Y2a, Y2b]
      exact hmiss (by rw [hpr2, decide_eq_false hm])
end
end Go.Sc
