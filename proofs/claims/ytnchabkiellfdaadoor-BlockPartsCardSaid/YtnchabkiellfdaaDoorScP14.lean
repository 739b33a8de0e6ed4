/-
  CONTRACTS: the reference's tables: Blocks, Least; the law's helpers.
-/
import Derived.Test.YtnchabkiellfdaaDoorScP13
namespace Go.Sc
open Go
set_option linter.unusedSimpArgs false
set_option linter.unusedVariables false

section
variable {E : Env} {P : Program}
theorem sqL_len (N : Nat) (M : Nat → Nat → Nat) : (sqL N M).length = N := by simp [sqL]
theorem sqL_row {N r : Nat} {M : Nat → Nat → Nat} (h : r < N) : row (sqL N M) r = (List.range N).map fun b => ((M r b : Nat) : Int) := by simp [row, sqL, h]
theorem sqL_cell {N r s : Nat} {M : Nat → Nat → Nat} (h : r < N) (hs : s < N) : cell (row (sqL N M) r) s = ((M r s : Nat) : Int) := by rw [sqL_row h]; simp [cell, hs]
theorem mapZ_take {l : List Int} {s : Nat} (h : s < l.length) : (l.map fun z => Z z).take (s + 1) = (l.map fun z => Z z).take s ++ [Z (cell l s)] := by
  have h' : s < (l.map fun z => Z z).length := by simpa using h
  rw [List.take_succ_eq_append_getElem h']
  congr 1
  simp [cell, h]
structure ApartBodies (E : Env) (P : Program) : Prop where
  apart : Body1 E P 85 F.ref_Table_apart
  blocks : Body1 E P 79 F.ref_Table_Blocks
theorem rBlocks_spec (B : ApartBodies E P) (t : Table) (hg : Good t) : FX E P 79 [Tb t] (LI (Bl t)) := by
  refine FX.of (by simp [AV.closedL, Tb_closed]) (LI_closed _) fun n R hR => B.blocks _ _ _ ?_
  have g1 := hg.pos; have g2 := hg.few; have g3 := hg.wide; have g4 := hg.tells
  have hbl : (Bl t).length = t.next.length := iter_len t _
  have hcan : Canon (Bl t) := iter_canon _
  unfold F.ref_Table_Blocks
  simp only [Tb]
  refine wNew.F' (l := [LLI t.next, LLI t.tells]) rfl ?_
  simp only [Y0, Y1, Y2, Y3, Y4, Y5, Y6, Y7, Y8, Y9, Ya, Yb, Yc, Yd, Ye, Yf, Yg, Yh, Yi, Yj, Yk, Yl, Ym, Yn, Yo, Yp, Yq, Yr, Ys, Yt, Yu, Yv, Yw, Yx, Yy, Yz, Y10, Y11, Y12, Y13, Y14, Y15, Y16, Y17, Y18, Y19, Y1a, Y1b, Y1c, Y1d, Y1e, Y1f, Y1g, Y1h, Y1i, Y1j, Y1k, Y1l, AV.cells?, Y1n, Y1o, Y1p, Y1q, Y1r, Y1s, Y1t, Nat.reduceAdd, Nat.reduceMul, Y1w, Y1x, Y1y, Y1z, Y20, Y21, Y22, Y23, Y24, Y25, Y26, Y27, Y28, Y29, Y2a, Y2b]
  refine wCall.fx (apart_spec B.apart t hg) fun n1 => ?_
  simp only [Y0, Y1, Y2, Y3, Y4, Y5, Y6, Y7, Y8, Y9, Ya, Yb, Yc, Yd, Ye, Yf, Yg, Yh, Yi, Yj, Yk, Yl, Ym, Yn, Yo, Yp, Yq, Yr, Ys, Yt, Yu, Yv, Yw, Yx, Yy, Yz, Y10, Y11, Y12, Y13, Y14, Y15, Y16, Y17, Y18, Y19, Y1a, Y1b, Y1c, Y1d, Y1e, Y1f, Y1g, Y1h, Y1i, Y1j, Y1k, Y1l, AV.cells?, Y1n, Y1o, Y1p, Y1q, Y1r, Y1s, Y1t, Nat.reduceAdd, Nat.reduceMul, Y1w, Y1x, Y1y, Y1z, Y20, Y21, Y22, Y23, Y24, Y25, Y26, Y27, Y28, Y29, Y2a, Y2b, lenA_LLI]
  have hap : ∀ r s, r < t.next.length → s < t.next.length → (mk t (finK t) r s = 0 ↔ cell (Bl t) r = cell (Bl t) s) := fun r s hr hs => mk_zero hr hs _
  generalize hN : t.next.length = N at *
  generalize hL : Bl t = l at *
  refine wLoop.three (fun m t4 t5 t14 H => ∃ (s : Nat) (z : Blk) (c : Nat), s + m = N ∧ t14 = Z s ∧ t5 = Z (repsTo l s).length ∧ H = ⟨[z], c⟩ ∧ Gr 1 z 0 t4 ((l.map fun z => Z z).take s) s) N
    (gh3.of (ghost_room [.dead] (by simp)) ⟨0, .dead, _, by omega, rfl, rfl, rfl, .nil⟩) ?_
  rintro m t4 t5 t14 H ⟨s, z, c, hsm, rfl, rfl, rfl, h4⟩
  by_cases hs : s < N
  case neg =>
    have : s = N := by omega
    subst this
    simp only [Y0, Y1, Y2, Y3, Y4, Y5, Y6, Y7, Y8, Y9, Ya, Yb, Yc, Yd, Ye, Yf, Yg, Yh, Yi, Yj, Yk, Yl, Ym, Yn, Yo, Yp, Yq, Yr, Ys, Yt, Yu, Yv, Yw, Yx, Yy, Yz, Y10, Y11, Y12, Y13, Y14, Y15, Y16, Y17, Y18, Y19, Y1a, Y1b, Y1c, Y1d, Y1e, Y1f, Y1g, Y1h, Y1i, Y1j, Y1k, Y1l, AV.cells?, Y1n, Y1o, Y1p, Y1q, Y1r, Y1s, Y1t, Nat.reduceAdd, Nat.reduceMul, Y1w, Y1x, Y1y, Y1z, Y20, Y21, Y22, Y23, Y24, Y25, Y26, Y27, Y28, Y29, Y2a, Y2b, Int.lt_irrefl]
    refine hR _ _ (.sub ?_)
    have := h4.sub
    rw [List.take_of_length_le (by simp; omega)] at this
    unfold LI Lm
    rw [hbl]
    exact this
  simp only [Y0, Y1, Y2, Y3, Y4, Y5, Y6, Y7, Y8, Y9, Ya, Yb, Yc, Yd, Ye, Yf, Yg, Yh, Yi, Yj, Yk, Yl, Ym, Yn, Yo, Yp, Yq, Yr, Ys, Yt, Yu, Yv, Yw, Yx, Yy, Yz, Y10, Y11, Y12, Y13, Y14, Y15, Y16, Y17, Y18, Y19, Y1a, Y1b, Y1c, Y1d, Y1e, Y1f, Y1g, Y1h, Y1i, Y1j, Y1k, Y1l, AV.cells?, Y1n, Y1o, Y1p, Y1q, Y1r, Y1s, Y1t, Nat.reduceAdd, Nat.reduceMul, Y1w, Y1x, Y1y, Y1z, Y20, Y21, Y22, Y23, Y24, Y25, Y26, Y27, Y28, Y29, Y2a, Y2b, decide_eq_true (show (s : Int) < (N : Int) by omega)]
  refine wLoop.two (fun m k r H => ∃ (j : Nat), j + m = s ∧ r = Z j ∧ H = ⟨[z], c⟩ ∧ ((k = Z (-1) ∧ ∀ r', r' < j → cell l r' ≠ cell l s) ∨ (k = Z (cell l s) ∧ ∃ r', r' < j ∧ cell l r' = cell l s))) s
    (gh2.mk ⟨0, by omega, rfl, rfl, .inl ⟨rfl, by simp⟩⟩) ?_
  rintro m2 k r H ⟨j, hjm, rfl, rfl, hk⟩
  obtain ⟨ks, hks⟩ := hcan.nat s (by omega)
  have hcs : cell l s = ks := by simp [cell, hks]
  by_cases hj : j < s
  case neg =>
    have : j = s := by omega
    subst this
    simp only [Y0, Y1, Y2, Y3, Y4, Y5, Y6, Y7, Y8, Y9, Ya, Yb, Yc, Yd, Ye, Yf, Yg, Yh, Yi, Yj, Yk, Yl, Ym, Yn, Yo, Yp, Yq, Yr, Ys, Yt, Yu, Yv, Yw, Yx, Yy, Yz, Y10, Y11, Y12, Y13, Y14, Y15, Y16, Y17, Y18, Y19, Y1a, Y1b, Y1c, Y1d, Y1e, Y1f, Y1g, Y1h, Y1i, Y1j, Y1k, Y1l, AV.cells?, Y1n, Y1o, Y1p, Y1q, Y1r, Y1s, Y1t, Nat.reduceAdd, Nat.reduceMul, Y1w, Y1x, Y1y, Y1z, Y20, Y21, Y22, Y23, Y24, Y25, Y26, Y27, Y28, Y29, Y2a, Y2b, Int.lt_irrefl]
    refine wJoin.two (fun a b H => a = Z (repsTo l (j + 1)).length ∧ b = Z (cell l j) ∧ H = ⟨[z], c⟩) ?_ ?_
    case refine_2 =>
      rintro a b H ⟨rfl, rfl, rfl⟩
      refine wNewS.F' (l := [Z (cell l j)]) rfl rfl ?_
      refine wApp.one (bytes := 8) h4 rfl (by simp; omega) (.refl _) rfl (by simp [mostBytes]; omega) fun z' x' c' hg' => ?_
      simp only [Y0, Y1, Y2, Y3, Y4, Y5, Y6, Y7, Y8, Y9, Ya, Yb, Yc, Yd, Ye, Yf, Yg, Yh, Yi, Yj, Yk, Yl, Ym, Yn, Yo, Yp, Yq, Yr, Ys, Yt, Yu, Yv, Yw, Yx, Yy, Yz, Y10, Y11, Y12, Y13, Y14, Y15, Y16, Y17, Y18, Y19, Y1a, Y1b, Y1c, Y1d, Y1e, Y1f, Y1g, Y1h, Y1i, Y1j, Y1k, Y1l, AV.cells?, Y1n, Y1o, Y1p, Y1q, Y1r, Y1s, Y1t, Nat.reduceAdd, Nat.reduceMul, Y1w, Y1x, Y1y, Y1z, Y20, Y21, Y22, Y23, Y24, Y25, Y26, Y27, Y28, Y29, Y2a, Y2b]
      rw [binA_succ (by omega)]
      simp only [Y0, Y1, Y2, Y3, Y4, Y5, Y6, Y7, Y8, Y9, Ya, Yb, Yc, Yd, Ye, Yf, Yg, Yh, Yi, Yj, Yk, Yl, Ym, Yn, Yo, Yp, Yq, Yr, Ys, Yt, Yu, Yv, Yw, Yx, Yy, Yz, Y10, Y11, Y12, Y13, Y14, Y15, Y16, Y17, Y18, Y19, Y1a, Y1b, Y1c, Y1d, Y1e, Y1f, Y1g, Y1h, Y1i, Y1j, Y1k, Y1l, AV.cells?, Y1n, Y1o, Y1p, Y1q, Y1r, Y1s, Y1t, Nat.reduceAdd, Nat.reduceMul, Y1w, Y1x, Y1y, Y1z, Y20, Y21, Y22, Y23, Y24, Y25, Y26, Y27, Y28, Y29, Y2a, Y2b]
      exact back3.mk (m - 1) (by omega) ⟨j + 1, z', c', by omega, rfl, rfl, rfl, by rw [mapZ_take (by omega)]; exact hg'⟩
    rcases hk with ⟨rfl, hk⟩ | ⟨rfl, r', hr', he⟩
    · simp only [Y0, Y1, Y2, Y3, Y4, Y5, Y6, Y7, Y8, Y9, Ya, Yb, Yc, Yd, Ye, Yf, Yg, Yh, Yi, Yj, Yk, Yl, Ym, Yn, Yo, Yp, Yq, Yr, Ys, Yt, Yu, Yv, Yw, Yx, Yy, Yz, Y10, Y11, Y12, Y13, Y14, Y15, Y16, Y17, Y18, Y19, Y1a, Y1b, Y1c, Y1d, Y1e, Y1f, Y1g, Y1h, Y1i, Y1j, Y1k, Y1l, AV.cells?, Y1n, Y1o, Y1p, Y1q, Y1r, Y1s, Y1t, Nat.reduceAdd, Nat.reduceMul, Y1w, Y1x, Y1y, Y1z, Y20, Y21, Y22, Y23, Y24, Y25, Y26, Y27, Y28, Y29, Y2a, Y2b, show decide ((-1 : Int) < 0) = true from rfl]
      obtain ⟨h1, h2⟩ := new_number hcan (by omega) hk
      have hrl := repsTo_len l j
      rw [binA_succ (by omega)]
      simp only [Y0, Y1, Y2, Y3, Y4, Y5, Y6, Y7, Y8, Y9, Ya, Yb, Yc, Yd, Ye, Yf, Yg, Yh, Yi, Yj, Yk, Yl, Ym, Yn, Yo, Yp, Yq, Yr, Ys, Yt, Yu, Yv, Yw, Yx, Yy, Yz, Y10, Y11, Y12, Y13, Y14, Y15, Y16, Y17, Y18, Y19, Y1a, Y1b, Y1c, Y1d, Y1e, Y1f, Y1g, Y1h, Y1i, Y1j, Y1k, Y1l, AV.cells?, Y1n, Y1o, Y1p, Y1q, Y1r, Y1s, Y1t, Nat.reduceAdd, Nat.reduceMul, Y1w, Y1x, Y1y, Y1z, Y20, Y21, Y22, Y23, Y24, Y25, Y26, Y27, Y28, Y29, Y2a, Y2b]
      exact gh2.mk ⟨by rw [h2]; simp, by rw [h1], rfl⟩
    · simp only [Y0, Y1, Y2, Y3, Y4, Y5, Y6, Y7, Y8, Y9, Ya, Yb, Yc, Yd, Ye, Yf, Yg, Yh, Yi, Yj, Yk, Yl, Ym, Yn, Yo, Yp, Yq, Yr, Ys, Yt, Yu, Yv, Yw, Yx, Yy, Yz, Y10, Y11, Y12, Y13, Y14, Y15, Y16, Y17, Y18, Y19, Y1a, Y1b, Y1c, Y1d, Y1e, Y1f, Y1g, Y1h, Y1i, Y1j, Y1k, Y1l, AV.cells?, Y1n, Y1o, Y1p, Y1q, Y1r, Y1s, Y1t, Nat.reduceAdd, Nat.reduceMul, Y1w, Y1x, Y1y, Y1z, Y20, Y21, Y22, Y23, Y24, Y25, Y26, Y27, Y28, Y29, Y2a, Y2b, decide_eq_false (show ¬ (cell l j < 0) by omega)]
      exact gh2.mk ⟨by rw [old_number hcan (by omega) hr' he], rfl, rfl⟩
  simp only [Y0, Y1, Y2, Y3, Y4, Y5, Y6, Y7, Y8, Y9, Ya, Yb, Yc, Yd, Ye, Yf, Yg, Yh, Yi, Yj, Yk, Yl, Ym, Yn, Yo, Yp, Yq, Yr, Ys, Yt, Yu, Yv, Yw, Yx, Yy, Yz, Y10, Y11, Y12, Y13, Y14, Y15, Y16, Y17, Y18, Y19, Y1a, Y1b, Y1c, Y1d, Y1e, Y1f, Y1g, Y1h, Y1i, Y1j, Y1k, Y1l, AV.cells?, Y1n, Y1o, Y1p, Y1q, Y1r, Y1s, Y1t, Nat.reduceAdd, Nat.reduceMul, Y1w, Y1x, Y1y, Y1z, Y20, Y21, Y22, Y23, Y24, Y25, Y26, Y27, Y28, Y29, Y2a, Y2b, decide_eq_true (show (j : Int) < (s : Int) by omega)]
  refine wJoin.one (fun k H => H = ⟨[z], c⟩ ∧ ((k = Z (-1) ∧ ∀ r', r' < j + 1 → cell l r' ≠ cell l s) ∨ (k = Z (cell l s) ∧ ∃ r', r' < j + 1 ∧ cell l r' = cell l s))) ?_ ?_
  case refine_2 =>
    rintro k H ⟨rfl, hk⟩
    rw [binA_succ (by omega)]
    simp only [Y0, Y1, Y2, Y3, Y4, Y5, Y6, Y7, Y8, Y9, Ya, Yb, Yc, Yd, Ye, Yf, Yg, Yh, Yi, Yj, Yk, Yl, Ym, Yn, Yo, Yp, Yq, Yr, Ys, Yt, Yu, Yv, Yw, Yx, Yy, Yz, Y10, Y11, Y12, Y13, Y14, Y15, Y16, Y17, Y18, Y19, Y1a, Y1b, Y1c, Y1d, Y1e, Y1f, Y1g, Y1h, Y1i, Y1j, Y1k, Y1l, AV.cells?, Y1n, Y1o, Y1p, Y1q, Y1r, Y1s, Y1t, Nat.reduceAdd, Nat.reduceMul, Y1w, Y1x, Y1y, Y1z, Y20, Y21, Y22, Y23, Y24, Y25, Y26, Y27, Y28, Y29, Y2a, Y2b]
    exact back2.mk (m2 - 1) (by omega) ⟨j + 1, by omega, rfl, rfl, hk⟩
  rcases hk with ⟨rfl, hk⟩ | ⟨rfl, r', hr', he⟩
  · simp only [Y0, Y1, Y2, Y3, Y4, Y5, Y6, Y7, Y8, Y9, Ya, Yb, Yc, Yd, Ye, Yf, Yg, Yh, Yi, Yj, Yk, Yl, Ym, Yn, Yo, Yp, Yq, Yr, Ys, Yt, Yu, Yv, Yw, Yx, Yy, Yz, Y10, Y11, Y12, Y13, Y14, Y15, Y16, Y17, Y18, Y19, Y1a, Y1b, Y1c, Y1d, Y1e, Y1f, Y1g, Y1h, Y1i, Y1j, Y1k, Y1l, AV.cells?, Y1n, Y1o, Y1p, Y1q, Y1r, Y1s, Y1t, Nat.reduceAdd, Nat.reduceMul, Y1w, Y1x, Y1y, Y1z, Y20, Y21, Y22, Y23, Y24, Y25, Y26, Y27, Y28, Y29, Y2a, Y2b, show decide ((-1 : Int) < 0) = true from rfl]
    rw [iaddr_LLI (show j < (sqL N (mk t (finK t))).length by rw [sqL_len]; omega)]
    simp only [Y0, Y1, Y2, Y3, Y4, Y5, Y6, Y7, Y8, Y9, Ya, Yb, Yc, Yd, Ye, Yf, Yg, Yh, Yi, Yj, Yk, Yl, Ym, Yn, Yo, Yp, Yq, Yr, Ys, Yt, Yu, Yv, Yw, Yx, Yy, Yz, Y10, Y11, Y12, Y13, Y14, Y15, Y16, Y17, Y18, Y19, Y1a, Y1b, Y1c, Y1d, Y1e, Y1f, Y1g, Y1h, Y1i, Y1j, Y1k, Y1l, AV.cells?, Y1n, Y1o, Y1p, Y1q, Y1r, Y1s, Y1t, Nat.reduceAdd, Nat.reduceMul, Y1w, Y1x, Y1y, Y1z, Y20, Y21, Y22, Y23, Y24, Y25, Y26, Y27, Y28, Y29, Y2a, Y2b, row_get (show j < (sqL N (mk t (finK t))).length by rw [sqL_len]; omega)]
    have hrl : s < (row (sqL N (mk t (finK t))) j).length := by rw [sqL_row (by omega)]; simpa using hs
    rw [iaddr_LI hrl]
    simp only [Y0, Y1, Y2, Y3, Y4, Y5, Y6, Y7, Y8, Y9, Ya, Yb, Yc, Yd, Ye, Yf, Yg, Yh, Yi, Yj, Yk, Yl, Ym, Yn, Yo, Yp, Yq, Yr, Ys, Yt, Yu, Yv, Yw, Yx, Yy, Yz, Y10, Y11, Y12, Y13, Y14, Y15, Y16, Y17, Y18, Y19, Y1a, Y1b, Y1c, Y1d, Y1e, Y1f, Y1g, Y1h, Y1i, Y1j, Y1k, Y1l, AV.cells?, Y1n, Y1o, Y1p, Y1q, Y1r, Y1s, Y1t, Nat.reduceAdd, Nat.reduceMul, Y1w, Y1x, Y1y, Y1z, Y20, Y21, Y22, Y23, Y24, Y25, Y26, Y27, Y28, Y29, Y2a, Y2b, cell_at hrl]
    rw [sqL_cell (by omega) hs]
    have hjs := hap j s (by omega) hs
    by_cases h0 : mk t (finK t) j s = 0
    · simp only [Y0, Y1, Y2, Y3, Y4, Y5, Y6, Y7, Y8, Y9, Ya, Yb, Yc, Yd, Ye, Yf, Yg, Yh, Yi, Yj, Yk, Yl, Ym, Yn, Yo, Yp, Yq, Yr, Ys, Yt, Yu, Yv, Yw, Yx, Yy, Yz, Y10, Y11, Y12, Y13, Y14, Y15, Y16, Y17, Y18, Y19, Y1a, Y1b, Y1c, Y1d, Y1e, Y1f, Y1g, Y1h, Y1i, Y1j, Y1k, Y1l, AV.cells?, Y1n, Y1o, Y1p, Y1q, Y1r, Y1s, Y1t, Nat.reduceAdd, Nat.reduceMul, Y1w, Y1x, Y1y, Y1z, Y20, Y21, Y22, Y23, Y24, Y25, Y26, Y27, Y28, Y29, Y2a, Y2b, decide_eq_true (show ((mk t (finK t) j s : Nat) : Int) = 0 by omega)]
      rw [h4.at (by omega)]
      have hg2 : ((l.map fun z => Z z).take s)[j]? = some (Z (cell l j)) := by
        rw [List.getElem?_take_of_lt hj]; exact cell_at (by omega)
      simp only [Y0, Y1, Y2, Y3, Y4, Y5, Y6, Y7, Y8, Y9, Ya, Yb, Yc, Yd, Ye, Yf, Yg, Yh, Yi, Yj, Yk, Yl, Ym, Yn, Yo, Yp, Yq, Yr, Ys, Yt, Yu, Yv, Yw, Yx, Yy, Yz, Y10, Y11, Y12, Y13, Y14, Y15, Y16, Y17, Y18, Y19, Y1a, Y1b, Y1c, Y1d, Y1e, Y1f, Y1g, Y1h, Y1i, Y1j, Y1k, Y1l, AV.cells?, Y1n, Y1o, Y1p, Y1q, Y1r, Y1s, Y1t, Nat.reduceAdd, Nat.reduceMul, Y1w, Y1x, Y1y, Y1z, Y20, Y21, Y22, Y23, Y24, Y25, Y26, Y27, Y28, Y29, Y2a, Y2b, hg2]
      exact gh1.mk ⟨rfl, .inr ⟨by rw [hjs.1 h0], j, by omega, hjs.1 h0⟩⟩
    · simp only [Y0, Y1, Y2, Y3, Y4, Y5, Y6, Y7, Y8, Y9, Ya, Yb, Yc, Yd, Ye, Yf, Yg, Yh, Yi, Yj, Yk, Yl, Ym, Yn, Yo, Yp, Yq, Yr, Ys, Yt, Yu, Yv, Yw, Yx, Yy, Yz, Y10, Y11, Y12, Y13, Y14, Y15, Y16, Y17, Y18, Y19, Y1a, Y1b, Y1c, Y1d, Y1e, Y1f, Y1g, Y1h, Y1i, Y1j, Y1k, Y1l, AV.cells?, Y1n, Y1o, Y1p, Y1q, Y1r, Y1s, Y1t, Nat.reduceAdd, Nat.reduceMul, Y1w, Y1x, Y1y, Y1z, Y20, Y21, Y22, Y23, Y24, Y25, Y26, Y27, Y28, Y29, Y2a, Y2b, decide_eq_false (show ¬ ((mk t (finK t) j s : Nat) : Int) = 0 by omega)]
      refine gh1.mk ⟨rfl, .inl ⟨rfl, fun r' hr' => ?_⟩⟩
      by_cases e : r' < j
      · exact hk r' e
      · have : r' = j := by omega
        subst this
        exact fun h => h0 (hjs.2 h)
  · simp only [Y0, Y1, Y2, Y3, Y4, Y5, Y6, Y7, Y8, Y9, Ya, Yb, Yc, Yd, Ye, Yf, Yg, Yh, Yi, Yj, Yk, Yl, Ym, Yn, Yo, Yp, Yq, Yr, Ys, Yt, Yu, Yv, Yw, Yx, Yy, Yz, Y10, Y11, Y12, Y13, Y14, Y15, Y16, Y17, Y18, Y19, Y1a, Y1b, Y1c, Y1d, Y1e, Y1f, Y1g, Y1h, Y1i, Y1j, Y1k, Y1l, AV.cells?, Y1n, Y1o, Y1p, Y1q, Y1r, Y1s, Y1t, Nat.reduceAdd, Nat.reduceMul, Y1w, Y1x, Y1y, Y1z, Y20, Y21, Y22, Y23, Y24, Y25, Y26, Y27, Y28, Y29, Y2a, Y2b, decide_eq_false (show ¬ (cell l s < 0) by omega)]
    exact gh1.mk ⟨rfl, .inr ⟨rfl, r', by omega, he⟩⟩

theorem rep_at {l : List Int} (hl : Canon l) {k s : Nat} (hs : s < l.length) (h : cell l s = (k : Int)) (hf : ∀ r, r < s → cell l r ≠ (k : Int)) : (repsTo l l.length)[k]? = some s := by
  have inv := repInv hl l.length (Nat.le_refl _)
  have hk := inv.lt s hs
  have e := List.getElem?_eq_getElem (show k < (repsTo l l.length).length by omega)
  have h1 := inv.pos k _ e
  have h2 := reps_first hl l.length (Nat.le_refl _) k _ e
  generalize (repsTo l l.length)[k] = s' at *
  rw [e]
  have a1 : ¬ s' < s := fun hlt => hf _ hlt h1.2
  have a2 : ¬ s < s' := fun hlt => h2 _ hlt h
  congr 1; omega
theorem leastTo_take {t : Table} {l : List Int} {k s : Nat} (h : (repsTo l t.next.length)[k]? = some s) :
    (leastT t l).next.take (k + 1) = (leastT t l).next.take k ++ [(row t.next s).map fun y => cell l y.toNat] ∧ (leastT t l).tells.take (k + 1) = (leastT t l).tells.take k ++ [row t.tells s] := by
  obtain ⟨hk, e⟩ := List.getElem?_eq_some_iff.1 h
  constructor
  · rw [List.take_succ_eq_append_getElem (by simpa [leastT, leastTo] using hk)]
    simp [leastT, leastTo, e]
  · rw [List.take_succ_eq_append_getElem (by simpa [leastT, leastTo] using hk)]
    simp [leastT, leastTo, e]
theorem rLeast_spec (B : ApartBodies E P) (hB : Body1 E P 78 F.ref_Table_Least) (t : Table) (hg : Good t) : FX E P 78 [Tb t] (Tb (leastT t (Bl t))) := by
  refine FX.of (by simp [AV.closedL, Tb_closed]) (Tb_closed _) fun n R hR => hB _ _ _ ?_
  have g1 := hg.pos; have g2 := hg.few; have g3 := hg.wide; have g4 := hg.tells
  have hbl : (Bl t).length = t.next.length := iter_len t _
  have hcan : Canon (Bl t) := iter_canon _
  unfold F.ref_Table_Least
  simp only [Tb]
  refine wNew.F' (l := [LLI t.next, LLI t.tells]) rfl ?_
  simp only [Y0, Y1, Y2, Y3, Y4, Y5, Y6, Y7, Y8, Y9, Ya, Yb, Yc, Yd, Ye, Yf, Yg, Yh, Yi, Yj, Yk, Yl, Ym, Yn, Yo, Yp, Yq, Yr, Ys, Yt, Yu, Yv, Yw, Yx, Yy, Yz, Y10, Y11, Y12, Y13, Y14, Y15, Y16, Y17, Y18, Y19, Y1a, Y1b, Y1c, Y1d, Y1e, Y1f, Y1g, Y1h, Y1i, Y1j, Y1k, Y1l, AV.cells?, Y1n, Y1o, Y1p, Y1q, Y1r, Y1s, Y1t, Nat.reduceAdd, Nat.reduceMul, Y1w, Y1x, Y1y, Y1z, Y20, Y21, Y22, Y23, Y24, Y25, Y26, Y27, Y28, Y29, Y2a, Y2b]
  refine wNew.L rfl ?_
  simp only [Y0, Y1, Y2, Y3, Y4, Y5, Y6, Y7, Y8, Y9, Ya, Yb, Yc, Yd, Ye, Yf, Yg, Yh, Yi, Yj, Yk, Yl, Ym, Yn, Yo, Yp, Yq, Yr, Ys, Yt, Yu, Yv, Yw, Yx, Yy, Yz, Y10, Y11, Y12, Y13, Y14, Y15, Y16, Y17, Y18, Y19, Y1a, Y1b, Y1c, Y1d, Y1e, Y1f, Y1g, Y1h, Y1i, Y1j, Y1k, Y1l, AV.cells?, Y1n, Y1o, Y1p, Y1q, Y1r, Y1s, Y1t, Nat.reduceAdd, Nat.reduceMul, Y1w, Y1x, Y1y, Y1z, Y20, Y21, Y22, Y23, Y24, Y25, Y26, Y27, Y28, Y29, Y2a, Y2b]
  refine wCall.fx (rBlocks_spec B t hg) fun n1 => ?_
  refine wNew.L rfl ?_
  simp only [Y0, Y1, Y2, Y3, Y4, Y5, Y6, Y7, Y8, Y9, Ya, Yb, Yc, Yd, Ye, Yf, Yg, Yh, Yi, Yj, Yk, Yl, Ym, Yn, Yo, Yp, Yq, Yr, Ys, Yt, Yu, Yv, Yw, Yx, Yy, Yz, Y10, Y11, Y12, Y13, Y14, Y15, Y16, Y17, Y18, Y19, Y1a, Y1b, Y1c, Y1d, Y1e, Y1f, Y1g, Y1h, Y1i, Y1j, Y1k, Y1l, AV.cells?, Y1n, Y1o, Y1p, Y1q, Y1r, Y1s, Y1t, Nat.reduceAdd, Nat.reduceMul, Y1w, Y1x, Y1y, Y1z, Y20, Y21, Y22, Y23, Y24, Y25, Y26, Y27, Y28, Y29, Y2a, Y2b]
  generalize hl : Bl t = l at *
  have inv := repInv hcan l.length (Nat.le_refl _)
  have hLn : (leastT t l).next.length = (repsTo l l.length).length := by simp [leastT, leastTo, hbl]
  have hLt : (leastT t l).tells.length = (repsTo l l.length).length := by simp [leastT, leastTo, hbl]
  have hrl := repsTo_len l l.length
  refine wLoop.one (fun m i H => ∃ (k : Nat) (z2 z3 : Blk) (x y : AV) (c : Nat), k + m = (repsTo l l.length).length ∧ i = Z k ∧ H = ⟨[.cells n 2 [nilS, nilS], .cells n1 2 [x, y], z2, z3, .dead, .dead], c⟩ ∧ Gr 1 z2 2 x (((leastT t l).next.take k).map LI) k ∧ Gr 1 z3 3 y (((leastT t l).tells.take k).map LI) k) (repsTo l l.length).length
    (gh1.of (ghost_room [.dead, .dead, .dead, .dead] (by simp)) ⟨0, .dead, .dead, nilS, nilS, _, by omega, rfl, rfl, .nil, .nil⟩) ?_
  rintro m i H ⟨k, z2, z3, x, y, c, hkm, rfl, rfl, hx, hy⟩
  refine wJoin.zero (fun H => k < (repsTo l l.length).length ∧ ∃ (z2 z3 : Blk) (x y : AV) (c : Nat), H = ⟨[.cells n 2 [nilS, nilS], .cells n1 2 [x, y], z2, z3, .dead, .dead], c⟩ ∧ Gr 1 z2 2 x (((leastT t l).next.take (k + 1)).map LI) (k + 1) ∧ Gr 1 z3 3 y (((leastT t l).tells.take (k + 1)).map LI) (k + 1)) ?_ ?_
  case refine_2 =>
    rintro H ⟨hkl, z2, z3, x, y, c, rfl, hx, hy⟩
    rw [binA_succ (by omega)]
    simp only [Y0, Y1, Y2, Y3, Y4, Y5, Y6, Y7, Y8, Y9, Ya, Yb, Yc, Yd, Ye, Yf, Yg, Yh, Yi, Yj, Yk, Yl, Ym, Yn, Yo, Yp, Yq, Yr, Ys, Yt, Yu, Yv, Yw, Yx, Yy, Yz, Y10, Y11, Y12, Y13, Y14, Y15, Y16, Y17, Y18, Y19, Y1a, Y1b, Y1c, Y1d, Y1e, Y1f, Y1g, Y1h, Y1i, Y1j, Y1k, Y1l, AV.cells?, Y1n, Y1o, Y1p, Y1q, Y1r, Y1s, Y1t, Nat.reduceAdd, Nat.reduceMul, Y1w, Y1x, Y1y, Y1z, Y20, Y21, Y22, Y23, Y24, Y25, Y26, Y27, Y28, Y29, Y2a, Y2b]
    exact back1.mk (m - 1) (by omega) ⟨k + 1, z2, z3, x, y, c, by omega, rfl, rfl, hx, hy⟩
  refine wLoop.one (fun m i H => ∃ s : Nat, s + m = l.length ∧ i = Z s ∧ H = ⟨[.cells n 2 [nilS, nilS], .cells n1 2 [x, y], z2, z3, .dead, .dead], c⟩ ∧ ∀ r, r < s → cell l r ≠ (k : Int)) l.length (gh1.mk ⟨0, by omega, rfl, rfl, by simp⟩) ?_
  rintro m2 i H ⟨s, hsm, rfl, rfl, hpre⟩
  by_cases hs : s < l.length
  case neg =>
    have : s = l.length := by omega
    subst this
    simp only [Y0, Y1, Y2, Y3, Y4, Y5, Y6, Y7, Y8, Y9, Ya, Yb, Yc, Yd, Ye, Yf, Yg, Yh, Yi, Yj, Yk, Yl, Ym, Yn, Yo, Yp, Yq, Yr, Ys, Yt, Yu, Yv, Yw, Yx, Yy, Yz, Y10, Y11, Y12, Y13, Y14, Y15, Y16, Y17, Y18, Y19, Y1a, Y1b, Y1c, Y1d, Y1e, Y1f, Y1g, Y1h, Y1i, Y1j, Y1k, Y1l, AV.cells?, Y1n, Y1o, Y1p, Y1q, Y1r, Y1s, Y1t, Nat.reduceAdd, Nat.reduceMul, Y1w, Y1x, Y1y, Y1z, Y20, Y21, Y22, Y23, Y24, Y25, Y26, Y27, Y28, Y29, Y2a, Y2b, lenA_LI, Int.lt_irrefl, decide_eq_true (rfl : (l.length : Int) = l.length)]
    have hkl : k = (repsTo l l.length).length := by
      apply Classical.byContradiction
      intro hne
      have hk : k < (repsTo l l.length).length := by omega
      have := inv.pos k _ (List.getElem?_eq_getElem hk)
      exact hpre _ this.1 this.2
    rw [storeN_L (n := 2) (xs := [x, y]) rfl (by simp [hx.scalar, hy.scalar])]
    simp only [Y0, Y1, Y2, Y3, Y4, Y5, Y6, Y7, Y8, Y9, Ya, Yb, Yc, Yd, Ye, Yf, Yg, Yh, Yi, Yj, Yk, Yl, Ym, Yn, Yo, Yp, Yq, Yr, Ys, Yt, Yu, Yv, Yw, Yx, Yy, Yz, Y10, Y11, Y12, Y13, Y14, Y15, Y16, Y17, Y18, Y19, Y1a, Y1b, Y1c, Y1d, Y1e, Y1f, Y1g, Y1h, Y1i, Y1j, Y1k, Y1l, AV.cells?, Y1n, Y1o, Y1p, Y1q, Y1r, Y1s, Y1t, Nat.reduceAdd, Nat.reduceMul, Y1w, Y1x, Y1y, Y1z, Y20, Y21, Y22, Y23, Y24, Y25, Y26, Y27, Y28, Y29, Y2a, Y2b, put_two, ret_one]
    refine hR _ _ (.sub (.agg (.cons ?_ (.one ?_))))
    · have := hx.sub
      rw [hkl, ← hLn, List.take_length] at this
      simpa [LLI, Lm] using this
    · have := hy.sub
      rw [hkl, ← hLt, List.take_length] at this
      simpa [LLI, Lm] using this
  simp only [Y0, Y1, Y2, Y3, Y4, Y5, Y6, Y7, Y8, Y9, Ya, Yb, Yc, Yd, Ye, Yf, Yg, Yh, Yi, Yj, Yk, Yl, Ym, Yn, Yo, Yp, Yq, Yr, Ys, Yt, Yu, Yv, Yw, Yx, Yy, Yz, Y10, Y11, Y12, Y13, Y14, Y15, Y16, Y17, Y18, Y19, Y1a, Y1b, Y1c, Y1d, Y1e, Y1f, Y1g, Y1h, Y1i, Y1j, Y1k, Y1l, AV.cells?, Y1n, Y1o, Y1p, Y1q, Y1r, Y1s, Y1t, Nat.reduceAdd, Nat.reduceMul, Y1w, Y1x, Y1y, Y1z, Y20, Y21, Y22, Y23, Y24, Y25, Y26, Y27, Y28, Y29, Y2a, Y2b, lenA_LI, decide_eq_true (show (s : Int) < (l.length : Int) by omega)]
  rw [iaddr_LI hs]
  simp only [Y0, Y1, Y2, Y3, Y4, Y5, Y6, Y7, Y8, Y9, Ya, Yb, Yc, Yd, Ye, Yf, Yg, Yh, Yi, Yj, Yk, Yl, Ym, Yn, Yo, Yp, Yq, Yr, Ys, Yt, Yu, Yv, Yw, Yx, Yy, Yz, Y10, Y11, Y12, Y13, Y14, Y15, Y16, Y17, Y18, Y19, Y1a, Y1b, Y1c, Y1d, Y1e, Y1f, Y1g, Y1h, Y1i, Y1j, Y1k, Y1l, AV.cells?, Y1n, Y1o, Y1p, Y1q, Y1r, Y1s, Y1t, Nat.reduceAdd, Nat.reduceMul, Y1w, Y1x, Y1y, Y1z, Y20, Y21, Y22, Y23, Y24, Y25, Y26, Y27, Y28, Y29, Y2a, Y2b, cell_at hs]
  by_cases hcs : cell l s = (k : Int)
  case neg =>
    simp only [Y0, Y1, Y2, Y3, Y4, Y5, Y6, Y7, Y8, Y9, Ya, Yb, Yc, Yd, Ye, Yf, Yg, Yh, Yi, Yj, Yk, Yl, Ym, Yn, Yo, Yp, Yq, Yr, Ys, Yt, Yu, Yv, Yw, Yx, Yy, Yz, Y10, Y11, Y12, Y13, Y14, Y15, Y16, Y17, Y18, Y19, Y1a, Y1b, Y1c, Y1d, Y1e, Y1f, Y1g, Y1h, Y1i, Y1j, Y1k, Y1l, AV.cells?, Y1n, Y1o, Y1p, Y1q, Y1r, Y1s, Y1t, Nat.reduceAdd, Nat.reduceMul, Y1w, Y1x, Y1y, Y1z, Y20, Y21, Y22, Y23, Y24, Y25, Y26, Y27, Y28, Y29, Y2a, Y2b, decide_eq_false hcs]
    rw [binA_succ (by omega)]
    simp only [Y0, Y1, Y2, Y3, Y4, Y5, Y6, Y7, Y8, Y9, Ya, Yb, Yc, Yd, Ye, Yf, Yg, Yh, Yi, Yj, Yk, Yl, Ym, Yn, Yo, Yp, Yq, Yr, Ys, Yt, Yu, Yv, Yw, Yx, Yy, Yz, Y10, Y11, Y12, Y13, Y14, Y15, Y16, Y17, Y18, Y19, Y1a, Y1b, Y1c, Y1d, Y1e, Y1f, Y1g, Y1h, Y1i, Y1j, Y1k, Y1l, AV.cells?, Y1n, Y1o, Y1p, Y1q, Y1r, Y1s, Y1t, Nat.reduceAdd, Nat.reduceMul, Y1w, Y1x, Y1y, Y1z, Y20, Y21, Y22, Y23, Y24, Y25, Y26, Y27, Y28, Y29, Y2a, Y2b]
    refine back1.mk (m2 - 1) (by omega) ⟨s + 1, by omega, rfl, rfl, fun r hr => ?_⟩
    by_cases e : r < s
    · exact hpre r e
    · have : r = s := by omega
      subst this; exact hcs
  have hrep := rep_at hcan hs hcs hpre
  have hkl : k < (repsTo l l.length).length := (List.getElem?_eq_some_iff.1 hrep).1
  obtain ⟨htk1, htk2⟩ := leastTo_take (t := t) (l := l) (k := k) (s := s) (by rw [← hbl]; exact hrep)
  have hst : s < t.next.length := by omega
  have hrow := hg.rows s hst
  simp only [Y0, Y1, Y2, Y3, Y4, Y5, Y6, Y7, Y8, Y9, Ya, Yb, Yc, Yd, Ye, Yf, Yg, Yh, Yi, Yj, Yk, Yl, Ym, Yn, Yo, Yp, Yq, Yr, Ys, Yt, Yu, Yv, Yw, Yx, Yy, Yz, Y10, Y11, Y12, Y13, Y14, Y15, Y16, Y17, Y18, Y19, Y1a, Y1b, Y1c, Y1d, Y1e, Y1f, Y1g, Y1h, Y1i, Y1j, Y1k, Y1l, AV.cells?, Y1n, Y1o, Y1p, Y1q, Y1r, Y1s, Y1t, Nat.reduceAdd, Nat.reduceMul, Y1w, Y1x, Y1y, Y1z, Y20, Y21, Y22, Y23, Y24, Y25, Y26, Y27, Y28, Y29, Y2a, Y2b, decide_eq_true hcs, lenA_LI, decide_eq_false (show ¬ ((s : Int) = (l.length : Int)) by omega)]
  rw [iaddr_LLI hst]
  simp only [Y0, Y1, Y2, Y3, Y4, Y5, Y6, Y7, Y8, Y9, Ya, Yb, Yc, Yd, Ye, Yf, Yg, Yh, Yi, Yj, Yk, Yl, Ym, Yn, Yo, Yp, Yq, Yr, Ys, Yt, Yu, Yv, Yw, Yx, Yy, Yz, Y10, Y11, Y12, Y13, Y14, Y15, Y16, Y17, Y18, Y19, Y1a, Y1b, Y1c, Y1d, Y1e, Y1f, Y1g, Y1h, Y1i, Y1j, Y1k, Y1l, AV.cells?, Y1n, Y1o, Y1p, Y1q, Y1r, Y1s, Y1t, Nat.reduceAdd, Nat.reduceMul, Y1w, Y1x, Y1y, Y1z, Y20, Y21, Y22, Y23, Y24, Y25, Y26, Y27, Y28, Y29, Y2a, Y2b, row_get hst, lenA_LI]
  refine wLoop.two (fun m t9 i H => ∃ (pre rest : List Int) (z4 : Blk) (c : Nat), row t.next s = pre ++ rest ∧ i = Z pre.length ∧ m = rest.length ∧ H = ⟨[.cells n 2 [nilS, nilS], .cells n1 2 [x, y], z2, z3, z4, .dead], c⟩ ∧ Gr 1 z4 4 t9 ((pre.map fun y => cell l y.toNat).map fun z => Z z) pre.length) (row t.next s).length
    (gh2.mk ⟨[], row t.next s, .dead, c, rfl, rfl, rfl, rfl, .nil⟩) ?_
  rintro m2 t9 i H ⟨pre, rest, z4, c2, hre, rfl, rfl, rfl, h9⟩
  rw [hre] at hrow
  rw [hre]
  cases rest with
  | cons z rest =>
    have hpl : pre.length < 100 := by simp at hrow; omega
    simp only [Y0, Y1, Y2, Y3, Y4, Y5, Y6, Y7, Y8, Y9, Ya, Yb, Yc, Yd, Ye, Yf, Yg, Yh, Yi, Yj, Yk, Yl, Ym, Yn, Yo, Yp, Yq, Yr, Ys, Yt, Yu, Yv, Yw, Yx, Yy, Yz, Y10, Y11, Y12, Y13, Y14, Y15, Y16, Y17, Y18, Y19, Y1a, Y1b, Y1c, Y1d, Y1e, Y1f, Y1g, Y1h, Y1i, Y1j, Y1k, Y1l, AV.cells?, Y1n, Y1o, Y1p, Y1q, Y1r, Y1s, Y1t, Nat.reduceAdd, Nat.reduceMul, Y1w, Y1x, Y1y, Y1z, Y20, Y21, Y22, Y23, Y24, Y25, Y26, Y27, Y28, Y29, Y2a, Y2b, decide_eq_true (show (pre.length : Int) < ((pre ++ z :: rest).length : Int) by simp; omega)]
    rw [iaddr_LI lt_mid]
    simp only [Y0, Y1, Y2, Y3, Y4, Y5, Y6, Y7, Y8, Y9, Ya, Yb, Yc, Yd, Ye, Yf, Yg, Yh, Yi, Yj, Yk, Yl, Ym, Yn, Yo, Yp, Yq, Yr, Ys, Yt, Yu, Yv, Yw, Yx, Yy, Yz, Y10, Y11, Y12, Y13, Y14, Y15, Y16, Y17, Y18, Y19, Y1a, Y1b, Y1c, Y1d, Y1e, Y1f, Y1g, Y1h, Y1i, Y1j, Y1k, Y1l, AV.cells?, Y1n, Y1o, Y1p, Y1q, Y1r, Y1s, Y1t, Nat.reduceAdd, Nat.reduceMul, Y1w, Y1x, Y1y, Y1z, Y20, Y21, Y22, Y23, Y24, Y25, Y26, Y27, Y28, Y29, Y2a, Y2b, at_mid]
    have hth := hg.there s hst z (by rw [hre]; simp)
    rw [iaddr_LIz hth.1 (by omega)]
    simp only [Y0, Y1, Y2, Y3, Y4, Y5, Y6, Y7, Y8, Y9, Ya, Yb, Yc, Yd, Ye, Yf, Yg, Yh, Yi, Yj, Yk, Yl, Ym, Yn, Yo, Yp, Yq, Yr, Ys, Yt, Yu, Yv, Yw, Yx, Yy, Yz, Y10, Y11, Y12, Y13, Y14, Y15, Y16, Y17, Y18, Y19, Y1a, Y1b, Y1c, Y1d, Y1e, Y1f, Y1g, Y1h, Y1i, Y1j, Y1k, Y1l, AV.cells?, Y1n, Y1o, Y1p, Y1q, Y1r, Y1s, Y1t, Nat.reduceAdd, Nat.reduceMul, Y1w, Y1x, Y1y, Y1z, Y20, Y21, Y22, Y23, Y24, Y25, Y26, Y27, Y28, Y29, Y2a, Y2b, cell_at (show z.toNat < l.length by omega)]
    refine wNewS.F' (l := [Z (cell l z.toNat)]) rfl rfl ?_
    refine wApp.one (bytes := 8) h9 rfl (by simp) (.refl _) rfl (by simp [mostBytes]; omega) fun z' x' c' hg' => ?_
    simp only [Y0, Y1, Y2, Y3, Y4, Y5, Y6, Y7, Y8, Y9, Ya, Yb, Yc, Yd, Ye, Yf, Yg, Yh, Yi, Yj, Yk, Yl, Ym, Yn, Yo, Yp, Yq, Yr, Ys, Yt, Yu, Yv, Yw, Yx, Yy, Yz, Y10, Y11, Y12, Y13, Y14, Y15, Y16, Y17, Y18, Y19, Y1a, Y1b, Y1c, Y1d, Y1e, Y1f, Y1g, Y1h, Y1i, Y1j, Y1k, Y1l, AV.cells?, Y1n, Y1o, Y1p, Y1q, Y1r, Y1s, Y1t, Nat.reduceAdd, Nat.reduceMul, Y1w, Y1x, Y1y, Y1z, Y20, Y21, Y22, Y23, Y24, Y25, Y26, Y27, Y28, Y29, Y2a, Y2b]
    rw [binA_succ (by omega)]
    simp only [Y0, Y1, Y2, Y3, Y4, Y5, Y6, Y7, Y8, Y9, Ya, Yb, Yc, Yd, Ye, Yf, Yg, Yh, Yi, Yj, Yk, Yl, Ym, Yn, Yo, Yp, Yq, Yr, Ys, Yt, Yu, Yv, Yw, Yx, Yy, Yz, Y10, Y11, Y12, Y13, Y14, Y15, Y16, Y17, Y18, Y19, Y1a, Y1b, Y1c, Y1d, Y1e, Y1f, Y1g, Y1h, Y1i, Y1j, Y1k, Y1l, AV.cells?, Y1n, Y1o, Y1p, Y1q, Y1r, Y1s, Y1t, Nat.reduceAdd, Nat.reduceMul, Y1w, Y1x, Y1y, Y1z, Y20, Y21, Y22, Y23, Y24, Y25, Y26, Y27, Y28, Y29, Y2a, Y2b]
    exact back2.mk rest.length (by simp) ⟨pre ++ [z], rest, z', c', by simp, by simp, rfl, rfl, by simpa using hg'⟩
  | nil =>
    simp only [List.append_nil] at hre hrow ⊢
    simp only [Y0, Y1, Y2, Y3, Y4, Y5, Y6, Y7, Y8, Y9, Ya, Yb, Yc, Yd, Ye, Yf, Yg, Yh, Yi, Yj, Yk, Yl, Ym, Yn, Yo, Yp, Yq, Yr, Ys, Yt, Yu, Yv, Yw, Yx, Yy, Yz, Y10, Y11, Y12, Y13, Y14, Y15, Y16, Y17, Y18, Y19, Y1a, Y1b, Y1c, Y1d, Y1e, Y1f, Y1g, Y1h, Y1i, Y1j, Y1k, Y1l, AV.cells?, Y1n, Y1o, Y1p, Y1q, Y1r, Y1s, Y1t, Nat.reduceAdd, Nat.reduceMul, Y1w, Y1x, Y1y, Y1z, Y20, Y21, Y22, Y23, Y24, Y25, Y26, Y27, Y28, Y29, Y2a, Y2b, Int.lt_irrefl]
    have hst2 : s < t.tells.length := by omega
    rw [iaddr_LLI hst2]
    simp only [Y0, Y1, Y2, Y3, Y4, Y5, Y6, Y7, Y8, Y9, Ya, Yb, Yc, Yd, Ye, Yf, Yg, Yh, Yi, Yj, Yk, Yl, Ym, Yn, Yo, Yp, Yq, Yr, Ys, Yt, Yu, Yv, Yw, Yx, Yy, Yz, Y10, Y11, Y12, Y13, Y14, Y15, Y16, Y17, Y18, Y19, Y1a, Y1b, Y1c, Y1d, Y1e, Y1f, Y1g, Y1h, Y1i, Y1j, Y1k, Y1l, AV.cells?, Y1n, Y1o, Y1p, Y1q, Y1r, Y1s, Y1t, Nat.reduceAdd, Nat.reduceMul, Y1w, Y1x, Y1y, Y1z, Y20, Y21, Y22, Y23, Y24, Y25, Y26, Y27, Y28, Y29, Y2a, Y2b, row_get hst2]
    have hsub : Sub t9 (LI (pre.map fun y => cell l y.toNat)) := by
      have := h9.sub
      simpa [LI, Lm] using this
    have fin : ∀ (z2' z3' z5 : Blk) (x' y' : AV) (c : Nat), Gr 1 z2' 2 x' (((leastT t l).next.take k).map LI ++ [LI (pre.map fun y => cell l y.toNat)]) (k + 1) → Gr 1 z3' 3 y' (((leastT t l).tells.take k).map LI ++ [LI (row t.tells s)]) (k + 1) →
        gh0 (fun H => k < (repsTo l l.length).length ∧ ∃ (z2 z3 : Blk) (x y : AV) (c : Nat), H = ⟨[.cells n 2 [nilS, nilS], .cells n1 2 [x, y], z2, z3, .dead, .dead], c⟩ ∧ Gr 1 z2 2 x (((leastT t l).next.take (k + 1)).map LI) (k + 1) ∧ Gr 1 z3 3 y (((leastT t l).tells.take (k + 1)).map LI) (k + 1)) ⟨[.cells n 2 [nilS, nilS], .cells n1 2 [x', y'], z2', z3', z4, z5], c⟩ := by
      intro z2' z3' z5 x' y' c h1 h2
      have hgh : Ghost [] ⟨[.cells n 2 [nilS, nilS], .cells n1 2 [x', y'], z2', z3', z4, z5], c⟩ [] ⟨[.cells n 2 [nilS, nilS], .cells n1 2 [x', y'], z2', z3', .dead, .dead], c⟩ :=
        ghost_kill (H := ⟨[.cells n 2 [nilS, nilS], .cells n1 2 [x', y'], z2', z3', z4, z5], c⟩) (H' := ⟨[.cells n 2 [nilS, nilS], .cells n1 2 [x', y'], z2', z3', .dead, .dead], c⟩) (S := fun i => i == 4 || i == 5) rfl (.keep rfl (KB.same _) (.keep rfl (KB.same _) (.keep rfl (KB.same _) (.keep rfl (KB.same _) (.dead rfl (.dead rfl .nil)))))) .nil
      refine gh0.of hgh ⟨hkl, z2', z3', x', y', c, rfl, ?_, ?_⟩
      · rw [htk1, hre]; simpa using h1
      · rw [htk2]; simpa using h2
    have htl : (((leastT t l).next.take k).map LI).length = k := by simp; omega
    have htl2 : (((leastT t l).tells.take k).map LI).length = k := by simp; omega
    have hcp : cellsOfA 1 (LI (row t.tells s)) ⟨[], 0⟩ = some ((row t.tells s).length, (row t.tells s).map fun z => Z z) := by simp [LI, Lm, cellsOfA, subL, List.take_of_length_le]
    have hbound : (row t.tells s).length ≤ 64 := by have := (hg.rows s hst).2; omega
    have h5sub : ∀ {z' : Blk} {x' : AV}, Gr 1 z' 5 x' ([] ++ (row t.tells s).map fun z => Z z) (0 + (row t.tells s).length) → Sub x' (LI (row t.tells s)) := by
      intro z' x' h
      have := h.sub
      simpa [LI, Lm] using this
    refine ⟨?_, ?_⟩
    · refine wNewS.F (l := [t9]) (l' := [LI (pre.map fun y => cell l y.toNat)]) (by simp [fillA_one h9.scalar, fillA_nil]) (.one hsub) rfl ?_
      simp only [Y0, Y1, Y2, Y3, Y4, Y5, Y6, Y7, Y8, Y9, Ya, Yb, Yc, Yd, Ye, Yf, Yg, Yh, Yi, Yj, Yk, Yl, Ym, Yn, Yo, Yp, Yq, Yr, Ys, Yt, Yu, Yv, Yw, Yx, Yy, Yz, Y10, Y11, Y12, Y13, Y14, Y15, Y16, Y17, Y18, Y19, Y1a, Y1b, Y1c, Y1d, Y1e, Y1f, Y1g, Y1h, Y1i, Y1j, Y1k, Y1l, AV.cells?, Y1n, Y1o, Y1p, Y1q, Y1r, Y1s, Y1t, Nat.reduceAdd, Nat.reduceMul, Y1w, Y1x, Y1y, Y1z, Y20, Y21, Y22, Y23, Y24, Y25, Y26, Y27, Y28, Y29, Y2a, Y2b, row_get hst2, and_self, true_and]
      refine ⟨?_, ?_⟩
      · refine wApp.one (bytes := 24) hx rfl htl (.refl _) (LI_scalar _) (by simp [mostBytes]; omega) fun z2' x' c' hx' => ?_
        simp only [Y0, Y1, Y2, Y3, Y4, Y5, Y6, Y7, Y8, Y9, Ya, Yb, Yc, Yd, Ye, Yf, Yg, Yh, Yi, Yj, Yk, Yl, Ym, Yn, Yo, Yp, Yq, Yr, Ys, Yt, Yu, Yv, Yw, Yx, Yy, Yz, Y10, Y11, Y12, Y13, Y14, Y15, Y16, Y17, Y18, Y19, Y1a, Y1b, Y1c, Y1d, Y1e, Y1f, Y1g, Y1h, Y1i, Y1j, Y1k, Y1l, AV.cells?, Y1n, Y1o, Y1p, Y1q, Y1r, Y1s, Y1t, Nat.reduceAdd, Nat.reduceMul, Y1w, Y1x, Y1y, Y1z, Y20, Y21, Y22, Y23, Y24, Y25, Y26, Y27, Y28, Y29, Y2a, Y2b, row_get hst2, and_self, true_and]
        refine wNewS.TS 5 (l := []) rfl (.refl _) rfl rfl ?_
        simp only [Y0, Y1, Y2, Y3, Y4, Y5, Y6, Y7, Y8, Y9, Ya, Yb, Yc, Yd, Ye, Yf, Yg, Yh, Yi, Yj, Yk, Yl, Ym, Yn, Yo, Yp, Yq, Yr, Ys, Yt, Yu, Yv, Yw, Yx, Yy, Yz, Y10, Y11, Y12, Y13, Y14, Y15, Y16, Y17, Y18, Y19, Y1a, Y1b, Y1c, Y1d, Y1e, Y1f, Y1g, Y1h, Y1i, Y1j, Y1k, Y1l, AV.cells?, Y1n, Y1o, Y1p, Y1q, Y1r, Y1s, Y1t, Nat.reduceAdd, Nat.reduceMul, Y1w, Y1x, Y1y, Y1z, Y20, Y21, Y22, Y23, Y24, Y25, Y26, Y27, Y28, Y29, Y2a, Y2b, row_get hst2, and_self, true_and]
        refine wApp.gr (bytes := 8) (m := (row t.tells s).length) (new := (row t.tells s).map fun z => Z z) .mk rfl rfl (by simp [LI, Lm, cellsOfA, subL, List.take_of_length_le]) (.refl _) (by simp [AV.scalar]) (by simp [mostBytes]; omega) fun z5' x5 c5 h5 => ?_
        simp only [Y0, Y1, Y2, Y3, Y4, Y5, Y6, Y7, Y8, Y9, Ya, Yb, Yc, Yd, Ye, Yf, Yg, Yh, Yi, Yj, Yk, Yl, Ym, Yn, Yo, Yp, Yq, Yr, Ys, Yt, Yu, Yv, Yw, Yx, Yy, Yz, Y10, Y11, Y12, Y13, Y14, Y15, Y16, Y17, Y18, Y19, Y1a, Y1b, Y1c, Y1d, Y1e, Y1f, Y1g, Y1h, Y1i, Y1j, Y1k, Y1l, AV.cells?, Y1n, Y1o, Y1p, Y1q, Y1r, Y1s, Y1t, Nat.reduceAdd, Nat.reduceMul, Y1w, Y1x, Y1y, Y1z, Y20, Y21, Y22, Y23, Y24, Y25, Y26, Y27, Y28, Y29, Y2a, Y2b, row_get hst2, and_self, true_and]
        refine wNewS.F (l := [x5]) (l' := [LI (row t.tells s)]) (by simp [fillA_one h5.scalar, fillA_nil]) (.one (h5sub h5)) rfl ?_
        simp only [Y0, Y1, Y2, Y3, Y4, Y5, Y6, Y7, Y8, Y9, Ya, Yb, Yc, Yd, Ye, Yf, Yg, Yh, Yi, Yj, Yk, Yl, Ym, Yn, Yo, Yp, Yq, Yr, Ys, Yt, Yu, Yv, Yw, Yx, Yy, Yz, Y10, Y11, Y12, Y13, Y14, Y15, Y16, Y17, Y18, Y19, Y1a, Y1b, Y1c, Y1d, Y1e, Y1f, Y1g, Y1h, Y1i, Y1j, Y1k, Y1l, AV.cells?, Y1n, Y1o, Y1p, Y1q, Y1r, Y1s, Y1t, Nat.reduceAdd, Nat.reduceMul, Y1w, Y1x, Y1y, Y1z, Y20, Y21, Y22, Y23, Y24, Y25, Y26, Y27, Y28, Y29, Y2a, Y2b, row_get hst2, and_self, true_and]
        refine wApp.one (bytes := 24) hy rfl htl2 (.refl _) (LI_scalar _) (by simp [mostBytes]; omega) fun z3' y' c'' hy' => ?_
        simp only [Y0, Y1, Y2, Y3, Y4, Y5, Y6, Y7, Y8, Y9, Ya, Yb, Yc, Yd, Ye, Yf, Yg, Yh, Yi, Yj, Yk, Yl, Ym, Yn, Yo, Yp, Yq, Yr, Ys, Yt, Yu, Yv, Yw, Yx, Yy, Yz, Y10, Y11, Y12, Y13, Y14, Y15, Y16, Y17, Y18, Y19, Y1a, Y1b, Y1c, Y1d, Y1e, Y1f, Y1g, Y1h, Y1i, Y1j, Y1k, Y1l, AV.cells?, Y1n, Y1o, Y1p, Y1q, Y1r, Y1s, Y1t, Nat.reduceAdd, Nat.reduceMul, Y1w, Y1x, Y1y, Y1z, Y20, Y21, Y22, Y23, Y24, Y25, Y26, Y27, Y28, Y29, Y2a, Y2b]
        rw [store1_L hx'.scalar]
        simp only [Y0, Y1, Y2, Y3, Y4, Y5, Y6, Y7, Y8, Y9, Ya, Yb, Yc, Yd, Ye, Yf, Yg, Yh, Yi, Yj, Yk, Yl, Ym, Yn, Yo, Yp, Yq, Yr, Ys, Yt, Yu, Yv, Yw, Yx, Yy, Yz, Y10, Y11, Y12, Y13, Y14, Y15, Y16, Y17, Y18, Y19, Y1a, Y1b, Y1c, Y1d, Y1e, Y1f, Y1g, Y1h, Y1i, Y1j, Y1k, Y1l, AV.cells?, Y1n, Y1o, Y1p, Y1q, Y1r, Y1s, Y1t, Nat.reduceAdd, Nat.reduceMul, Y1w, Y1x, Y1y, Y1z, Y20, Y21, Y22, Y23, Y24, Y25, Y26, Y27, Y28, Y29, Y2a, Y2b, Nat.reduceLT]
        rw [store1_L hy'.scalar]
        simp only [Y0, Y1, Y2, Y3, Y4, Y5, Y6, Y7, Y8, Y9, Ya, Yb, Yc, Yd, Ye, Yf, Yg, Yh, Yi, Yj, Yk, Yl, Ym, Yn, Yo, Yp, Yq, Yr, Ys, Yt, Yu, Yv, Yw, Yx, Yy, Yz, Y10, Y11, Y12, Y13, Y14, Y15, Y16, Y17, Y18, Y19, Y1a, Y1b, Y1c, Y1d, Y1e, Y1f, Y1g, Y1h, Y1i, Y1j, Y1k, Y1l, AV.cells?, Y1n, Y1o, Y1p, Y1q, Y1r, Y1s, Y1t, Nat.reduceAdd, Nat.reduceMul, Y1w, Y1x, Y1y, Y1z, Y20, Y21, Y22, Y23, Y24, Y25, Y26, Y27, Y28, Y29, Y2a, Y2b, Nat.reduceLT]
        exact fin _ _ _ _ _ _ hx' hy'
      · refine wNewS.TS 5 (l := []) rfl (.refl _) rfl rfl ?_
        simp only [Y0, Y1, Y2, Y3, Y4, Y5, Y6, Y7, Y8, Y9, Ya, Yb, Yc, Yd, Ye, Yf, Yg, Yh, Yi, Yj, Yk, Yl, Ym, Yn, Yo, Yp, Yq, Yr, Ys, Yt, Yu, Yv, Yw, Yx, Yy, Yz, Y10, Y11, Y12, Y13, Y14, Y15, Y16, Y17, Y18, Y19, Y1a, Y1b, Y1c, Y1d, Y1e, Y1f, Y1g, Y1h, Y1i, Y1j, Y1k, Y1l, AV.cells?, Y1n, Y1o, Y1p, Y1q, Y1r, Y1s, Y1t, Nat.reduceAdd, Nat.reduceMul, Y1w, Y1x, Y1y, Y1z, Y20, Y21, Y22, Y23, Y24, Y25, Y26, Y27, Y28, Y29, Y2a, Y2b, row_get hst2, and_self, true_and]
        refine wApp.one (bytes := 24) hx rfl htl (.refl _) (LI_scalar _) (by simp [mostBytes]; omega) fun z2' x' c' hx' => ?_
        simp only [Y0, Y1, Y2, Y3, Y4, Y5, Y6, Y7, Y8, Y9, Ya, Yb, Yc, Yd, Ye, Yf, Yg, Yh, Yi, Yj, Yk, Yl, Ym, Yn, Yo, Yp, Yq, Yr, Ys, Yt, Yu, Yv, Yw, Yx, Yy, Yz, Y10, Y11, Y12, Y13, Y14, Y15, Y16, Y17, Y18, Y19, Y1a, Y1b, Y1c, Y1d, Y1e, Y1f, Y1g, Y1h, Y1i, Y1j, Y1k, Y1l, AV.cells?, Y1n, Y1o, Y1p, Y1q, Y1r, Y1s, Y1t, Nat.reduceAdd, Nat.reduceMul, Y1w, Y1x, Y1y, Y1z, Y20, Y21, Y22, Y23, Y24, Y25, Y26, Y27, Y28, Y29, Y2a, Y2b, row_get hst2, and_self, true_and]
        refine wApp.gr (bytes := 8) (m := (row t.tells s).length) (new := (row t.tells s).map fun z => Z z) .mk rfl rfl (by simp [LI, Lm, cellsOfA, subL, List.take_of_length_le]) (.refl _) (by simp [AV.scalar]) (by simp [mostBytes]; omega) fun z5' x5 c5 h5 => ?_
        simp only [Y0, Y1, Y2, Y3, Y4, Y5, Y6, Y7, Y8, Y9, Ya, Yb, Yc, Yd, Ye, Yf, Yg, Yh, Yi, Yj, Yk, Yl, Ym, Yn, Yo, Yp, Yq, Yr, Ys, Yt, Yu, Yv, Yw, Yx, Yy, Yz, Y10, Y11, Y12, Y13, Y14, Y15, Y16, Y17, Y18, Y19, Y1a, Y1b, Y1c, Y1d, Y1e, Y1f, Y1g, Y1h, Y1i, Y1j, Y1k, Y1l, AV.cells?, Y1n, Y1o, Y1p, Y1q, Y1r, Y1s, Y1t, Nat.reduceAdd, Nat.reduceMul, Y1w, Y1x, Y1y, Y1z, Y20, Y21, Y22, Y23, Y24, Y25, Y26, Y27, Y28, Y29, Y2a, Y2b, row_get hst2, and_self, true_and]
        refine wNewS.F (l := [x5]) (l' := [LI (row t.tells s)]) (by simp [fillA_one h5.scalar, fillA_nil]) (.one (h5sub h5)) rfl ?_
        simp only [Y0, Y1, Y2, Y3, Y4, Y5, Y6, Y7, Y8, Y9, Ya, Yb, Yc, Yd, Ye, Yf, Yg, Yh, Yi, Yj, Yk, Yl, Ym, Yn, Yo, Yp, Yq, Yr, Ys, Yt, Yu, Yv, Yw, Yx, Yy, Yz, Y10, Y11, Y12, Y13, Y14, Y15, Y16, Y17, Y18, Y19, Y1a, Y1b, Y1c, Y1d, Y1e, Y1f, Y1g, Y1h, Y1i, Y1j, Y1k, Y1l, AV.cells?, Y1n, Y1o, Y1p, Y1q, Y1r, Y1s, Y1t, Nat.reduceAdd, Nat.reduceMul, Y1w, Y1x, Y1y, Y1z, Y20, Y21, Y22, Y23, Y24, Y25, Y26, Y27, Y28, Y29, Y2a, Y2b, row_get hst2, and_self, true_and]
        refine wApp.one (bytes := 24) hy rfl htl2 (.refl _) (LI_scalar _) (by simp [mostBytes]; omega) fun z3' y' c'' hy' => ?_
        simp only [Y0, Y1, Y2, Y3, Y4, Y5, Y6, Y7, Y8, Y9, Ya, Yb, Yc, Yd, Ye, Yf, Yg, Yh, Yi, Yj, Yk, Yl, Ym, Yn, Yo, Yp, Yq, Yr, Ys, Yt, Yu, Yv, Yw, Yx, Yy, Yz, Y10, Y11, Y12, Y13, Y14, Y15, Y16, Y17, Y18, Y19, Y1a, Y1b, Y1c, Y1d, Y1e, Y1f, Y1g, Y1h, Y1i, Y1j, Y1k, Y1l, AV.cells?, Y1n, Y1o, Y1p, Y1q, Y1r, Y1s, Y1t, Nat.reduceAdd, Nat.reduceMul, Y1w, Y1x, Y1y, Y1z, Y20, Y21, Y22, Y23, Y24, Y25, Y26, Y27, Y28, Y29, Y2a, Y2b]
        rw [store1_L hx'.scalar]
        simp only [Y0, Y1, Y2, Y3, Y4, Y5, Y6, Y7, Y8, Y9, Ya, Yb, Yc, Yd, Ye, Yf, Yg, Yh, Yi, Yj, Yk, Yl, Ym, Yn, Yo, Yp, Yq, Yr, Ys, Yt, Yu, Yv, Yw, Yx, Yy, Yz, Y10, Y11, Y12, Y13, Y14, Y15, Y16, Y17, Y18, Y19, Y1a, Y1b, Y1c, Y1d, Y1e, Y1f, Y1g, Y1h, Y1i, Y1j, Y1k, Y1l, AV.cells?, Y1n, Y1o, Y1p, Y1q, Y1r, Y1s, Y1t, Nat.reduceAdd, Nat.reduceMul, Y1w, Y1x, Y1y, Y1z, Y20, Y21, Y22, Y23, Y24, Y25, Y26, Y27, Y28, Y29, Y2a, Y2b, Nat.reduceLT]
        rw [store1_L hy'.scalar]
        simp only [Y0, Y1, Y2, Y3, Y4, Y5, Y6, Y7, Y8, Y9, Ya, Yb, Yc, Yd, Ye, Yf, Yg, Yh, Yi, Yj, Yk, Yl, Ym, Yn, Yo, Yp, Yq, Yr, Ys, Yt, Yu, Yv, Yw, Yx, Yy, Yz, Y10, Y11, Y12, Y13, Y14, Y15, Y16, Y17, Y18, Y19, Y1a, Y1b, Y1c, Y1d, Y1e, Y1f, Y1g, Y1h, Y1i, Y1j, Y1k, Y1l, AV.cells?, Y1n, Y1o, Y1p, Y1q, Y1r, Y1s, Y1t, Nat.reduceAdd, Nat.reduceMul, Y1w, Y1x, Y1y, Y1z, Y20, Y21, Y22, Y23, Y24, Y25, Y26, Y27, Y28, Y29, Y2a, Y2b, Nat.reduceLT]
        exact fin _ _ _ _ _ _ hx' hy'
    · refine wNewS.TS 5 (l := []) rfl (.refl _) rfl rfl ?_
      simp only [Y0, Y1, Y2, Y3, Y4, Y5, Y6, Y7, Y8, Y9, Ya, Yb, Yc, Yd, Ye, Yf, Yg, Yh, Yi, Yj, Yk, Yl, Ym, Yn, Yo, Yp, Yq, Yr, Ys, Yt, Yu, Yv, Yw, Yx, Yy, Yz, Y10, Y11, Y12, Y13, Y14, Y15, Y16, Y17, Y18, Y19, Y1a, Y1b, Y1c, Y1d, Y1e, Y1f, Y1g, Y1h, Y1i, Y1j, Y1k, Y1l, AV.cells?, Y1n, Y1o, Y1p, Y1q, Y1r, Y1s, Y1t, Nat.reduceAdd, Nat.reduceMul, Y1w, Y1x, Y1y, Y1z, Y20, Y21, Y22, Y23, Y24, Y25, Y26, Y27, Y28, Y29, Y2a, Y2b, row_get hst2, and_self, true_and]
      refine wNewS.F (l := [t9]) (l' := [LI (pre.map fun y => cell l y.toNat)]) (by simp [fillA_one h9.scalar, fillA_nil]) (.one hsub) rfl ?_
      simp only [Y0, Y1, Y2, Y3, Y4, Y5, Y6, Y7, Y8, Y9, Ya, Yb, Yc, Yd, Ye, Yf, Yg, Yh, Yi, Yj, Yk, Yl, Ym, Yn, Yo, Yp, Yq, Yr, Ys, Yt, Yu, Yv, Yw, Yx, Yy, Yz, Y10, Y11, Y12, Y13, Y14, Y15, Y16, Y17, Y18, Y19, Y1a, Y1b, Y1c, Y1d, Y1e, Y1f, Y1g, Y1h, Y1i, Y1j, Y1k, Y1l, AV.cells?, Y1n, Y1o, Y1p, Y1q, Y1r, Y1s, Y1t, Nat.reduceAdd, Nat.reduceMul, Y1w, Y1x, Y1y, Y1z, Y20, Y21, Y22, Y23, Y24, Y25, Y26, Y27, Y28, Y29, Y2a, Y2b, row_get hst2, and_self, true_and]
      refine wApp.one (bytes := 24) hx rfl htl (.refl _) (LI_scalar _) (by simp [mostBytes]; omega) fun z2' x' c' hx' => ?_
      simp only [Y0, Y1, Y2, Y3, Y4, Y5, Y6, Y7, Y8, Y9, Ya, Yb, Yc, Yd, Ye, Yf, Yg, Yh, Yi, Yj, Yk, Yl, Ym, Yn, Yo, Yp, Yq, Yr, Ys, Yt, Yu, Yv, Yw, Yx, Yy, Yz, Y10, Y11, Y12, Y13, Y14, Y15, Y16, Y17, Y18, Y19, Y1a, Y1b, Y1c, Y1d, Y1e, Y1f, Y1g, Y1h, Y1i, Y1j, Y1k, Y1l, AV.cells?, Y1n, Y1o, Y1p, Y1q, Y1r, Y1s, Y1t, Nat.reduceAdd, Nat.reduceMul, Y1w, Y1x, Y1y, Y1z, Y20, Y21, Y22, Y23, Y24, Y25, Y26, Y27, Y28, Y29, Y2a, Y2b, row_get hst2, and_self, true_and]
      refine wApp.gr (bytes := 8) (m := (row t.tells s).length) (new := (row t.tells s).map fun z => Z z) .mk rfl rfl (by simp [LI, Lm, cellsOfA, subL, List.take_of_length_le]) (.refl _) (by simp [AV.scalar]) (by simp [mostBytes]; omega) fun z5' x5 c5 h5 => ?_
      simp only [Y0, Y1, Y2, Y3, Y4, Y5, Y6, Y7, Y8, Y9, Ya, Yb, Yc, Yd, Ye, Yf, Yg, Yh, Yi, Yj, Yk, Yl, Ym, Yn, Yo, Yp, Yq, Yr, Ys, Yt, Yu, Yv, Yw, Yx, Yy, Yz, Y10, Y11, Y12, Y13, Y14, Y15, Y16, Y17, Y18, Y19, Y1a, Y1b, Y1c, Y1d, Y1e, Y1f, Y1g, Y1h, Y1i, Y1j, Y1k, Y1l, AV.cells?, Y1n, Y1o, Y1p, Y1q, Y1r, Y1s, Y1t, Nat.reduceAdd, Nat.reduceMul, Y1w, Y1x, Y1y, Y1z, Y20, Y21, Y22, Y23, Y24, Y25, Y26, Y27, Y28, Y29, Y2a, Y2b, row_get hst2, and_self, true_and]
      refine wNewS.F (l := [x5]) (l' := [LI (row t.tells s)]) (by simp [fillA_one h5.scalar, fillA_nil]) (.one (h5sub h5)) rfl ?_
      simp only [Y0, Y1, Y2, Y3, Y4, Y5, Y6, Y7, Y8, Y9, Ya, Yb, Yc, Yd, Ye, Yf, Yg, Yh, Yi, Yj, Yk, Yl, Ym, Yn, Yo, Yp, Yq, Yr, Ys, Yt, Yu, Yv, Yw, Yx, Yy, Yz, Y10, Y11, Y12, Y13, Y14, Y15, Y16, Y17, Y18, Y19, Y1a, Y1b, Y1c, Y1d, Y1e, Y1f, Y1g, Y1h, Y1i, Y1j, Y1k, Y1l, AV.cells?, Y1n, Y1o, Y1p, Y1q, Y1r, Y1s, Y1t, Nat.reduceAdd, Nat.reduceMul, Y1w, Y1x, Y1y, Y1z, Y20, Y21, Y22, Y23, Y24, Y25, Y26, Y27, Y28, Y29, Y2a, Y2b, row_get hst2, and_self, true_and]
      refine wApp.one (bytes := 24) hy rfl htl2 (.refl _) (LI_scalar _) (by simp [mostBytes]; omega) fun z3' y' c'' hy' => ?_
      simp only [Y0, Y1, Y2, Y3, Y4, Y5, Y6, Y7, Y8, Y9, Ya, Yb, Yc, Yd, Ye, Yf, Yg, Yh, Yi, Yj, Yk, Yl, Ym, Yn, Yo, Yp, Yq, Yr, Ys, Yt, Yu, Yv, Yw, Yx, Yy, Yz, Y10, Y11, Y12, Y13, Y14, Y15, Y16, Y17, Y18, Y19, Y1a, Y1b, Y1c, Y1d, Y1e, Y1f, Y1g, Y1h, Y1i, Y1j, Y1k, Y1l, AV.cells?, Y1n, Y1o, Y1p, Y1q, Y1r, Y1s, Y1t, Nat.reduceAdd, Nat.reduceMul, Y1w, Y1x, Y1y, Y1z, Y20, Y21, Y22, Y23, Y24, Y25, Y26, Y27, Y28, Y29, Y2a, Y2b]
      rw [store1_L hx'.scalar]
      simp only [Y0, Y1, Y2, Y3, Y4, Y5, Y6, Y7, Y8, Y9, Ya, Yb, Yc, Yd, Ye, Yf, Yg, Yh, Yi, Yj, Yk, Yl, Ym, Yn, Yo, Yp, Yq, Yr, Ys, Yt, Yu, Yv, Yw, Yx, Yy, Yz, Y10, Y11, Y12, Y13, Y14, Y15, Y16, Y17, Y18, Y19, Y1a, Y1b, Y1c, Y1d, Y1e, Y1f, Y1g, Y1h, Y1i, Y1j, Y1k, Y1l, AV.cells?, Y1n, Y1o, Y1p, Y1q, Y1r, Y1s, Y1t, Nat.reduceAdd, Nat.reduceMul, Y1w, Y1x, Y1y, Y1z, Y20, Y21, Y22, Y23, Y24, Y25, Y26, Y27, Y28, Y29, Y2a, Y2b, Nat.reduceLT]
      rw [store1_L hy'.scalar]
      simp only [Y0, Y1, Y2, Y3, Y4, Y5, Y6, Y7, Y8, Y9, Ya, Yb, Yc, Yd, Ye, Yf, Yg, Yh, Yi, Yj, Yk, Yl, Ym, Yn, Yo, Yp, Yq, Yr, Ys, Yt, Yu, Yv, Yw, Yx, Yy, Yz, Y10, Y11, Y12, Y13, Y14, Y15, Y16, Y17, Y18, Y19, Y1a, Y1b, Y1c, Y1d, Y1e, Y1f, Y1g, Y1h, Y1i, Y1j, Y1k, Y1l, AV.cells?, Y1n, Y1o, Y1p, Y1q, Y1r, Y1s, Y1t, Nat.reduceAdd, Nat.reduceMul, Y1w, Y1x, Y1y, Y1z, Y20, Y21, Y22, Y23, Y24, Y25, Y26, Y27, Y28, Y29, Y2a, Y2b, Nat.reduceLT]
      exact fin _ _ _ _ _ _ hx' hy'
end
end Go.Sc
