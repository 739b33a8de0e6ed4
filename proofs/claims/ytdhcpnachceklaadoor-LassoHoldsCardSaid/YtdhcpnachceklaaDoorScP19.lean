/-
  CONTRACTS: the law's formula of plain steps, with its size and depth.
-/
import Derived.Test.YtdhcpnachceklaaDoorScP18
namespace Go.Sc
open Go
set_option linter.unusedSimpArgs false
set_option linter.unusedVariables false
set_option linter.unnecessarySimpa false

theorem min_is {a : Nat} : minA false (Z a) (.val (.int .i64 1000000)) = some (Z ((min a 1000000 : Nat) : Int)) := by
  simp only [minA, if_true, Bool.false_eq_true, if_false]
  by_cases h : (1000000 : Int) < a
  · rw [if_pos h]; congr 3; omega
  · rw [if_neg h]; congr 3; omega
/-- what is known of the formulas so far -/
def AllOk (all : List Fm) (ss ds : List Nat) : Prop := ss.length = all.length ∧ ds.length = all.length ∧ ∀ j, j < all.length → wf (ds.getD j 0) (all.getD j .nil) ∧ 1 ≤ ds.getD j 0 ∧ ds.getD j 0 ≤ j + 1 ∧ ss.getD j 0 = min (all.getD j .nil).sz 1000000
theorem AllOk.snoc {all : List Fm} {ss ds : List Nat} (h : AllOk all ss ds) {f : Fm} {s d : Nat} (hw : wf d f) (h1 : 1 ≤ d) (h2 : d ≤ all.length + 1) (hs : s = min f.sz 1000000) : AllOk (all ++ [f]) (ss ++ [s]) (ds ++ [d]) := by
  obtain ⟨q1, q2, q3⟩ := h
  refine ⟨by simp [q1], by simp [q2], fun j hj => ?_⟩
  simp only [List.length_append, List.length_singleton] at hj
  by_cases e : j < all.length
  · have := q3 j e
    simp only [List.getD, List.getElem?_append_left (show j < ds.length by omega), List.getElem?_append_left e, List.getElem?_append_left (show j < ss.length by omega)] at this ⊢
    exact this
  · have : j = all.length := by omega
    subst this
    have e1 : (ds ++ [d]).getD all.length 0 = d := by rw [← q2]; simp [List.getD]
    have e2 : (ss ++ [s]).getD all.length 0 = s := by rw [← q1]; simp [List.getD]
    have e3 : (all ++ [f]).getD all.length .nil = f := by simp [List.getD]
    rw [e1, e2, e3]
    exact ⟨hw, h1, h2, hs⟩
theorem natAt {l : List Nat} {i : Nat} (h : i < l.length) : (l.map fun n : Nat => Z (n : Int))[i]? = some (Z ((l.getD i 0 : Nat) : Int)) := by
  simp [List.getD, List.getElem?_eq_getElem h]
def FormR (l : List St) (r : AV) : Prop :=
  if 40 < l.length then r = .tup [nilP, Z 0, Bo false] else ∃ s d : Nat, r = .tup [(formF l).enc, Z s, Bo (decide ((d : Int) ≤ 20))] ∧ s = min (formF l).sz 1000000 ∧ wf d (formF l)
section
variable {E : Env} {P : Program}
set_option maxHeartbeats 2000000 in
theorem formula_spec (hA : Body2 E P 30 F.plain_At) (hB : Body1 E P 92 F.law_formula) (hAt : ∀ (a : Int) (n : Nat), 0 < n → n < 4611686018427387904 → FX E P 30 [Z a, Z n] (Z (atN a n))) (l : List St) (hls : ∀ x ∈ l, x.s.length < 140737488355328) : FR E P 92 [ST l] (FormR l) := by
  refine FR.of (by simp [ST, AV.closedL, AV.closed, St.closedL]) (fun r hr => ?_) fun n R hR => hB _ _ _ ?_
  · unfold FormR at hr
    split at hr
    · subst hr; simp [AV.closed, AV.closedL]
    · obtain ⟨s, d, rfl, _⟩ := hr; simp [AV.closed, AV.closedL, Fm.closed]
  unfold F.law_formula
  simp only [Y0, Y1, Y2, Y3, Y4, Y5, Y6, Y7, Y8, Y9, Ya, Yb, Yc, Yd, Ye, Yf, Yg, Yh, Yi, Yj, Yk, Yl, Ym, Yn, Yo, Yp, Yq, Yr, Ys, Yt, Yu, Yv, Yw, Yx, Yy, Yz, Y10, Y11, Y12, Y13, Y14, Y15, Y16, Y17, Y18, Y19, Y1a, Y1b, Y1c, Y1d, Y1e, Y1f, Y1g, Y1h, Y1i, Y1j, Y1k, Y1l, AV.cells?, Y1n, Y1o, Y1p, Y1q, Y1r, Y1s, Y1t, Nat.reduceAdd, Nat.reduceMul, Y1w, Y1x, Y1y, Y1z, Y20, Y21, Y22, Y23, Y24, Y25, Y26, Y27, Y28, Y29, Y2a, Y2b, show lenA (ST l) = some (Z (l.length : Int)) from rfl]
  by_cases h40 : (40 : Int) < l.length
  · simp only [Y0, Y1, Y2, Y3, Y4, Y5, Y6, Y7, Y8, Y9, Ya, Yb, Yc, Yd, Ye, Yf, Yg, Yh, Yi, Yj, Yk, Yl, Ym, Yn, Yo, Yp, Yq, Yr, Ys, Yt, Yu, Yv, Yw, Yx, Yy, Yz, Y10, Y11, Y12, Y13, Y14, Y15, Y16, Y17, Y18, Y19, Y1a, Y1b, Y1c, Y1d, Y1e, Y1f, Y1g, Y1h, Y1i, Y1j, Y1k, Y1l, AV.cells?, Y1n, Y1o, Y1p, Y1q, Y1r, Y1s, Y1t, Nat.reduceAdd, Nat.reduceMul, Y1w, Y1x, Y1y, Y1z, Y20, Y21, Y22, Y23, Y24, Y25, Y26, Y27, Y28, Y29, Y2a, Y2b, decide_eq_true h40]
    exact hR _ _ _ (.same _) (by unfold FormR; rw [if_pos (by omega)])
  simp only [Y0, Y1, Y2, Y3, Y4, Y5, Y6, Y7, Y8, Y9, Ya, Yb, Yc, Yd, Ye, Yf, Yg, Yh, Yi, Yj, Yk, Yl, Ym, Yn, Yo, Yp, Yq, Yr, Ys, Yt, Yu, Yv, Yw, Yx, Yy, Yz, Y10, Y11, Y12, Y13, Y14, Y15, Y16, Y17, Y18, Y19, Y1a, Y1b, Y1c, Y1d, Y1e, Y1f, Y1g, Y1h, Y1i, Y1j, Y1k, Y1l, AV.cells?, Y1n, Y1o, Y1p, Y1q, Y1r, Y1s, Y1t, Nat.reduceAdd, Nat.reduceMul, Y1w, Y1x, Y1y, Y1z, Y20, Y21, Y22, Y23, Y24, Y25, Y26, Y27, Y28, Y29, Y2a, Y2b, decide_eq_false h40]
  refine ⟨⟨[Z 2, S [], nilS], rfl, ?_⟩⟩
  refine wNew.F (l := [Z 2, S [], nilS]) (l' := [Z 2, S [], .slN (Fm.encL []) 0]) rfl (.cons (.refl _) (.cons (.refl _) (.one .nil))) ?_
  refine wNewS.T (l := [(Fm.mk 2 [] []).enc]) rfl (.refl _) rfl ?_
  refine wNewS.T (l := [Z 1]) rfl (.refl _) rfl ?_
  refine wNewS.T (l := [Z 1]) rfl (.refl _) rfl ?_
  simp only [Y0, Y1, Y2, Y3, Y4, Y5, Y6, Y7, Y8, Y9, Ya, Yb, Yc, Yd, Ye, Yf, Yg, Yh, Yi, Yj, Yk, Yl, Ym, Yn, Yo, Yp, Yq, Yr, Ys, Yt, Yu, Yv, Yw, Yx, Yy, Yz, Y10, Y11, Y12, Y13, Y14, Y15, Y16, Y17, Y18, Y19, Y1a, Y1b, Y1c, Y1d, Y1e, Y1f, Y1g, Y1h, Y1i, Y1j, Y1k, Y1l, AV.cells?, Y1n, Y1o, Y1p, Y1q, Y1r, Y1s, Y1t, Nat.reduceAdd, Nat.reduceMul, Y1w, Y1x, Y1y, Y1z, Y20, Y21, Y22, Y23, Y24, Y25, Y26, Y27, Y28, Y29, Y2a, Y2b]
  refine wLoop.four (fun m t5 t6 t7 i H => ∃ pre rest z0 z1 z2 all ss ds, l = pre ++ rest ∧ i = Z pre.length ∧ m = rest.length ∧ H.bs = [z0, z1, z2, .dead, .dead] ∧ Gr 1 z0 0 t5 (all.map Fm.enc) all.length ∧ Gr 1 z1 1 t6 (ss.map fun n : Nat => Z (n : Int)) all.length ∧ Gr 1 z2 2 t7 (ds.map fun n : Nat => Z (n : Int)) all.length ∧ all.length = pre.length + 1 ∧ AllOk all ss ds ∧ formAll l [.mk 2 [] []] = formAll rest all) l.length
    (gh4.of (ghost_room [.dead, .dead] (by simp)) ⟨[], l, _, _, _, [.mk 2 [] []], [1], [1], rfl, rfl, rfl, rfl, .mk, .mk, .mk, rfl, ?_, rfl⟩) ?_
  · refine ⟨rfl, rfl, fun j hj => ?_⟩
    have : j = 0 := by simpa using hj
    subst this
    refine ⟨by simp [wf, badKind, arity], by simp, by simp, by simp [Fm.sz, Fm.szL]⟩
  rintro m t5 t6 t7 i ⟨bs, c⟩ ⟨pre, rest, z0, z1, z2, all, ss, ds, rfl, rfl, rfl, hbs, g5, g6, g7, hal, hok, hf⟩
  simp only at hbs
  subst hbs
  obtain ⟨q1, q2, q3⟩ := hok
  simp only [Y0, Y1, Y2, Y3, Y4, Y5, Y6, Y7, Y8, Y9, Ya, Yb, Yc, Yd, Ye, Yf, Yg, Yh, Yi, Yj, Yk, Yl, Ym, Yn, Yo, Yp, Yq, Yr, Ys, Yt, Yu, Yv, Yw, Yx, Yy, Yz, Y10, Y11, Y12, Y13, Y14, Y15, Y16, Y17, Y18, Y19, Y1a, Y1b, Y1c, Y1d, Y1e, Y1f, Y1g, Y1h, Y1i, Y1j, Y1k, Y1l, AV.cells?, Y1n, Y1o, Y1p, Y1q, Y1r, Y1s, Y1t, Nat.reduceAdd, Nat.reduceMul, Y1w, Y1x, Y1y, Y1z, Y20, Y21, Y22, Y23, Y24, Y25, Y26, Y27, Y28, Y29, Y2a, Y2b, show lenA (ST (pre ++ rest)) = some (Z ((pre ++ rest).length : Int)) from rfl]
  cases rest with
  | nil =>
    simp only [List.append_nil] at hR hf h40 ⊢
    simp only [Y0, Y1, Y2, Y3, Y4, Y5, Y6, Y7, Y8, Y9, Ya, Yb, Yc, Yd, Ye, Yf, Yg, Yh, Yi, Yj, Yk, Yl, Ym, Yn, Yo, Yp, Yq, Yr, Ys, Yt, Yu, Yv, Yw, Yx, Yy, Yz, Y10, Y11, Y12, Y13, Y14, Y15, Y16, Y17, Y18, Y19, Y1a, Y1b, Y1c, Y1d, Y1e, Y1f, Y1g, Y1h, Y1i, Y1j, Y1k, Y1l, AV.cells?, Y1n, Y1o, Y1p, Y1q, Y1r, Y1s, Y1t, Nat.reduceAdd, Nat.reduceMul, Y1w, Y1x, Y1y, Y1z, Y20, Y21, Y22, Y23, Y24, Y25, Y26, Y27, Y28, Y29, Y2a, Y2b, Int.lt_irrefl, g5.len]
    rw [binA_sub (by omega)]
    simp only [Y0, Y1, Y2, Y3, Y4, Y5, Y6, Y7, Y8, Y9, Ya, Yb, Yc, Yd, Ye, Yf, Yg, Yh, Yi, Yj, Yk, Yl, Ym, Yn, Yo, Yp, Yq, Yr, Ys, Yt, Yu, Yv, Yw, Yx, Yy, Yz, Y10, Y11, Y12, Y13, Y14, Y15, Y16, Y17, Y18, Y19, Y1a, Y1b, Y1c, Y1d, Y1e, Y1f, Y1g, Y1h, Y1i, Y1j, Y1k, Y1l, AV.cells?, Y1n, Y1o, Y1p, Y1q, Y1r, Y1s, Y1t, Nat.reduceAdd, Nat.reduceMul, Y1w, Y1x, Y1y, Y1z, Y20, Y21, Y22, Y23, Y24, Y25, Y26, Y27, Y28, Y29, Y2a, Y2b]
    have e : ((all.length : Int) - 1).toNat * 1 = all.length - 1 := by omega
    rw [g5.at (by omega)]
    simp only [Y0, Y1, Y2, Y3, Y4, Y5, Y6, Y7, Y8, Y9, Ya, Yb, Yc, Yd, Ye, Yf, Yg, Yh, Yi, Yj, Yk, Yl, Ym, Yn, Yo, Yp, Yq, Yr, Ys, Yt, Yu, Yv, Yw, Yx, Yy, Yz, Y10, Y11, Y12, Y13, Y14, Y15, Y16, Y17, Y18, Y19, Y1a, Y1b, Y1c, Y1d, Y1e, Y1f, Y1g, Y1h, Y1i, Y1j, Y1k, Y1l, AV.cells?, Y1n, Y1o, Y1p, Y1q, Y1r, Y1s, Y1t, Nat.reduceAdd, Nat.reduceMul, Y1w, Y1x, Y1y, Y1z, Y20, Y21, Y22, Y23, Y24, Y25, Y26, Y27, Y28, Y29, Y2a, Y2b, e]
    rw [map_getD (by omega)]
    simp only [Y0, Y1, Y2, Y3, Y4, Y5, Y6, Y7, Y8, Y9, Ya, Yb, Yc, Yd, Ye, Yf, Yg, Yh, Yi, Yj, Yk, Yl, Ym, Yn, Yo, Yp, Yq, Yr, Ys, Yt, Yu, Yv, Yw, Yx, Yy, Yz, Y10, Y11, Y12, Y13, Y14, Y15, Y16, Y17, Y18, Y19, Y1a, Y1b, Y1c, Y1d, Y1e, Y1f, Y1g, Y1h, Y1i, Y1j, Y1k, Y1l, AV.cells?, Y1n, Y1o, Y1p, Y1q, Y1r, Y1s, Y1t, Nat.reduceAdd, Nat.reduceMul, Y1w, Y1x, Y1y, Y1z, Y20, Y21, Y22, Y23, Y24, Y25, Y26, Y27, Y28, Y29, Y2a, Y2b]
    rw [g6.at (by omega)]
    simp only [Y0, Y1, Y2, Y3, Y4, Y5, Y6, Y7, Y8, Y9, Ya, Yb, Yc, Yd, Ye, Yf, Yg, Yh, Yi, Yj, Yk, Yl, Ym, Yn, Yo, Yp, Yq, Yr, Ys, Yt, Yu, Yv, Yw, Yx, Yy, Yz, Y10, Y11, Y12, Y13, Y14, Y15, Y16, Y17, Y18, Y19, Y1a, Y1b, Y1c, Y1d, Y1e, Y1f, Y1g, Y1h, Y1i, Y1j, Y1k, Y1l, AV.cells?, Y1n, Y1o, Y1p, Y1q, Y1r, Y1s, Y1t, Nat.reduceAdd, Nat.reduceMul, Y1w, Y1x, Y1y, Y1z, Y20, Y21, Y22, Y23, Y24, Y25, Y26, Y27, Y28, Y29, Y2a, Y2b, e]
    rw [natAt (by omega)]
    simp only [Y0, Y1, Y2, Y3, Y4, Y5, Y6, Y7, Y8, Y9, Ya, Yb, Yc, Yd, Ye, Yf, Yg, Yh, Yi, Yj, Yk, Yl, Ym, Yn, Yo, Yp, Yq, Yr, Ys, Yt, Yu, Yv, Yw, Yx, Yy, Yz, Y10, Y11, Y12, Y13, Y14, Y15, Y16, Y17, Y18, Y19, Y1a, Y1b, Y1c, Y1d, Y1e, Y1f, Y1g, Y1h, Y1i, Y1j, Y1k, Y1l, AV.cells?, Y1n, Y1o, Y1p, Y1q, Y1r, Y1s, Y1t, Nat.reduceAdd, Nat.reduceMul, Y1w, Y1x, Y1y, Y1z, Y20, Y21, Y22, Y23, Y24, Y25, Y26, Y27, Y28, Y29, Y2a, Y2b]
    rw [g7.at (by omega)]
    simp only [Y0, Y1, Y2, Y3, Y4, Y5, Y6, Y7, Y8, Y9, Ya, Yb, Yc, Yd, Ye, Yf, Yg, Yh, Yi, Yj, Yk, Yl, Ym, Yn, Yo, Yp, Yq, Yr, Ys, Yt, Yu, Yv, Yw, Yx, Yy, Yz, Y10, Y11, Y12, Y13, Y14, Y15, Y16, Y17, Y18, Y19, Y1a, Y1b, Y1c, Y1d, Y1e, Y1f, Y1g, Y1h, Y1i, Y1j, Y1k, Y1l, AV.cells?, Y1n, Y1o, Y1p, Y1q, Y1r, Y1s, Y1t, Nat.reduceAdd, Nat.reduceMul, Y1w, Y1x, Y1y, Y1z, Y20, Y21, Y22, Y23, Y24, Y25, Y26, Y27, Y28, Y29, Y2a, Y2b, e]
    rw [natAt (by omega)]
    simp only [Y0, Y1, Y2, Y3, Y4, Y5, Y6, Y7, Y8, Y9, Ya, Yb, Yc, Yd, Ye, Yf, Yg, Yh, Yi, Yj, Yk, Yl, Ym, Yn, Yo, Yp, Yq, Yr, Ys, Yt, Yu, Yv, Yw, Yx, Yy, Yz, Y10, Y11, Y12, Y13, Y14, Y15, Y16, Y17, Y18, Y19, Y1a, Y1b, Y1c, Y1d, Y1e, Y1f, Y1g, Y1h, Y1i, Y1j, Y1k, Y1l, AV.cells?, Y1n, Y1o, Y1p, Y1q, Y1r, Y1s, Y1t, Nat.reduceAdd, Nat.reduceMul, Y1w, Y1x, Y1y, Y1z, Y20, Y21, Y22, Y23, Y24, Y25, Y26, Y27, Y28, Y29, Y2a, Y2b, and_self, true_and]
    have hlast : formF pre = all.getD (all.length - 1) .nil := by
      unfold formF
      rw [hf]
      simp only [formAll]
      rw [List.getLastD_eq_getLast?, List.getLast?_eq_getElem?]
      rfl
    obtain ⟨w1, w2, w3, w4⟩ := q3 (all.length - 1) (by omega)
    refine hR _ _ _ (.same _) ?_
    unfold FormR
    rw [if_neg (by omega), hlast]
    exact ⟨_, _, rfl, w4, w1⟩
  | cons x rest =>
    have hxs := hls x (by simp)
    simp only [Y0, Y1, Y2, Y3, Y4, Y5, Y6, Y7, Y8, Y9, Ya, Yb, Yc, Yd, Ye, Yf, Yg, Yh, Yi, Yj, Yk, Yl, Ym, Yn, Yo, Yp, Yq, Yr, Ys, Yt, Yu, Yv, Yw, Yx, Yy, Yz, Y10, Y11, Y12, Y13, Y14, Y15, Y16, Y17, Y18, Y19, Y1a, Y1b, Y1c, Y1d, Y1e, Y1f, Y1g, Y1h, Y1i, Y1j, Y1k, Y1l, AV.cells?, Y1n, Y1o, Y1p, Y1q, Y1r, Y1s, Y1t, Nat.reduceAdd, Nat.reduceMul, Y1w, Y1x, Y1y, Y1z, Y20, Y21, Y22, Y23, Y24, Y25, Y26, Y27, Y28, Y29, Y2a, Y2b, decide_eq_true (show (pre.length : Int) < ((pre ++ x :: rest).length : Int) by simp; omega)]
    unfold ST
    rw [iaddr_N (by simp; omega)]
    simp only [Y0, Y1, Y2, Y3, Y4, Y5, Y6, Y7, Y8, Y9, Ya, Yb, Yc, Yd, Ye, Yf, Yg, Yh, Yi, Yj, Yk, Yl, Ym, Yn, Yo, Yp, Yq, Yr, Ys, Yt, Yu, Yv, Yw, Yx, Yy, Yz, Y10, Y11, Y12, Y13, Y14, Y15, Y16, Y17, Y18, Y19, Y1a, Y1b, Y1c, Y1d, Y1e, Y1f, Y1g, Y1h, Y1i, Y1j, Y1k, Y1l, AV.cells?, Y1n, Y1o, Y1p, Y1q, Y1r, Y1s, Y1t, Nat.reduceAdd, Nat.reduceMul, Y1w, Y1x, Y1y, Y1z, Y20, Y21, Y22, Y23, Y24, Y25, Y26, Y27, Y28, Y29, Y2a, Y2b, St.at, St.cells]
    have hall : 0 < all.length := by omega
    have ha := atN_lt (a := x.a) hall
    have hb := atN_lt (a := x.b) hall
    have hm : all.length < 4611686018427387904 := by simp at h40; omega
    have hal40 : all.length ≤ 40 := by simp at h40; omega
    refine wNew.S 3 rfl rfl ?_
    simp only [Y0, Y1, Y2, Y3, Y4, Y5, Y6, Y7, Y8, Y9, Ya, Yb, Yc, Yd, Ye, Yf, Yg, Yh, Yi, Yj, Yk, Yl, Ym, Yn, Yo, Yp, Yq, Yr, Ys, Yt, Yu, Yv, Yw, Yx, Yy, Yz, Y10, Y11, Y12, Y13, Y14, Y15, Y16, Y17, Y18, Y19, Y1a, Y1b, Y1c, Y1d, Y1e, Y1f, Y1g, Y1h, Y1i, Y1j, Y1k, Y1l, AV.cells?, Y1n, Y1o, Y1p, Y1q, Y1r, Y1s, Y1t, Nat.reduceAdd, Nat.reduceMul, Y1w, Y1x, Y1y, Y1z, Y20, Y21, Y22, Y23, Y24, Y25, Y26, Y27, Y28, Y29, Y2a, Y2b]
    rw [storeN_L (n := 4) (xs := [Z x.k, Z x.a, Z x.b, S x.s]) rfl rfl]
    simp only [Y0, Y1, Y2, Y3, Y4, Y5, Y6, Y7, Y8, Y9, Ya, Yb, Yc, Yd, Ye, Yf, Yg, Yh, Yi, Yj, Yk, Yl, Ym, Yn, Yo, Yp, Yq, Yr, Ys, Yt, Yu, Yv, Yw, Yx, Yy, Yz, Y10, Y11, Y12, Y13, Y14, Y15, Y16, Y17, Y18, Y19, Y1a, Y1b, Y1c, Y1d, Y1e, Y1f, Y1g, Y1h, Y1i, Y1j, Y1k, Y1l, AV.cells?, Y1n, Y1o, Y1p, Y1q, Y1r, Y1s, Y1t, Nat.reduceAdd, Nat.reduceMul, Y1w, Y1x, Y1y, Y1z, Y20, Y21, Y22, Y23, Y24, Y25, Y26, Y27, Y28, Y29, Y2a, Y2b, show ∀ a b c d a' b' c' d' : AV, putL [a, b, c, d] 0 [a', b', c', d'] = some [a', b', c', d'] from fun _ _ _ _ _ _ _ _ => rfl, g5.len]
    refine wCall.fx (hAt x.a all.length hall hm) fun n => ?_
    simp only [Y0, Y1, Y2, Y3, Y4, Y5, Y6, Y7, Y8, Y9, Ya, Yb, Yc, Yd, Ye, Yf, Yg, Yh, Yi, Yj, Yk, Yl, Ym, Yn, Yo, Yp, Yq, Yr, Ys, Yt, Yu, Yv, Yw, Yx, Yy, Yz, Y10, Y11, Y12, Y13, Y14, Y15, Y16, Y17, Y18, Y19, Y1a, Y1b, Y1c, Y1d, Y1e, Y1f, Y1g, Y1h, Y1i, Y1j, Y1k, Y1l, AV.cells?, Y1n, Y1o, Y1p, Y1q, Y1r, Y1s, Y1t, Nat.reduceAdd, Nat.reduceMul, Y1w, Y1x, Y1y, Y1z, Y20, Y21, Y22, Y23, Y24, Y25, Y26, Y27, Y28, Y29, Y2a, Y2b, and_self, true_and]
    refine wCall.fx (hAt x.b all.length hall hm) fun n2 => ?_
    simp only [Y0, Y1, Y2, Y3, Y4, Y5, Y6, Y7, Y8, Y9, Ya, Yb, Yc, Yd, Ye, Yf, Yg, Yh, Yi, Yj, Yk, Yl, Ym, Yn, Yo, Yp, Yq, Yr, Ys, Yt, Yu, Yv, Yw, Yx, Yy, Yz, Y10, Y11, Y12, Y13, Y14, Y15, Y16, Y17, Y18, Y19, Y1a, Y1b, Y1c, Y1d, Y1e, Y1f, Y1g, Y1h, Y1i, Y1j, Y1k, Y1l, AV.cells?, Y1n, Y1o, Y1p, Y1q, Y1r, Y1s, Y1t, Nat.reduceAdd, Nat.reduceMul, Y1w, Y1x, Y1y, Y1z, Y20, Y21, Y22, Y23, Y24, Y25, Y26, Y27, Y28, Y29, Y2a, Y2b]
    refine ⟨⟨[Z x.k, S [], nilS], rfl, ?_⟩⟩
    refine wNew.S 4 rfl rfl ?_
    simp only [Y0, Y1, Y2, Y3, Y4, Y5, Y6, Y7, Y8, Y9, Ya, Yb, Yc, Yd, Ye, Yf, Yg, Yh, Yi, Yj, Yk, Yl, Ym, Yn, Yo, Yp, Yq, Yr, Ys, Yt, Yu, Yv, Yw, Yx, Yy, Yz, Y10, Y11, Y12, Y13, Y14, Y15, Y16, Y17, Y18, Y19, Y1a, Y1b, Y1c, Y1d, Y1e, Y1f, Y1g, Y1h, Y1i, Y1j, Y1k, Y1l, AV.cells?, Y1n, Y1o, Y1p, Y1q, Y1r, Y1s, Y1t, Nat.reduceAdd, Nat.reduceMul, Y1w, Y1x, Y1y, Y1z, Y20, Y21, Y22, Y23, Y24, Y25, Y26, Y27, Y28, Y29, Y2a, Y2b]
    obtain ⟨a1, a2, a3, a4⟩ := q3 _ ha
    obtain ⟨b1, b2, b3, b4⟩ := q3 _ hb
    generalize hA : atN x.a all.length = A at *
    generalize hBn : atN x.b all.length = Bn at *
    refine wJoin.two (fun t13 t14 H => ∃ sl k' s' of' s d n', t13 = Z ((s : Nat) : Int) ∧ t14 = Z ((d : Nat) : Int) ∧ H = ⟨[z0, z1, z2, .cells c 4 [Z x.k, Z x.a, Z x.b, S x.s], .cells n2 3 [Z k', S s', sl]], n'⟩ ∧ Sub sl (Lm Fm.enc of') ∧ stepF all x = .mk k' s' of' ∧ wf d (.mk k' s' of') ∧ 1 ≤ d ∧ d ≤ all.length + 1 ∧ min s 1000000 = min (Fm.mk k' s' of').sz 1000000) ?_ ?_
    · by_cases h2 : x.k = 2
      · simp only [Y0, Y1, Y2, Y3, Y4, Y5, Y6, Y7, Y8, Y9, Ya, Yb, Yc, Yd, Ye, Yf, Yg, Yh, Yi, Yj, Yk, Yl, Ym, Yn, Yo, Yp, Yq, Yr, Ys, Yt, Yu, Yv, Yw, Yx, Yy, Yz, Y10, Y11, Y12, Y13, Y14, Y15, Y16, Y17, Y18, Y19, Y1a, Y1b, Y1c, Y1d, Y1e, Y1f, Y1g, Y1h, Y1i, Y1j, Y1k, Y1l, AV.cells?, Y1n, Y1o, Y1p, Y1q, Y1r, Y1s, Y1t, Nat.reduceAdd, Nat.reduceMul, Y1w, Y1x, Y1y, Y1z, Y20, Y21, Y22, Y23, Y24, Y25, Y26, Y27, Y28, Y29, Y2a, Y2b, decide_eq_true h2]
        exact gh2.mk ⟨nilS, x.k, [], [], 1, 1, _, rfl, rfl, rfl, .nil, by simp [stepF, h2], by simp [wf, badKind, arity, h2], by omega, by omega, by simp [Fm.sz, Fm.szL]⟩
      simp only [Y0, Y1, Y2, Y3, Y4, Y5, Y6, Y7, Y8, Y9, Ya, Yb, Yc, Yd, Ye, Yf, Yg, Yh, Yi, Yj, Yk, Yl, Ym, Yn, Yo, Yp, Yq, Yr, Ys, Yt, Yu, Yv, Yw, Yx, Yy, Yz, Y10, Y11, Y12, Y13, Y14, Y15, Y16, Y17, Y18, Y19, Y1a, Y1b, Y1c, Y1d, Y1e, Y1f, Y1g, Y1h, Y1i, Y1j, Y1k, Y1l, AV.cells?, Y1n, Y1o, Y1p, Y1q, Y1r, Y1s, Y1t, Nat.reduceAdd, Nat.reduceMul, Y1w, Y1x, Y1y, Y1z, Y20, Y21, Y22, Y23, Y24, Y25, Y26, Y27, Y28, Y29, Y2a, Y2b, decide_eq_false h2]
      by_cases h1 : one4 x.k
      · have hst : stepF all x = .mk x.k [] [all.getD A .nil] := by simp [stepF, h2, h1, hA]
        have har : badKind x.k [] [all.getD A .nil] = false := by
          rcases h1 with h | h | h | h <;> simp [badKind, arity, h]
        have hwf : wf (ds.getD A 0 + 1) (.mk x.k [] [all.getD A .nil]) := by
          simp only [wf]
          exact ⟨har, by simp, fun y hy => by simp at hy; subst hy; exact a1⟩
        have go : gh2 (fun t13 t14 H => ∃ sl k' s' of' s d n', t13 = Z ((s : Nat) : Int) ∧ t14 = Z ((d : Nat) : Int) ∧ H = ⟨[z0, z1, z2, .cells c 4 [Z x.k, Z x.a, Z x.b, S x.s], .cells n2 3 [Z k', S s', sl]], n'⟩ ∧ Sub sl (Lm Fm.enc of') ∧ stepF all x = .mk k' s' of' ∧ wf d (.mk k' s' of') ∧ 1 ≤ d ∧ d ≤ all.length + 1 ∧ min s 1000000 = min (Fm.mk k' s' of').sz 1000000)
            (Z (1 + ((ss.getD A 0 : Nat) : Int))) (Z (1 + ((ds.getD A 0 : Nat) : Int))) ⟨[z0, z1, z2, .cells c 4 [Z x.k, Z x.a, Z x.b, S x.s], .cells n2 3 [Z x.k, S [], .slN [(all.getD A .nil).enc] 1]], n2 + 1⟩ := by
          refine gh2.mk ⟨_, x.k, [], [all.getD A .nil], 1 + ss.getD A 0, ds.getD A 0 + 1, _, by congr 2, by congr 2; omega, rfl, .refl _, hst, hwf, by omega, by omega, ?_⟩
          rw [a4]; simp only [Fm.sz, Fm.szL]; omega
        have hss : ss.getD A 0 ≤ 1000000 := by rw [a4]; omega
        rcases h1 with h | h | h | h <;> (simp only [Y0, Y1, Y2, Y3, Y4, Y5, Y6, Y7, Y8, Y9, Ya, Yb, Yc, Yd, Ye, Yf, Yg, Yh, Yi, Yj, Yk, Yl, Ym, Yn, Yo, Yp, Yq, Yr, Ys, Yt, Yu, Yv, Yw, Yx, Yy, Yz, Y10, Y11, Y12, Y13, Y14, Y15, Y16, Y17, Y18, Y19, Y1a, Y1b, Y1c, Y1d, Y1e, Y1f, Y1g, Y1h, Y1i, Y1j, Y1k, Y1l, AV.cells?, Y1n, Y1o, Y1p, Y1q, Y1r, Y1s, Y1t, Nat.reduceAdd, Nat.reduceMul, Y1w, Y1x, Y1y, Y1z, Y20, Y21, Y22, Y23, Y24, Y25, Y26, Y27, Y28, Y29, Y2a, Y2b, h, show decide ((3 : Int) = 3) = true from rfl, show decide ((6 : Int) = 3) = false from rfl, show decide ((6 : Int) = 6) = true from rfl, show decide ((9 : Int) = 3) = false from rfl, show decide ((9 : Int) = 6) = false from rfl, show decide ((9 : Int) = 9) = true from rfl, show decide ((10 : Int) = 3) = false from rfl, show decide ((10 : Int) = 6) = false from rfl, show decide ((10 : Int) = 9) = false from rfl, show decide ((10 : Int) = 10) = true from rfl])
        all_goals
          rw [g5.at (by omega)]
          simp only [Y0, Y1, Y2, Y3, Y4, Y5, Y6, Y7, Y8, Y9, Ya, Yb, Yc, Yd, Ye, Yf, Yg, Yh, Yi, Yj, Yk, Yl, Ym, Yn, Yo, Yp, Yq, Yr, Ys, Yt, Yu, Yv, Yw, Yx, Yy, Yz, Y10, Y11, Y12, Y13, Y14, Y15, Y16, Y17, Y18, Y19, Y1a, Y1b, Y1c, Y1d, Y1e, Y1f, Y1g, Y1h, Y1i, Y1j, Y1k, Y1l, AV.cells?, Y1n, Y1o, Y1p, Y1q, Y1r, Y1s, Y1t, Nat.reduceAdd, Nat.reduceMul, Y1w, Y1x, Y1y, Y1z, Y20, Y21, Y22, Y23, Y24, Y25, Y26, Y27, Y28, Y29, Y2a, Y2b, map_getD ha]
          refine wNewS.F' (l := [(all.getD A .nil).enc]) (by rw [fillA_one (Fm.scalar _) (by simp)]; rfl) rfl ?_
          rw [store1_L rfl]
          simp only [Y0, Y1, Y2, Y3, Y4, Y5, Y6, Y7, Y8, Y9, Ya, Yb, Yc, Yd, Ye, Yf, Yg, Yh, Yi, Yj, Yk, Yl, Ym, Yn, Yo, Yp, Yq, Yr, Ys, Yt, Yu, Yv, Yw, Yx, Yy, Yz, Y10, Y11, Y12, Y13, Y14, Y15, Y16, Y17, Y18, Y19, Y1a, Y1b, Y1c, Y1d, Y1e, Y1f, Y1g, Y1h, Y1i, Y1j, Y1k, Y1l, AV.cells?, Y1n, Y1o, Y1p, Y1q, Y1r, Y1s, Y1t, Nat.reduceAdd, Nat.reduceMul, Y1w, Y1x, Y1y, Y1z, Y20, Y21, Y22, Y23, Y24, Y25, Y26, Y27, Y28, Y29, Y2a, Y2b, Nat.reduceLT]
          rw [g6.at (by omega)]
          simp only [Y0, Y1, Y2, Y3, Y4, Y5, Y6, Y7, Y8, Y9, Ya, Yb, Yc, Yd, Ye, Yf, Yg, Yh, Yi, Yj, Yk, Yl, Ym, Yn, Yo, Yp, Yq, Yr, Ys, Yt, Yu, Yv, Yw, Yx, Yy, Yz, Y10, Y11, Y12, Y13, Y14, Y15, Y16, Y17, Y18, Y19, Y1a, Y1b, Y1c, Y1d, Y1e, Y1f, Y1g, Y1h, Y1i, Y1j, Y1k, Y1l, AV.cells?, Y1n, Y1o, Y1p, Y1q, Y1r, Y1s, Y1t, Nat.reduceAdd, Nat.reduceMul, Y1w, Y1x, Y1y, Y1z, Y20, Y21, Y22, Y23, Y24, Y25, Y26, Y27, Y28, Y29, Y2a, Y2b, natAt (show A < ss.length by omega)]
          rw [binA_add (by omega)]
          simp only [Y0, Y1, Y2, Y3, Y4, Y5, Y6, Y7, Y8, Y9, Ya, Yb, Yc, Yd, Ye, Yf, Yg, Yh, Yi, Yj, Yk, Yl, Ym, Yn, Yo, Yp, Yq, Yr, Ys, Yt, Yu, Yv, Yw, Yx, Yy, Yz, Y10, Y11, Y12, Y13, Y14, Y15, Y16, Y17, Y18, Y19, Y1a, Y1b, Y1c, Y1d, Y1e, Y1f, Y1g, Y1h, Y1i, Y1j, Y1k, Y1l, AV.cells?, Y1n, Y1o, Y1p, Y1q, Y1r, Y1s, Y1t, Nat.reduceAdd, Nat.reduceMul, Y1w, Y1x, Y1y, Y1z, Y20, Y21, Y22, Y23, Y24, Y25, Y26, Y27, Y28, Y29, Y2a, Y2b]
          rw [g7.at (by omega)]
          simp only [Y0, Y1, Y2, Y3, Y4, Y5, Y6, Y7, Y8, Y9, Ya, Yb, Yc, Yd, Ye, Yf, Yg, Yh, Yi, Yj, Yk, Yl, Ym, Yn, Yo, Yp, Yq, Yr, Ys, Yt, Yu, Yv, Yw, Yx, Yy, Yz, Y10, Y11, Y12, Y13, Y14, Y15, Y16, Y17, Y18, Y19, Y1a, Y1b, Y1c, Y1d, Y1e, Y1f, Y1g, Y1h, Y1i, Y1j, Y1k, Y1l, AV.cells?, Y1n, Y1o, Y1p, Y1q, Y1r, Y1s, Y1t, Nat.reduceAdd, Nat.reduceMul, Y1w, Y1x, Y1y, Y1z, Y20, Y21, Y22, Y23, Y24, Y25, Y26, Y27, Y28, Y29, Y2a, Y2b, natAt (show A < ds.length by omega)]
          rw [binA_add (by omega)]
          simp only [Y0, Y1, Y2, Y3, Y4, Y5, Y6, Y7, Y8, Y9, Ya, Yb, Yc, Yd, Ye, Yf, Yg, Yh, Yi, Yj, Yk, Yl, Ym, Yn, Yo, Yp, Yq, Yr, Ys, Yt, Yu, Yv, Yw, Yx, Yy, Yz, Y10, Y11, Y12, Y13, Y14, Y15, Y16, Y17, Y18, Y19, Y1a, Y1b, Y1c, Y1d, Y1e, Y1f, Y1g, Y1h, Y1i, Y1j, Y1k, Y1l, AV.cells?, Y1n, Y1o, Y1p, Y1q, Y1r, Y1s, Y1t, Nat.reduceAdd, Nat.reduceMul, Y1w, Y1x, Y1y, Y1z, Y20, Y21, Y22, Y23, Y24, Y25, Y26, Y27, Y28, Y29, Y2a, Y2b, natAt (show A < ds.length by omega), and_self, true_and]
          simp only [h] at go
          exact go
      by_cases h3 : two4 x.k
      · have hst : stepF all x = .mk x.k [] [all.getD A .nil, all.getD Bn .nil] := by simp [stepF, h2, h1, h3, hA, hBn]
        have har : badKind x.k [] [all.getD A .nil, all.getD Bn .nil] = false := by
          rcases h3 with h | h | h | h <;> simp [badKind, arity, h]
        have hwf : wf (max (ds.getD A 0) (ds.getD Bn 0) + 1) (.mk x.k [] [all.getD A .nil, all.getD Bn .nil]) := by
          simp only [wf]
          refine ⟨har, by simp, fun y hy => ?_⟩
          simp only [List.mem_cons, List.not_mem_nil, or_false] at hy
          rcases hy with rfl | rfl
          · exact wf_mono a1 (by omega)
          · exact wf_mono b1 (by omega)
        have go : ∀ qq, gh2 (fun t13 t14 H => ∃ sl k' s' of' s d n', t13 = Z ((s : Nat) : Int) ∧ t14 = Z ((d : Nat) : Int) ∧ H = ⟨[z0, z1, z2, .cells c 4 [Z x.k, Z x.a, Z x.b, S x.s], .cells n2 3 [Z k', S s', sl]], n'⟩ ∧ Sub sl (Lm Fm.enc of') ∧ stepF all x = .mk k' s' of' ∧ wf d (.mk k' s' of') ∧ 1 ≤ d ∧ d ≤ all.length + 1 ∧ min s 1000000 = min (Fm.mk k' s' of').sz 1000000)
            (Z (1 + ((ss.getD A 0 : Nat) : Int) + ((ss.getD Bn 0 : Nat) : Int))) (Z (1 + ((max (ds.getD A 0) (ds.getD Bn 0) : Nat) : Int))) ⟨[z0, z1, z2, .cells c 4 [Z x.k, Z x.a, Z x.b, S x.s], .cells n2 3 [Z x.k, S [], .slN [(all.getD A .nil).enc, (all.getD Bn .nil).enc] 2]], qq⟩ := by
          intro qq
          refine gh2.mk ⟨_, x.k, [], [all.getD A .nil, all.getD Bn .nil], 1 + ss.getD A 0 + ss.getD Bn 0, max (ds.getD A 0) (ds.getD Bn 0) + 1, _, by congr 2, by congr 2; omega, rfl, .refl _, hst, hwf, by omega, by omega, ?_⟩
          rw [a4, b4]; simp only [Fm.sz, Fm.szL]; omega
        have hss : ss.getD A 0 ≤ 1000000 := by rw [a4]; omega
        have hss2 : ss.getD Bn 0 ≤ 1000000 := by rw [b4]; omega
        rcases h3 with h | h | h | h <;> (simp only [Y0, Y1, Y2, Y3, Y4, Y5, Y6, Y7, Y8, Y9, Ya, Yb, Yc, Yd, Ye, Yf, Yg, Yh, Yi, Yj, Yk, Yl, Ym, Yn, Yo, Yp, Yq, Yr, Ys, Yt, Yu, Yv, Yw, Yx, Yy, Yz, Y10, Y11, Y12, Y13, Y14, Y15, Y16, Y17, Y18, Y19, Y1a, Y1b, Y1c, Y1d, Y1e, Y1f, Y1g, Y1h, Y1i, Y1j, Y1k, Y1l, AV.cells?, Y1n, Y1o, Y1p, Y1q, Y1r, Y1s, Y1t, Nat.reduceAdd, Nat.reduceMul, Y1w, Y1x, Y1y, Y1z, Y20, Y21, Y22, Y23, Y24, Y25, Y26, Y27, Y28, Y29, Y2a, Y2b, h, show decide ((4 : Int) = 3) = false from rfl, show decide ((4 : Int) = 6) = false from rfl, show decide ((4 : Int) = 9) = false from rfl, show decide ((4 : Int) = 10) = false from rfl, show decide ((5 : Int) = 3) = false from rfl, show decide ((5 : Int) = 6) = false from rfl, show decide ((5 : Int) = 9) = false from rfl, show decide ((5 : Int) = 10) = false from rfl, show decide ((7 : Int) = 3) = false from rfl, show decide ((7 : Int) = 6) = false from rfl, show decide ((7 : Int) = 9) = false from rfl, show decide ((7 : Int) = 10) = false from rfl, show decide ((8 : Int) = 3) = false from rfl, show decide ((8 : Int) = 6) = false from rfl, show decide ((8 : Int) = 9) = false from rfl, show decide ((8 : Int) = 10) = false from rfl, show decide ((4 : Int) = 4) = true from rfl, show decide ((5 : Int) = 4) = false from rfl, show decide ((5 : Int) = 5) = true from rfl, show decide ((7 : Int) = 4) = false from rfl, show decide ((7 : Int) = 5) = false from rfl, show decide ((7 : Int) = 7) = true from rfl, show decide ((8 : Int) = 4) = false from rfl, show decide ((8 : Int) = 5) = false from rfl, show decide ((8 : Int) = 7) = false from rfl, show decide ((8 : Int) = 8) = true from rfl])
        all_goals
          rw [g5.at (by omega)]
          simp only [Y0, Y1, Y2, Y3, Y4, Y5, Y6, Y7, Y8, Y9, Ya, Yb, Yc, Yd, Ye, Yf, Yg, Yh, Yi, Yj, Yk, Yl, Ym, Yn, Yo, Yp, Yq, Yr, Ys, Yt, Yu, Yv, Yw, Yx, Yy, Yz, Y10, Y11, Y12, Y13, Y14, Y15, Y16, Y17, Y18, Y19, Y1a, Y1b, Y1c, Y1d, Y1e, Y1f, Y1g, Y1h, Y1i, Y1j, Y1k, Y1l, AV.cells?, Y1n, Y1o, Y1p, Y1q, Y1r, Y1s, Y1t, Nat.reduceAdd, Nat.reduceMul, Y1w, Y1x, Y1y, Y1z, Y20, Y21, Y22, Y23, Y24, Y25, Y26, Y27, Y28, Y29, Y2a, Y2b, map_getD ha]
          rw [g5.at (by omega)]
          simp only [Y0, Y1, Y2, Y3, Y4, Y5, Y6, Y7, Y8, Y9, Ya, Yb, Yc, Yd, Ye, Yf, Yg, Yh, Yi, Yj, Yk, Yl, Ym, Yn, Yo, Yp, Yq, Yr, Ys, Yt, Yu, Yv, Yw, Yx, Yy, Yz, Y10, Y11, Y12, Y13, Y14, Y15, Y16, Y17, Y18, Y19, Y1a, Y1b, Y1c, Y1d, Y1e, Y1f, Y1g, Y1h, Y1i, Y1j, Y1k, Y1l, AV.cells?, Y1n, Y1o, Y1p, Y1q, Y1r, Y1s, Y1t, Nat.reduceAdd, Nat.reduceMul, Y1w, Y1x, Y1y, Y1z, Y20, Y21, Y22, Y23, Y24, Y25, Y26, Y27, Y28, Y29, Y2a, Y2b, map_getD hb]
          refine wNewS.F' (l := [(all.getD A .nil).enc, (all.getD Bn .nil).enc]) (by rw [fillA_one (Fm.scalar _) (by simp), fillA_one (Fm.scalar _) (by simp)]; rfl) rfl ?_
          rw [store1_L rfl]
          simp only [Y0, Y1, Y2, Y3, Y4, Y5, Y6, Y7, Y8, Y9, Ya, Yb, Yc, Yd, Ye, Yf, Yg, Yh, Yi, Yj, Yk, Yl, Ym, Yn, Yo, Yp, Yq, Yr, Ys, Yt, Yu, Yv, Yw, Yx, Yy, Yz, Y10, Y11, Y12, Y13, Y14, Y15, Y16, Y17, Y18, Y19, Y1a, Y1b, Y1c, Y1d, Y1e, Y1f, Y1g, Y1h, Y1i, Y1j, Y1k, Y1l, AV.cells?, Y1n, Y1o, Y1p, Y1q, Y1r, Y1s, Y1t, Nat.reduceAdd, Nat.reduceMul, Y1w, Y1x, Y1y, Y1z, Y20, Y21, Y22, Y23, Y24, Y25, Y26, Y27, Y28, Y29, Y2a, Y2b, Nat.reduceLT]
          rw [g6.at (by omega)]
          simp only [Y0, Y1, Y2, Y3, Y4, Y5, Y6, Y7, Y8, Y9, Ya, Yb, Yc, Yd, Ye, Yf, Yg, Yh, Yi, Yj, Yk, Yl, Ym, Yn, Yo, Yp, Yq, Yr, Ys, Yt, Yu, Yv, Yw, Yx, Yy, Yz, Y10, Y11, Y12, Y13, Y14, Y15, Y16, Y17, Y18, Y19, Y1a, Y1b, Y1c, Y1d, Y1e, Y1f, Y1g, Y1h, Y1i, Y1j, Y1k, Y1l, AV.cells?, Y1n, Y1o, Y1p, Y1q, Y1r, Y1s, Y1t, Nat.reduceAdd, Nat.reduceMul, Y1w, Y1x, Y1y, Y1z, Y20, Y21, Y22, Y23, Y24, Y25, Y26, Y27, Y28, Y29, Y2a, Y2b, natAt (show A < ss.length by omega)]
          rw [binA_add (by omega)]
          simp only [Y0, Y1, Y2, Y3, Y4, Y5, Y6, Y7, Y8, Y9, Ya, Yb, Yc, Yd, Ye, Yf, Yg, Yh, Yi, Yj, Yk, Yl, Ym, Yn, Yo, Yp, Yq, Yr, Ys, Yt, Yu, Yv, Yw, Yx, Yy, Yz, Y10, Y11, Y12, Y13, Y14, Y15, Y16, Y17, Y18, Y19, Y1a, Y1b, Y1c, Y1d, Y1e, Y1f, Y1g, Y1h, Y1i, Y1j, Y1k, Y1l, AV.cells?, Y1n, Y1o, Y1p, Y1q, Y1r, Y1s, Y1t, Nat.reduceAdd, Nat.reduceMul, Y1w, Y1x, Y1y, Y1z, Y20, Y21, Y22, Y23, Y24, Y25, Y26, Y27, Y28, Y29, Y2a, Y2b]
          rw [g6.at (by omega)]
          simp only [Y0, Y1, Y2, Y3, Y4, Y5, Y6, Y7, Y8, Y9, Ya, Yb, Yc, Yd, Ye, Yf, Yg, Yh, Yi, Yj, Yk, Yl, Ym, Yn, Yo, Yp, Yq, Yr, Ys, Yt, Yu, Yv, Yw, Yx, Yy, Yz, Y10, Y11, Y12, Y13, Y14, Y15, Y16, Y17, Y18, Y19, Y1a, Y1b, Y1c, Y1d, Y1e, Y1f, Y1g, Y1h, Y1i, Y1j, Y1k, Y1l, AV.cells?, Y1n, Y1o, Y1p, Y1q, Y1r, Y1s, Y1t, Nat.reduceAdd, Nat.reduceMul, Y1w, Y1x, Y1y, Y1z, Y20, Y21, Y22, Y23, Y24, Y25, Y26, Y27, Y28, Y29, Y2a, Y2b, natAt (show Bn < ss.length by omega)]
          rw [binA_add (by omega)]
          simp only [Y0, Y1, Y2, Y3, Y4, Y5, Y6, Y7, Y8, Y9, Ya, Yb, Yc, Yd, Ye, Yf, Yg, Yh, Yi, Yj, Yk, Yl, Ym, Yn, Yo, Yp, Yq, Yr, Ys, Yt, Yu, Yv, Yw, Yx, Yy, Yz, Y10, Y11, Y12, Y13, Y14, Y15, Y16, Y17, Y18, Y19, Y1a, Y1b, Y1c, Y1d, Y1e, Y1f, Y1g, Y1h, Y1i, Y1j, Y1k, Y1l, AV.cells?, Y1n, Y1o, Y1p, Y1q, Y1r, Y1s, Y1t, Nat.reduceAdd, Nat.reduceMul, Y1w, Y1x, Y1y, Y1z, Y20, Y21, Y22, Y23, Y24, Y25, Y26, Y27, Y28, Y29, Y2a, Y2b]
          rw [g7.at (by omega)]
          simp only [Y0, Y1, Y2, Y3, Y4, Y5, Y6, Y7, Y8, Y9, Ya, Yb, Yc, Yd, Ye, Yf, Yg, Yh, Yi, Yj, Yk, Yl, Ym, Yn, Yo, Yp, Yq, Yr, Ys, Yt, Yu, Yv, Yw, Yx, Yy, Yz, Y10, Y11, Y12, Y13, Y14, Y15, Y16, Y17, Y18, Y19, Y1a, Y1b, Y1c, Y1d, Y1e, Y1f, Y1g, Y1h, Y1i, Y1j, Y1k, Y1l, AV.cells?, Y1n, Y1o, Y1p, Y1q, Y1r, Y1s, Y1t, Nat.reduceAdd, Nat.reduceMul, Y1w, Y1x, Y1y, Y1z, Y20, Y21, Y22, Y23, Y24, Y25, Y26, Y27, Y28, Y29, Y2a, Y2b, natAt (show A < ds.length by omega)]
          rw [g7.at (by omega)]
          simp only [Y0, Y1, Y2, Y3, Y4, Y5, Y6, Y7, Y8, Y9, Ya, Yb, Yc, Yd, Ye, Yf, Yg, Yh, Yi, Yj, Yk, Yl, Ym, Yn, Yo, Yp, Yq, Yr, Ys, Yt, Yu, Yv, Yw, Yx, Yy, Yz, Y10, Y11, Y12, Y13, Y14, Y15, Y16, Y17, Y18, Y19, Y1a, Y1b, Y1c, Y1d, Y1e, Y1f, Y1g, Y1h, Y1i, Y1j, Y1k, Y1l, AV.cells?, Y1n, Y1o, Y1p, Y1q, Y1r, Y1s, Y1t, Nat.reduceAdd, Nat.reduceMul, Y1w, Y1x, Y1y, Y1z, Y20, Y21, Y22, Y23, Y24, Y25, Y26, Y27, Y28, Y29, Y2a, Y2b, natAt (show Bn < ds.length by omega)]
          refine wOne.mk (Z ((max (ds.getD A 0) (ds.getD Bn 0) : Nat) : Int)) (fun q K' hK => by rw [max_is]; exact ⟨⟨_, rfl, hK q⟩⟩) ?_
          rw [binA_add (by omega)]
          simp only [Y0, Y1, Y2, Y3, Y4, Y5, Y6, Y7, Y8, Y9, Ya, Yb, Yc, Yd, Ye, Yf, Yg, Yh, Yi, Yj, Yk, Yl, Ym, Yn, Yo, Yp, Yq, Yr, Ys, Yt, Yu, Yv, Yw, Yx, Yy, Yz, Y10, Y11, Y12, Y13, Y14, Y15, Y16, Y17, Y18, Y19, Y1a, Y1b, Y1c, Y1d, Y1e, Y1f, Y1g, Y1h, Y1i, Y1j, Y1k, Y1l, AV.cells?, Y1n, Y1o, Y1p, Y1q, Y1r, Y1s, Y1t, Nat.reduceAdd, Nat.reduceMul, Y1w, Y1x, Y1y, Y1z, Y20, Y21, Y22, Y23, Y24, Y25, Y26, Y27, Y28, Y29, Y2a, Y2b]
          refine wOne.mk _ (fun q K' hK => hK q) ?_
          refine wOne.mk _ (fun q K' hK => hK q) ?_
          refine wAll.mk fun q => ?_
          simp only [h] at go
          exact go _
      · have hst : stepF all x = .mk 1 x.s [] := by simp [stepF, h2, h1, h3]
        have hwf : wf 1 (.mk 1 x.s []) := by simp only [wf]; exact ⟨by simp [badKind, arity], hxs, by simp⟩
        simp only [one4, not_or] at h1
        simp only [two4, not_or] at h3
        simp only [Y0, Y1, Y2, Y3, Y4, Y5, Y6, Y7, Y8, Y9, Ya, Yb, Yc, Yd, Ye, Yf, Yg, Yh, Yi, Yj, Yk, Yl, Ym, Yn, Yo, Yp, Yq, Yr, Ys, Yt, Yu, Yv, Yw, Yx, Yy, Yz, Y10, Y11, Y12, Y13, Y14, Y15, Y16, Y17, Y18, Y19, Y1a, Y1b, Y1c, Y1d, Y1e, Y1f, Y1g, Y1h, Y1i, Y1j, Y1k, Y1l, AV.cells?, Y1n, Y1o, Y1p, Y1q, Y1r, Y1s, Y1t, Nat.reduceAdd, Nat.reduceMul, Y1w, Y1x, Y1y, Y1z, Y20, Y21, Y22, Y23, Y24, Y25, Y26, Y27, Y28, Y29, Y2a, Y2b, decide_eq_false h1.1, decide_eq_false h1.2.1, decide_eq_false h1.2.2.1, decide_eq_false h1.2.2.2, decide_eq_false h3.1, decide_eq_false h3.2.1, decide_eq_false h3.2.2.1, decide_eq_false h3.2.2.2]
        rw [store1_L rfl]
        simp only [Y0, Y1, Y2, Y3, Y4, Y5, Y6, Y7, Y8, Y9, Ya, Yb, Yc, Yd, Ye, Yf, Yg, Yh, Yi, Yj, Yk, Yl, Ym, Yn, Yo, Yp, Yq, Yr, Ys, Yt, Yu, Yv, Yw, Yx, Yy, Yz, Y10, Y11, Y12, Y13, Y14, Y15, Y16, Y17, Y18, Y19, Y1a, Y1b, Y1c, Y1d, Y1e, Y1f, Y1g, Y1h, Y1i, Y1j, Y1k, Y1l, AV.cells?, Y1n, Y1o, Y1p, Y1q, Y1r, Y1s, Y1t, Nat.reduceAdd, Nat.reduceMul, Y1w, Y1x, Y1y, Y1z, Y20, Y21, Y22, Y23, Y24, Y25, Y26, Y27, Y28, Y29, Y2a, Y2b, Nat.reduceLT, and_self, true_and]
        rw [store1_L rfl]
        simp only [Y0, Y1, Y2, Y3, Y4, Y5, Y6, Y7, Y8, Y9, Ya, Yb, Yc, Yd, Ye, Yf, Yg, Yh, Yi, Yj, Yk, Yl, Ym, Yn, Yo, Yp, Yq, Yr, Ys, Yt, Yu, Yv, Yw, Yx, Yy, Yz, Y10, Y11, Y12, Y13, Y14, Y15, Y16, Y17, Y18, Y19, Y1a, Y1b, Y1c, Y1d, Y1e, Y1f, Y1g, Y1h, Y1i, Y1j, Y1k, Y1l, AV.cells?, Y1n, Y1o, Y1p, Y1q, Y1r, Y1s, Y1t, Nat.reduceAdd, Nat.reduceMul, Y1w, Y1x, Y1y, Y1z, Y20, Y21, Y22, Y23, Y24, Y25, Y26, Y27, Y28, Y29, Y2a, Y2b, Nat.reduceLT]
        exact gh2.mk ⟨nilS, 1, x.s, [], 1, 1, _, rfl, rfl, rfl, .nil, hst, hwf, by omega, by omega, by simp [Fm.sz, Fm.szL]⟩
    · rintro t13 t14 H ⟨sl, k', s', of', s, d, n', rfl, rfl, rfl, hsl, hst, hwf, hd1, hd2, hs⟩
      refine wNewS.F' (l := [.ptrL 4 0 n2]) rfl rfl ?_
      refine wApp.one (bytes := 8) g5 rfl (by simp) (.refl _) rfl (by simp [mostBytes]; omega) fun z0' x5 c5 g5' => ?_
      simp only [Y0, Y1, Y2, Y3, Y4, Y5, Y6, Y7, Y8, Y9, Ya, Yb, Yc, Yd, Ye, Yf, Yg, Yh, Yi, Yj, Yk, Yl, Ym, Yn, Yo, Yp, Yq, Yr, Ys, Yt, Yu, Yv, Yw, Yx, Yy, Yz, Y10, Y11, Y12, Y13, Y14, Y15, Y16, Y17, Y18, Y19, Y1a, Y1b, Y1c, Y1d, Y1e, Y1f, Y1g, Y1h, Y1i, Y1j, Y1k, Y1l, AV.cells?, Y1n, Y1o, Y1p, Y1q, Y1r, Y1s, Y1t, Nat.reduceAdd, Nat.reduceMul, Y1w, Y1x, Y1y, Y1z, Y20, Y21, Y22, Y23, Y24, Y25, Y26, Y27, Y28, Y29, Y2a, Y2b, min_is]
      refine wNewS.F' (l := [Z ((min s 1000000 : Nat) : Int)]) rfl rfl ?_
      refine wApp.one (bytes := 8) g6 rfl (by simp [q1]) (.refl _) rfl (by simp [mostBytes]; omega) fun z1' x6 c6 g6' => ?_
      simp only [Y0, Y1, Y2, Y3, Y4, Y5, Y6, Y7, Y8, Y9, Ya, Yb, Yc, Yd, Ye, Yf, Yg, Yh, Yi, Yj, Yk, Yl, Ym, Yn, Yo, Yp, Yq, Yr, Ys, Yt, Yu, Yv, Yw, Yx, Yy, Yz, Y10, Y11, Y12, Y13, Y14, Y15, Y16, Y17, Y18, Y19, Y1a, Y1b, Y1c, Y1d, Y1e, Y1f, Y1g, Y1h, Y1i, Y1j, Y1k, Y1l, AV.cells?, Y1n, Y1o, Y1p, Y1q, Y1r, Y1s, Y1t, Nat.reduceAdd, Nat.reduceMul, Y1w, Y1x, Y1y, Y1z, Y20, Y21, Y22, Y23, Y24, Y25, Y26, Y27, Y28, Y29, Y2a, Y2b]
      refine wNewS.F' (l := [Z ((d : Nat) : Int)]) rfl rfl ?_
      refine wApp.one (bytes := 8) g7 rfl (by simp [q2]) (.refl _) rfl (by simp [mostBytes]; omega) fun z2' x7 c7 g7' => ?_
      simp only [Y0, Y1, Y2, Y3, Y4, Y5, Y6, Y7, Y8, Y9, Ya, Yb, Yc, Yd, Ye, Yf, Yg, Yh, Yi, Yj, Yk, Yl, Ym, Yn, Yo, Yp, Yq, Yr, Ys, Yt, Yu, Yv, Yw, Yx, Yy, Yz, Y10, Y11, Y12, Y13, Y14, Y15, Y16, Y17, Y18, Y19, Y1a, Y1b, Y1c, Y1d, Y1e, Y1f, Y1g, Y1h, Y1i, Y1j, Y1k, Y1l, AV.cells?, Y1n, Y1o, Y1p, Y1q, Y1r, Y1s, Y1t, Nat.reduceAdd, Nat.reduceMul, Y1w, Y1x, Y1y, Y1z, Y20, Y21, Y22, Y23, Y24, Y25, Y26, Y27, Y28, Y29, Y2a, Y2b]
      rw [binA_succ (by omega)]
      simp only [Y0, Y1, Y2, Y3, Y4, Y5, Y6, Y7, Y8, Y9, Ya, Yb, Yc, Yd, Ye, Yf, Yg, Yh, Yi, Yj, Yk, Yl, Ym, Yn, Yo, Yp, Yq, Yr, Ys, Yt, Yu, Yv, Yw, Yx, Yy, Yz, Y10, Y11, Y12, Y13, Y14, Y15, Y16, Y17, Y18, Y19, Y1a, Y1b, Y1c, Y1d, Y1e, Y1f, Y1g, Y1h, Y1i, Y1j, Y1k, Y1l, AV.cells?, Y1n, Y1o, Y1p, Y1q, Y1r, Y1s, Y1t, Nat.reduceAdd, Nat.reduceMul, Y1w, Y1x, Y1y, Y1z, Y20, Y21, Y22, Y23, Y24, Y25, Y26, Y27, Y28, Y29, Y2a, Y2b]
      have hp : Fk ⟨[z0', z1', z2', .cells c 4 [Z x.k, Z x.a, Z x.b, S x.s], .cells n2 3 [Z k', S s', sl]], c7⟩ (fun i => i == 3 || i == 4) (.ptrL 4 0 n2) (stepF all x).enc := by
        rw [hst, Fm.enc_mk]
        exact Fk.ptrF 3 rfl rfl (.cons (.same _) (.cons (.same _) (.cons (.sub hsl) .nil)))
      obtain ⟨t'', hg'', hfk⟩ := g5'.fk (FkL.append (FkL.same _) (.cons hp .nil))
      have hgh : Ghost [x5, x6, x7, Z ((pre.length + 1 : Nat) : Int)] ⟨[z0', z1', z2', .cells c 4 [Z x.k, Z x.a, Z x.b, S x.s], .cells n2 3 [Z k', S s', sl]], c7⟩ [t'', x6, x7, Z ((pre.length + 1 : Nat) : Int)] ⟨[z0', z1', z2', .dead, .dead], c7⟩ :=
        ghost_kill (H := ⟨[z0', z1', z2', .cells c 4 [Z x.k, Z x.a, Z x.b, S x.s], .cells n2 3 [Z k', S s', sl]], c7⟩) (H' := ⟨[z0', z1', z2', .dead, .dead], c7⟩) (S := fun i => i == 3 || i == 4) rfl (.keep rfl (KB.same _) (.keep rfl (KB.same _) (.keep rfl (KB.same _) (.dead rfl (.dead rfl .nil))))) (.cons hfk (.cons (.same _) (.cons (.same _) (.cons (.same _) .nil))))
      refine back4.of rest.length (by simp) hgh ⟨pre ++ [x], rest, z0', z1', z2', all ++ [stepF all x], ss ++ [min s 1000000], ds ++ [d], by simp, by simp, rfl, rfl, by simpa using hg'', by simpa using g6', by simpa using g7', by simp; omega, ?_, ?_⟩
      · refine AllOk.snoc ⟨q1, q2, q3⟩ (by rw [hst]; exact hwf) hd1 hd2 (by rw [hst]; exact hs)
      · rw [hf]
        rfl
end
end Go.Sc
