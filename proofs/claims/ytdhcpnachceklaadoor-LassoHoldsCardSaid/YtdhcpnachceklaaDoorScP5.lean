/-
  CONTRACTS: lasso.Holds; lists of truths; and the plain laws of formulas.
-/
import Derived.Test.YtdhcpnachceklaaDoorScP4
namespace Go.Sc
open Go
set_option linter.unusedSimpArgs false
set_option linter.unusedVariables false

def holdE (w : Wd) (f : Fm) : Int := if checkE w = 0 then rightE f else checkE w
open Classical in
noncomputable def holdB (w : Wd) (f : Fm) : List Bool := if holdE w f = 0 then holdsL w f else []
noncomputable def holdA (w : Wd) (f : Fm) : AV := if holdE w f = 0 then LB (holdsL w f) else nilS
theorem holdA_sub (w : Wd) (f : Fm) : Sub (holdA w f) (LB (holdB w f)) := by
  unfold holdA holdB
  split
  · exact .refl _
  · exact .nil
theorem check_ok {w : Wd} (h : checkE w = 0) : 0 < w.round.length ∧ w.n ≤ 60 := by
  unfold checkE at h
  split at h
  · cases h
  · omega
theorem right_ok {f : Fm} (h : rightE f = 0) : (rightF 20 f).2 = 0 ∧ (rightF 20 f).1 ≤ 100 := by
  unfold rightE at h
  split at h
  · contradiction
  · split at h
    · cases h
    · rename_i h1 h2
      exact ⟨by simpa using h1, by omega⟩

section
variable {E : Env} {P : Program}
theorem Holds_spec (B : HoldBodies E P) (hB : Body2 E P 27 F.lasso_Holds) (w : Wd) (hsz : w.sized) (f : Fm) : FX E P 27 [w.enc, f.enc] (.tup [holdA w f, Er (holdE w f)]) := by
  refine FX.of' (by simp [AV.closedL, Wd.closed, Fm.closed]) ?_ fun n R hR => hB _ _ _ _ ?_
  · simp only [AV.closed, AV.closedL, and_true]
    exact ⟨by unfold holdA; split <;> simp [AV.closed, LB_closed], Er_closed _⟩
  unfold F.lasso_Holds
  simp only [Wd.enc]
  refine wNew.F' (l := [LL w.ahead, LL w.round]) rfl ?_
  simp only [Y0, Y1, Y2, Y3, Y4, Y5, Y6, Y7, Y8, Y9, Ya, Yb, Yc, Yd, Ye, Yf, Yg, Yh, Yi, Yj, Yk, Yl, Ym, Yn, Yo, Yp, Yq, Yr, Ys, Yt, Yu, Yv, Yw, Yx, Yy, Yz, Y10, Y11, Y12, Y13, Y14, Y15, Y16, Y17, Y18, Y19, Y1a, Y1b, Y1c, Y1d, Y1e, Y1f, Y1g, Y1h, Y1i, Y1j, Y1k, Y1l, AV.cells?, Y1n, Y1o, Y1p, Y1q, Y1r, Y1s, Y1t, Nat.reduceAdd, Nat.reduceMul, Y1w, Y1x, Y1y, Y1z, Y20, Y21, Y22, Y23, Y24, Y25, Y26, Y27, Y28, Y29, Y2a, Y2b]
  refine wCall.fx (Check_spec B.l w hsz) fun n => ?_
  by_cases h1 : checkE w = 0
  · rw [h1, Er_zero]
    simp only [Y0, Y1, Y2, Y3, Y4, Y5, Y6, Y7, Y8, Y9, Ya, Yb, Yc, Yd, Ye, Yf, Yg, Yh, Yi, Yj, Yk, Yl, Ym, Yn, Yo, Yp, Yq, Yr, Ys, Yt, Yu, Yv, Yw, Yx, Yy, Yz, Y10, Y11, Y12, Y13, Y14, Y15, Y16, Y17, Y18, Y19, Y1a, Y1b, Y1c, Y1d, Y1e, Y1f, Y1g, Y1h, Y1i, Y1j, Y1k, Y1l, AV.cells?, Y1n, Y1o, Y1p, Y1q, Y1r, Y1s, Y1t, Nat.reduceAdd, Nat.reduceMul, Y1w, Y1x, Y1y, Y1z, Y20, Y21, Y22, Y23, Y24, Y25, Y26, Y27, Y28, Y29, Y2a, Y2b]
    refine wCall.fx (Right_spec B.l.toRightBodies f) fun n => ?_
    have hE : holdE w f = rightE f := by simp [holdE, h1]
    by_cases h2 : rightE f = 0
    · rw [h2, Er_zero]
      simp only [Y0, Y1, Y2, Y3, Y4, Y5, Y6, Y7, Y8, Y9, Ya, Yb, Yc, Yd, Ye, Yf, Yg, Yh, Yi, Yj, Yk, Yl, Ym, Yn, Yo, Yp, Yq, Yr, Ys, Yt, Yu, Yv, Yw, Yx, Yy, Yz, Y10, Y11, Y12, Y13, Y14, Y15, Y16, Y17, Y18, Y19, Y1a, Y1b, Y1c, Y1d, Y1e, Y1f, Y1g, Y1h, Y1i, Y1j, Y1k, Y1l, AV.cells?, Y1n, Y1o, Y1p, Y1q, Y1r, Y1s, Y1t, Nat.reduceAdd, Nat.reduceMul, Y1w, Y1x, Y1y, Y1z, Y20, Y21, Y22, Y23, Y24, Y25, Y26, Y27, Y28, Y29, Y2a, Y2b]
      obtain ⟨h3, h4⟩ := check_ok h1
      refine wCall.fx (holds_spec B w h3 h4 hsz 20 f (right_ok h2).1) fun n => ?_
      exact hR _ _ (by simp [holdA, hE, h2, Er])
    · rw [Er_ne h2]
      simp only [Y0, Y1, Y2, Y3, Y4, Y5, Y6, Y7, Y8, Y9, Ya, Yb, Yc, Yd, Ye, Yf, Yg, Yh, Yi, Yj, Yk, Yl, Ym, Yn, Yo, Yp, Yq, Yr, Ys, Yt, Yu, Yv, Yw, Yx, Yy, Yz, Y10, Y11, Y12, Y13, Y14, Y15, Y16, Y17, Y18, Y19, Y1a, Y1b, Y1c, Y1d, Y1e, Y1f, Y1g, Y1h, Y1i, Y1j, Y1k, Y1l, AV.cells?, Y1n, Y1o, Y1p, Y1q, Y1r, Y1s, Y1t, Nat.reduceAdd, Nat.reduceMul, Y1w, Y1x, Y1y, Y1z, Y20, Y21, Y22, Y23, Y24, Y25, Y26, Y27, Y28, Y29, Y2a, Y2b]
      exact hR _ _ (by simp [holdA, hE, h2, Er])
  · rw [Er_ne h1]
    simp only [Y0, Y1, Y2, Y3, Y4, Y5, Y6, Y7, Y8, Y9, Ya, Yb, Yc, Yd, Ye, Yf, Yg, Yh, Yi, Yj, Yk, Yl, Ym, Yn, Yo, Yp, Yq, Yr, Ys, Yt, Yu, Yv, Yw, Yx, Yy, Yz, Y10, Y11, Y12, Y13, Y14, Y15, Y16, Y17, Y18, Y19, Y1a, Y1b, Y1c, Y1d, Y1e, Y1f, Y1g, Y1h, Y1i, Y1j, Y1k, Y1l, AV.cells?, Y1n, Y1o, Y1p, Y1q, Y1r, Y1s, Y1t, Nat.reduceAdd, Nat.reduceMul, Y1w, Y1x, Y1y, Y1z, Y20, Y21, Y22, Y23, Y24, Y25, Y26, Y27, Y28, Y29, Y2a, Y2b]
    have hE : holdE w f = checkE w := by simp [holdE, h1]
    exact hR _ _ (by simp [holdA, hE, h1, Er])

theorem sameBools_spec (hB : Body2 E P 34 F.keep_sameBools) (a b : List Bool) (ha : a.length < 4611686018427387904) : FX E P 34 [LB a, LB b] (Bo (decide (a = b))) := by
  refine FX.of' (by simp [AV.closedL, LB_closed]) (by simp [AV.closed]) fun n R hR => hB _ _ _ _ ?_
  unfold F.keep_sameBools LB
  simp only [Y0, Y1, Y2, Y3, Y4, Y5, Y6, Y7, Y8, Y9, Ya, Yb, Yc, Yd, Ye, Yf, Yg, Yh, Yi, Yj, Yk, Yl, Ym, Yn, Yo, Yp, Yq, Yr, Ys, Yt, Yu, Yv, Yw, Yx, Yy, Yz, Y10, Y11, Y12, Y13, Y14, Y15, Y16, Y17, Y18, Y19, Y1a, Y1b, Y1c, Y1d, Y1e, Y1f, Y1g, Y1h, Y1i, Y1j, Y1k, Y1l, AV.cells?, Y1n, Y1o, Y1p, Y1q, Y1r, Y1s, Y1t, Nat.reduceAdd, Nat.reduceMul, Y1w, Y1x, Y1y, Y1z, Y20, Y21, Y22, Y23, Y24, Y25, Y26, Y27, Y28, Y29, Y2a, Y2b]
  by_cases hl : a.length = b.length
  case neg =>
    simp only [Y0, Y1, Y2, Y3, Y4, Y5, Y6, Y7, Y8, Y9, Ya, Yb, Yc, Yd, Ye, Yf, Yg, Yh, Yi, Yj, Yk, Yl, Ym, Yn, Yo, Yp, Yq, Yr, Ys, Yt, Yu, Yv, Yw, Yx, Yy, Yz, Y10, Y11, Y12, Y13, Y14, Y15, Y16, Y17, Y18, Y19, Y1a, Y1b, Y1c, Y1d, Y1e, Y1f, Y1g, Y1h, Y1i, Y1j, Y1k, Y1l, AV.cells?, Y1n, Y1o, Y1p, Y1q, Y1r, Y1s, Y1t, Nat.reduceAdd, Nat.reduceMul, Y1w, Y1x, Y1y, Y1z, Y20, Y21, Y22, Y23, Y24, Y25, Y26, Y27, Y28, Y29, Y2a, Y2b, decide_eq_false (show ¬ ((a.length : Int) = b.length) by omega)]
    exact hR _ _ (by rw [decide_eq_false (fun e => hl (by rw [e]))])
  simp only [Y0, Y1, Y2, Y3, Y4, Y5, Y6, Y7, Y8, Y9, Ya, Yb, Yc, Yd, Ye, Yf, Yg, Yh, Yi, Yj, Yk, Yl, Ym, Yn, Yo, Yp, Yq, Yr, Ys, Yt, Yu, Yv, Yw, Yx, Yy, Yz, Y10, Y11, Y12, Y13, Y14, Y15, Y16, Y17, Y18, Y19, Y1a, Y1b, Y1c, Y1d, Y1e, Y1f, Y1g, Y1h, Y1i, Y1j, Y1k, Y1l, AV.cells?, Y1n, Y1o, Y1p, Y1q, Y1r, Y1s, Y1t, Nat.reduceAdd, Nat.reduceMul, Y1w, Y1x, Y1y, Y1z, Y20, Y21, Y22, Y23, Y24, Y25, Y26, Y27, Y28, Y29, Y2a, Y2b, decide_eq_true (show ((a.length : Int) = b.length) by omega)]
  refine wLoop.one (fun m i H => ∃ j : Nat, i = Z j ∧ j ≤ a.length ∧ m = a.length - j ∧ ∀ k, k < j → a[k]? = b[k]?) a.length (gh1.mk ⟨0, rfl, by omega, rfl, by simp⟩) ?_
  rintro m i H ⟨j, rfl, hj, rfl, hp⟩
  by_cases hlt : j < a.length
  case neg =>
    have : j = a.length := by omega
    subst this
    simp only [Y0, Y1, Y2, Y3, Y4, Y5, Y6, Y7, Y8, Y9, Ya, Yb, Yc, Yd, Ye, Yf, Yg, Yh, Yi, Yj, Yk, Yl, Ym, Yn, Yo, Yp, Yq, Yr, Ys, Yt, Yu, Yv, Yw, Yx, Yy, Yz, Y10, Y11, Y12, Y13, Y14, Y15, Y16, Y17, Y18, Y19, Y1a, Y1b, Y1c, Y1d, Y1e, Y1f, Y1g, Y1h, Y1i, Y1j, Y1k, Y1l, AV.cells?, Y1n, Y1o, Y1p, Y1q, Y1r, Y1s, Y1t, Nat.reduceAdd, Nat.reduceMul, Y1w, Y1x, Y1y, Y1z, Y20, Y21, Y22, Y23, Y24, Y25, Y26, Y27, Y28, Y29, Y2a, Y2b, Int.lt_irrefl]
    refine hR _ _ ?_
    rw [decide_eq_true]
    refine List.ext_getElem? fun k => ?_
    by_cases hk : k < a.length
    · exact hp k hk
    · rw [List.getElem?_eq_none (by omega), List.getElem?_eq_none (by omega)]
  simp only [Y0, Y1, Y2, Y3, Y4, Y5, Y6, Y7, Y8, Y9, Ya, Yb, Yc, Yd, Ye, Yf, Yg, Yh, Yi, Yj, Yk, Yl, Ym, Yn, Yo, Yp, Yq, Yr, Ys, Yt, Yu, Yv, Yw, Yx, Yy, Yz, Y10, Y11, Y12, Y13, Y14, Y15, Y16, Y17, Y18, Y19, Y1a, Y1b, Y1c, Y1d, Y1e, Y1f, Y1g, Y1h, Y1i, Y1j, Y1k, Y1l, AV.cells?, Y1n, Y1o, Y1p, Y1q, Y1r, Y1s, Y1t, Nat.reduceAdd, Nat.reduceMul, Y1w, Y1x, Y1y, Y1z, Y20, Y21, Y22, Y23, Y24, Y25, Y26, Y27, Y28, Y29, Y2a, Y2b, decide_eq_true (show (j : Int) < (a.length : Int) by omega)]
  rw [iaddr_Nn hlt, iaddr_Nn (show j < b.length by omega)]
  simp only [Y0, Y1, Y2, Y3, Y4, Y5, Y6, Y7, Y8, Y9, Ya, Yb, Yc, Yd, Ye, Yf, Yg, Yh, Yi, Yj, Yk, Yl, Ym, Yn, Yo, Yp, Yq, Yr, Ys, Yt, Yu, Yv, Yw, Yx, Yy, Yz, Y10, Y11, Y12, Y13, Y14, Y15, Y16, Y17, Y18, Y19, Y1a, Y1b, Y1c, Y1d, Y1e, Y1f, Y1g, Y1h, Y1i, Y1j, Y1k, Y1l, AV.cells?, Y1n, Y1o, Y1p, Y1q, Y1r, Y1s, Y1t, Nat.reduceAdd, Nat.reduceMul, Y1w, Y1x, Y1y, Y1z, Y20, Y21, Y22, Y23, Y24, Y25, Y26, Y27, Y28, Y29, Y2a, Y2b, map_get hlt, map_get (show j < b.length by omega)]
  refine wIf.bool (fun h => ?_) fun h => ?_
  · refine hR _ _ ?_
    rw [decide_eq_false]
    rintro rfl
    simp at h
  · rw [binA_succ (by omega)]
    simp only [Y0, Y1, Y2, Y3, Y4, Y5, Y6, Y7, Y8, Y9, Ya, Yb, Yc, Yd, Ye, Yf, Yg, Yh, Yi, Yj, Yk, Yl, Ym, Yn, Yo, Yp, Yq, Yr, Ys, Yt, Yu, Yv, Yw, Yx, Yy, Yz, Y10, Y11, Y12, Y13, Y14, Y15, Y16, Y17, Y18, Y19, Y1a, Y1b, Y1c, Y1d, Y1e, Y1f, Y1g, Y1h, Y1i, Y1j, Y1k, Y1l, AV.cells?, Y1n, Y1o, Y1p, Y1q, Y1r, Y1s, Y1t, Nat.reduceAdd, Nat.reduceMul, Y1w, Y1x, Y1y, Y1z, Y20, Y21, Y22, Y23, Y24, Y25, Y26, Y27, Y28, Y29, Y2a, Y2b]
    refine back1.mk (a.length - (j + 1)) (by omega) ⟨j + 1, rfl, by omega, rfl, fun k hk => ?_⟩
    by_cases hkj : k = j
    · subst hkj
      have e : a.getD k false = b.getD k false := by
        revert h
        cases a.getD k false <;> cases b.getD k false <;> simp
      rw [List.getElem?_eq_getElem hlt, List.getElem?_eq_getElem (show k < b.length by omega)]
      simpa [List.getD, List.getElem?_eq_getElem hlt, List.getElem?_eq_getElem (show k < b.length by omega)] using e
    · exact hp k (by omega)
end

/-! ### formulas that may be -/
def okF (d : Nat) (f : Fm) (n : Int) : Prop := rightF d f = (n, 0)
theorem rightL_mono {r r' : Fm → Int × Int} (h : ∀ x n, r x = (n, 0) → r' x = (n, 0)) : ∀ (l : List Fm) (n m : Int), rightL r l n = (m, 0) → rightL r' l n = (m, 0)
  | [], n, m, e => e
  | x :: l, n, m, e => by
    unfold rightL at e ⊢
    split at e
    · rename_i h1
      have h2 := h x (r x).1 (by rw [← h1])
      rw [h2]
      simp only [if_true]
      exact rightL_mono h l _ _ e
    · rename_i h1
      injection e with _ e
      exact absurd e h1
theorem okF.succ : ∀ {d : Nat} {f : Fm} {n : Int}, okF d f n → okF (d + 1) f n
  | d, .nil, n, h => by cases d <;> simp [okF, rightF] at h
  | 0, .mk k s of, n, h => by simp [okF, rightF] at h
  | d + 1, .mk k s of, n, h => by
    unfold okF rightF at *
    split at h
    · simp at h
    · split at h
      · simp at h
      · rename_i h1 h2
        rw [if_neg h1, if_neg h2]
        exact rightL_mono (fun x n hx => okF.succ hx) of 1 n h
theorem okF.le {d d' : Nat} {f : Fm} {n : Int} (h : okF d f n) (hd : d ≤ d') : okF d' f n := by
  induction hd with
  | refl => exact h
  | step _ ih => exact ih.succ
theorem okF.one {d : Nat} {k : Int} {f : Fm} {n : Int} (hk : badKind k [] [f] = false) (h1 : k ≠ 1) (h : okF d f n) : okF (d + 1) (.mk k [] [f]) (1 + n) := by
  unfold okF at *
  simp [rightF, hk, h1, rightL, h]
theorem okF.two {d : Nat} {k : Int} {f g : Fm} {n m : Int} (hk : badKind k [] [f, g] = false) (h1 : k ≠ 1) (h : okF d f n) (h' : okF d g m) : okF (d + 1) (.mk k [] [f, g]) (1 + n + m) := by
  unfold okF at *
  simp [rightF, hk, h1, rightL, h, h']
theorem ok_of {d : Nat} {f : Fm} (h : (rightF d f).2 = 0) : okF d f (rightF d f).1 := by unfold okF; rw [← h]
theorem okF.uniq {d : Nat} {f : Fm} {n m : Int} (h : okF d f n) (h' : okF d f m) : n = m := by
  unfold okF at *
  rw [h] at h'
  injection h'
theorem okF.rightE {f : Fm} {n : Int} (h : okF 20 f n) (hn : n ≤ 100) : rightE f = 0 := by
  unfold okF at h
  unfold Sc.rightE
  rw [h]
  simp
  omega
theorem holdsL_congr {w : Wd} {f g : Fm} (h : ∀ i, i < w.n → (sat w f i ↔ sat w g i)) : holdsL w f = holdsL w g := by
  unfold holdsL
  refine List.map_congr_left fun i hi => ?_
  have := h i (List.mem_range.1 hi)
  exact decide_eq_decide.2 this
end Go.Sc
