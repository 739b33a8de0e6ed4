/-
  CONTRACTS: lists of numbers are compared, searched, copied.
-/
import Derived.Test.YtnchabkiellfdaaDoorScO3
import Derived.Test.YtnchabkiellfdaaDoorScR2
import Derived.Test.YtnchabkiellfdaaDoorScV4
namespace Go.Sc
open Go
set_option linter.unusedSimpArgs false
set_option linter.unusedVariables false

def LI (l : List Int) : AV := Lm (fun z => Z z) l
def LLI (l : List (List Int)) : AV := Lm LI l
theorem LI_closed (l : List Int) : (LI l).closed := by simp [LI, Lm, AV.closed, closed_Z]
theorem LLI_closed (l : List (List Int)) : (LLI l).closed := by simp only [LLI, Lm, AV.closed]; exact closed_map LI_closed l
theorem LI_scalar (l : List Int) : (LI l).scalar = true := rfl
theorem mapZ_get {l : List Int} {i : Nat} (h : i < l.length) : (l.map fun z => Z z)[i]? = some (Z (l.getD i 0)) := by
  simp [List.getD, List.getElem?_eq_getElem h]
theorem mapL_get {l : List (List Int)} {i : Nat} (h : i < l.length) : (l.map LI)[i]? = some (LI (l.getD i [])) := by
  simp [List.getD, List.getElem?_eq_getElem h]
def idxO : Option Nat → Int
  | some i => i
  | none => -1

section
variable {E : Env} {P : Program}
theorem ACalls.slN1 {k : Nat} {cs : List AV} {len : Nat} {H : AH} {R : Kt} (h0 : len = 0 → ACalls E P k [nilS] H R) (h1 : ACalls E P k [.slF cs 0 len] H R) : ACalls E P k [.slN cs len] H R := fun c vs hH hv => by
  obtain ⟨v, rfl, hr⟩ := hv.one'
  simp only [VRel] at hr
  rcases hr with ⟨rfl, hl⟩ | ⟨p, cap, rfl, hl, hr⟩
  · exact h0 hl c _ hH (.one (by simp only [VRel]))
  · refine h1 c _ hH (.one ?_)
    simp only [VRel]
    exact ⟨p, cap, rfl, hl, hr.imp id fun ⟨b, o, hp, hc⟩ => ⟨b, o, by simpa using hp, hc⟩⟩

theorem Equal_spec (hB : Body2 E P 65 F.slices_Equal_Lint_int) (l l' : List Int) (hl : l.length < 4611686018427387904) : FX E P 65 [LI l, LI l'] (Bo (decide (l = l'))) := by
  refine FX.of' (by simp [AV.closedL, LI_closed]) (by simp [AV.closed]) fun n R hR => hB _ _ _ _ ?_
  unfold F.slices_Equal_Lint_int LI
  simp only [Y0, Y1, Y2, Y3, Y4, Y5, Y6, Y7, Y8, Y9, Ya, Yb, Yc, Yd, Ye, Yf, Yg, Yh, Yi, Yj, Yk, Yl, Ym, Yn, Yo, Yp, Yq, Yr, Ys, Yt, Yu, Yv, Yw, Yx, Yy, Yz, Y10, Y11, Y12, Y13, Y14, Y15, Y16, Y17, Y18, Y19, Y1a, Y1b, Y1c, Y1d, Y1e, Y1f, Y1g, Y1h, Y1i, Y1j, Y1k, Y1l, AV.cells?, Y1n, Y1o, Y1p, Y1q, Y1r, Y1s, Y1t, Nat.reduceAdd, Nat.reduceMul, Y1w, Y1x, Y1y, Y1z, Y20, Y21, Y22, Y23, Y24, Y25, Y26, Y27, Y28, Y29, Y2a, Y2b]
  by_cases hn : l.length = l'.length
  case neg =>
    simp only [Y0, Y1, Y2, Y3, Y4, Y5, Y6, Y7, Y8, Y9, Ya, Yb, Yc, Yd, Ye, Yf, Yg, Yh, Yi, Yj, Yk, Yl, Ym, Yn, Yo, Yp, Yq, Yr, Ys, Yt, Yu, Yv, Yw, Yx, Yy, Yz, Y10, Y11, Y12, Y13, Y14, Y15, Y16, Y17, Y18, Y19, Y1a, Y1b, Y1c, Y1d, Y1e, Y1f, Y1g, Y1h, Y1i, Y1j, Y1k, Y1l, AV.cells?, Y1n, Y1o, Y1p, Y1q, Y1r, Y1s, Y1t, Nat.reduceAdd, Nat.reduceMul, Y1w, Y1x, Y1y, Y1z, Y20, Y21, Y22, Y23, Y24, Y25, Y26, Y27, Y28, Y29, Y2a, Y2b, decide_eq_false (show ¬ ((l.length : Int) = l'.length) by omega)]
    exact hR _ _ (by rw [decide_eq_false (fun e => hn (by rw [e]))])
  simp only [Y0, Y1, Y2, Y3, Y4, Y5, Y6, Y7, Y8, Y9, Ya, Yb, Yc, Yd, Ye, Yf, Yg, Yh, Yi, Yj, Yk, Yl, Ym, Yn, Yo, Yp, Yq, Yr, Ys, Yt, Yu, Yv, Yw, Yx, Yy, Yz, Y10, Y11, Y12, Y13, Y14, Y15, Y16, Y17, Y18, Y19, Y1a, Y1b, Y1c, Y1d, Y1e, Y1f, Y1g, Y1h, Y1i, Y1j, Y1k, Y1l, AV.cells?, Y1n, Y1o, Y1p, Y1q, Y1r, Y1s, Y1t, Nat.reduceAdd, Nat.reduceMul, Y1w, Y1x, Y1y, Y1z, Y20, Y21, Y22, Y23, Y24, Y25, Y26, Y27, Y28, Y29, Y2a, Y2b, decide_eq_true (show ((l.length : Int) = l'.length) by omega)]
  refine wLoop.one (fun m i H => ∃ j : Nat, i = Z j ∧ j ≤ l.length ∧ m = l.length - j ∧ ∀ k, k < j → l[k]? = l'[k]?) l.length (gh1.mk ⟨0, rfl, by omega, rfl, by simp⟩) ?_
  rintro m i H ⟨j, rfl, hj, rfl, hp⟩
  by_cases hlt : j < l.length
  case neg =>
    have : j = l.length := by omega
    subst this
    simp only [Y0, Y1, Y2, Y3, Y4, Y5, Y6, Y7, Y8, Y9, Ya, Yb, Yc, Yd, Ye, Yf, Yg, Yh, Yi, Yj, Yk, Yl, Ym, Yn, Yo, Yp, Yq, Yr, Ys, Yt, Yu, Yv, Yw, Yx, Yy, Yz, Y10, Y11, Y12, Y13, Y14, Y15, Y16, Y17, Y18, Y19, Y1a, Y1b, Y1c, Y1d, Y1e, Y1f, Y1g, Y1h, Y1i, Y1j, Y1k, Y1l, AV.cells?, Y1n, Y1o, Y1p, Y1q, Y1r, Y1s, Y1t, Nat.reduceAdd, Nat.reduceMul, Y1w, Y1x, Y1y, Y1z, Y20, Y21, Y22, Y23, Y24, Y25, Y26, Y27, Y28, Y29, Y2a, Y2b, Int.lt_irrefl]
    refine hR _ _ ?_
    rw [decide_eq_true]
    refine List.ext_getElem? fun k => ?_
    by_cases hk : k < l.length
    · exact hp k hk
    · rw [List.getElem?_eq_none (by omega), List.getElem?_eq_none (by omega)]
  simp only [Y0, Y1, Y2, Y3, Y4, Y5, Y6, Y7, Y8, Y9, Ya, Yb, Yc, Yd, Ye, Yf, Yg, Yh, Yi, Yj, Yk, Yl, Ym, Yn, Yo, Yp, Yq, Yr, Ys, Yt, Yu, Yv, Yw, Yx, Yy, Yz, Y10, Y11, Y12, Y13, Y14, Y15, Y16, Y17, Y18, Y19, Y1a, Y1b, Y1c, Y1d, Y1e, Y1f, Y1g, Y1h, Y1i, Y1j, Y1k, Y1l, AV.cells?, Y1n, Y1o, Y1p, Y1q, Y1r, Y1s, Y1t, Nat.reduceAdd, Nat.reduceMul, Y1w, Y1x, Y1y, Y1z, Y20, Y21, Y22, Y23, Y24, Y25, Y26, Y27, Y28, Y29, Y2a, Y2b, decide_eq_true (show (j : Int) < (l.length : Int) by omega)]
  rw [iaddr_Nn hlt, iaddr_Nn (show j < l'.length by omega)]
  simp only [Y0, Y1, Y2, Y3, Y4, Y5, Y6, Y7, Y8, Y9, Ya, Yb, Yc, Yd, Ye, Yf, Yg, Yh, Yi, Yj, Yk, Yl, Ym, Yn, Yo, Yp, Yq, Yr, Ys, Yt, Yu, Yv, Yw, Yx, Yy, Yz, Y10, Y11, Y12, Y13, Y14, Y15, Y16, Y17, Y18, Y19, Y1a, Y1b, Y1c, Y1d, Y1e, Y1f, Y1g, Y1h, Y1i, Y1j, Y1k, Y1l, AV.cells?, Y1n, Y1o, Y1p, Y1q, Y1r, Y1s, Y1t, Nat.reduceAdd, Nat.reduceMul, Y1w, Y1x, Y1y, Y1z, Y20, Y21, Y22, Y23, Y24, Y25, Y26, Y27, Y28, Y29, Y2a, Y2b, mapZ_get hlt, mapZ_get (show j < l'.length by omega)]
  have e1 : l[j]? = some (l.getD j 0) := by simp [List.getD, List.getElem?_eq_getElem hlt]
  have e2 : l'[j]? = some (l'.getD j 0) := by simp [List.getD, List.getElem?_eq_getElem (show j < l'.length by omega)]
  by_cases he : l.getD j 0 = l'.getD j 0
  · simp only [Y0, Y1, Y2, Y3, Y4, Y5, Y6, Y7, Y8, Y9, Ya, Yb, Yc, Yd, Ye, Yf, Yg, Yh, Yi, Yj, Yk, Yl, Ym, Yn, Yo, Yp, Yq, Yr, Ys, Yt, Yu, Yv, Yw, Yx, Yy, Yz, Y10, Y11, Y12, Y13, Y14, Y15, Y16, Y17, Y18, Y19, Y1a, Y1b, Y1c, Y1d, Y1e, Y1f, Y1g, Y1h, Y1i, Y1j, Y1k, Y1l, AV.cells?, Y1n, Y1o, Y1p, Y1q, Y1r, Y1s, Y1t, Nat.reduceAdd, Nat.reduceMul, Y1w, Y1x, Y1y, Y1z, Y20, Y21, Y22, Y23, Y24, Y25, Y26, Y27, Y28, Y29, Y2a, Y2b, decide_eq_true he]
    rw [binA_succ (by omega)]
    simp only [Y0, Y1, Y2, Y3, Y4, Y5, Y6, Y7, Y8, Y9, Ya, Yb, Yc, Yd, Ye, Yf, Yg, Yh, Yi, Yj, Yk, Yl, Ym, Yn, Yo, Yp, Yq, Yr, Ys, Yt, Yu, Yv, Yw, Yx, Yy, Yz, Y10, Y11, Y12, Y13, Y14, Y15, Y16, Y17, Y18, Y19, Y1a, Y1b, Y1c, Y1d, Y1e, Y1f, Y1g, Y1h, Y1i, Y1j, Y1k, Y1l, AV.cells?, Y1n, Y1o, Y1p, Y1q, Y1r, Y1s, Y1t, Nat.reduceAdd, Nat.reduceMul, Y1w, Y1x, Y1y, Y1z, Y20, Y21, Y22, Y23, Y24, Y25, Y26, Y27, Y28, Y29, Y2a, Y2b]
    refine back1.mk (l.length - (j + 1)) (by omega) ⟨j + 1, rfl, by omega, rfl, fun k hk => ?_⟩
    by_cases hkj : k = j
    · subst hkj; rw [e1, e2, he]
    · exact hp k (by omega)
  · simp only [Y0, Y1, Y2, Y3, Y4, Y5, Y6, Y7, Y8, Y9, Ya, Yb, Yc, Yd, Ye, Yf, Yg, Yh, Yi, Yj, Yk, Yl, Ym, Yn, Yo, Yp, Yq, Yr, Ys, Yt, Yu, Yv, Yw, Yx, Yy, Yz, Y10, Y11, Y12, Y13, Y14, Y15, Y16, Y17, Y18, Y19, Y1a, Y1b, Y1c, Y1d, Y1e, Y1f, Y1g, Y1h, Y1i, Y1j, Y1k, Y1l, AV.cells?, Y1n, Y1o, Y1p, Y1q, Y1r, Y1s, Y1t, Nat.reduceAdd, Nat.reduceMul, Y1w, Y1x, Y1y, Y1z, Y20, Y21, Y22, Y23, Y24, Y25, Y26, Y27, Y28, Y29, Y2a, Y2b, decide_eq_false he]
    refine hR _ _ ?_
    rw [decide_eq_false]
    rintro rfl
    exact he rfl

/-- the first element of which so much holds -/
theorem IndexFunc_any {α : Type} {f : α → AV} {G : Env → Program → AV → AV → AH → Kt → Prop} {kk : Nat} (hG : G = F.slices_IndexFunc_Lint_int ∨ G = F.slices_IndexFunc_LLint_Lint) (hB : Body2 E P kk G) {k : Nat} {cs : List AV} {p : α → Bool} (hf : ∀ a, (f a).closed) (l : List α) (hl : l.length < 4611686018427387904) (hcs : AV.closedL cs)
    (hp : ∀ a ∈ l, FX E P k ([f a] ++ cs) (Bo (p a))) : FX E P kk [Lm f l, .fn k [] cs] (Z (idxO (l.findIdx? p))) := by
  refine FX.of' (by simp only [AV.closedL, Lm, AV.closed, and_true, true_and]; exact ⟨closed_map hf l, hcs⟩) (by simp [AV.closed]) fun n R hR => hB _ _ _ _ ?_
  have main : wLoop 1 (fun I1 => I1 (Z 0) ⟨[], n⟩) fun I1 t8 H =>
      wGet (binA .lss t8 (Z l.length)) H fun t9 H =>
      wIf t9 (
        wGet (iaddr 1 (Lm f l) t8) H fun t14 H =>
        wGet (load1 t14 H) H fun t15 H =>
        wCallV E P (.fn k [] cs) [t15] H fun t16 H =>
        wIf t16 (
          R t8 H) (
          wGet (binA .add t8 (.val (.int .i64 1))) H fun t18 H =>
          I1 t18 H)) (
        R (.val (.int .i64 (-1))) H) := by
    refine wLoop.one (fun m i H => ∃ pre rest, l = pre ++ rest ∧ i = Z pre.length ∧ m = rest.length ∧ ∀ a ∈ pre, p a = false) l.length (gh1.mk ⟨[], l, rfl, rfl, rfl, by simp⟩) ?_
    rintro m i H ⟨pre, rest, rfl, rfl, rfl, hpre⟩
    cases rest with
    | nil =>
      simp only [Y0, Y1, Y2, Y3, Y4, Y5, Y6, Y7, Y8, Y9, Ya, Yb, Yc, Yd, Ye, Yf, Yg, Yh, Yi, Yj, Yk, Yl, Ym, Yn, Yo, Yp, Yq, Yr, Ys, Yt, Yu, Yv, Yw, Yx, Yy, Yz, Y10, Y11, Y12, Y13, Y14, Y15, Y16, Y17, Y18, Y19, Y1a, Y1b, Y1c, Y1d, Y1e, Y1f, Y1g, Y1h, Y1i, Y1j, Y1k, Y1l, AV.cells?, Y1n, Y1o, Y1p, Y1q, Y1r, Y1s, Y1t, Nat.reduceAdd, Nat.reduceMul, Y1w, Y1x, Y1y, Y1z, Y20, Y21, Y22, Y23, Y24, Y25, Y26, Y27, Y28, Y29, Y2a, Y2b, List.append_nil, Int.lt_irrefl]
      refine hR _ _ ?_
      rw [List.append_nil, List.findIdx?_eq_none_iff.2 hpre]
      rfl
    | cons x rest =>
      simp only [Y0, Y1, Y2, Y3, Y4, Y5, Y6, Y7, Y8, Y9, Ya, Yb, Yc, Yd, Ye, Yf, Yg, Yh, Yi, Yj, Yk, Yl, Ym, Yn, Yo, Yp, Yq, Yr, Ys, Yt, Yu, Yv, Yw, Yx, Yy, Yz, Y10, Y11, Y12, Y13, Y14, Y15, Y16, Y17, Y18, Y19, Y1a, Y1b, Y1c, Y1d, Y1e, Y1f, Y1g, Y1h, Y1i, Y1j, Y1k, Y1l, AV.cells?, Y1n, Y1o, Y1p, Y1q, Y1r, Y1s, Y1t, Nat.reduceAdd, Nat.reduceMul, Y1w, Y1x, Y1y, Y1z, Y20, Y21, Y22, Y23, Y24, Y25, Y26, Y27, Y28, Y29, Y2a, Y2b, decide_eq_true (show (pre.length : Int) < ((pre ++ x :: rest).length : Int) by simp; omega)]
      rw [iaddr_Nn lt_mid]
      simp only [Y0, Y1, Y2, Y3, Y4, Y5, Y6, Y7, Y8, Y9, Ya, Yb, Yc, Yd, Ye, Yf, Yg, Yh, Yi, Yj, Yk, Yl, Ym, Yn, Yo, Yp, Yq, Yr, Ys, Yt, Yu, Yv, Yw, Yx, Yy, Yz, Y10, Y11, Y12, Y13, Y14, Y15, Y16, Y17, Y18, Y19, Y1a, Y1b, Y1c, Y1d, Y1e, Y1f, Y1g, Y1h, Y1i, Y1j, Y1k, Y1l, AV.cells?, Y1n, Y1o, Y1p, Y1q, Y1r, Y1s, Y1t, Nat.reduceAdd, Nat.reduceMul, Y1w, Y1x, Y1y, Y1z, Y20, Y21, Y22, Y23, Y24, Y25, Y26, Y27, Y28, Y29, Y2a, Y2b, at_mid]
      refine wCallV.fx (hp x (by simp)) fun n1 => ?_
      refine wIf.bool (fun h => ?_) fun h => ?_
      · refine hR _ _ ?_
        have : (pre ++ x :: rest).findIdx? p = some pre.length := by
          rw [List.findIdx?_append, List.findIdx?_eq_none_iff.2 hpre]
          simp [List.findIdx?_cons, h]
        rw [this]; rfl
      · rw [binA_succ (by simp at hl; omega)]
        simp only [Y0, Y1, Y2, Y3, Y4, Y5, Y6, Y7, Y8, Y9, Ya, Yb, Yc, Yd, Ye, Yf, Yg, Yh, Yi, Yj, Yk, Yl, Ym, Yn, Yo, Yp, Yq, Yr, Ys, Yt, Yu, Yv, Yw, Yx, Yy, Yz, Y10, Y11, Y12, Y13, Y14, Y15, Y16, Y17, Y18, Y19, Y1a, Y1b, Y1c, Y1d, Y1e, Y1f, Y1g, Y1h, Y1i, Y1j, Y1k, Y1l, AV.cells?, Y1n, Y1o, Y1p, Y1q, Y1r, Y1s, Y1t, Nat.reduceAdd, Nat.reduceMul, Y1w, Y1x, Y1y, Y1z, Y20, Y21, Y22, Y23, Y24, Y25, Y26, Y27, Y28, Y29, Y2a, Y2b]
        refine back1.mk rest.length (by simp) ⟨pre ++ [x], rest, by simp, by simp, rfl, fun a ha => ?_⟩
        rcases List.mem_append.1 ha with ha | ha
        · exact hpre a ha
        · simp at ha; subst ha; exact h
  rcases hG with rfl | rfl
  · unfold F.slices_IndexFunc_Lint_int
    simp only [Y0, Y1, Y2, Y3, Y4, Y5, Y6, Y7, Y8, Y9, Ya, Yb, Yc, Yd, Ye, Yf, Yg, Yh, Yi, Yj, Yk, Yl, Ym, Yn, Yo, Yp, Yq, Yr, Ys, Yt, Yu, Yv, Yw, Yx, Yy, Yz, Y10, Y11, Y12, Y13, Y14, Y15, Y16, Y17, Y18, Y19, Y1a, Y1b, Y1c, Y1d, Y1e, Y1f, Y1g, Y1h, Y1i, Y1j, Y1k, Y1l, AV.cells?, Y1n, Y1o, Y1p, Y1q, Y1r, Y1s, Y1t, Nat.reduceAdd, Nat.reduceMul, Y1w, Y1x, Y1y, Y1z, Y20, Y21, Y22, Y23, Y24, Y25, Y26, Y27, Y28, Y29, Y2a, Y2b]
    exact main
  · unfold F.slices_IndexFunc_LLint_Lint
    simp only [Y0, Y1, Y2, Y3, Y4, Y5, Y6, Y7, Y8, Y9, Ya, Yb, Yc, Yd, Ye, Yf, Yg, Yh, Yi, Yj, Yk, Yl, Ym, Yn, Yo, Yp, Yq, Yr, Ys, Yt, Yu, Yv, Yw, Yx, Yy, Yz, Y10, Y11, Y12, Y13, Y14, Y15, Y16, Y17, Y18, Y19, Y1a, Y1b, Y1c, Y1d, Y1e, Y1f, Y1g, Y1h, Y1i, Y1j, Y1k, Y1l, AV.cells?, Y1n, Y1o, Y1p, Y1q, Y1r, Y1s, Y1t, Nat.reduceAdd, Nat.reduceMul, Y1w, Y1x, Y1y, Y1z, Y20, Y21, Y22, Y23, Y24, Y25, Y26, Y27, Y28, Y29, Y2a, Y2b]
    exact main
theorem ContainsFunc_spec (hB : Body2 E P 59 F.slices_ContainsFunc_Lint_int) (hI : Body2 E P 66 F.slices_IndexFunc_Lint_int) {k : Nat} {cs : List AV} {p : Int → Bool} (l : List Int) (hl : l.length < 4611686018427387904) (hcs : AV.closedL cs)
    (hp : ∀ a ∈ l, FX E P k ([Z a] ++ cs) (Bo (p a))) : FX E P 59 [LI l, .fn k [] cs] (Bo (l.any p)) := by
  refine FX.of' (by simp only [AV.closedL, AV.closed, and_true, true_and]; exact ⟨LI_closed l, hcs⟩) (by simp [AV.closed]) fun n R hR => hB _ _ _ _ ?_
  unfold F.slices_ContainsFunc_Lint_int
  refine wCall.fx (IndexFunc_any (f := fun z => Z z) (.inl rfl) hI (fun _ => by simp [AV.closed]) l hl hcs hp) fun n => ?_
  simp only [Y0, Y1, Y2, Y3, Y4, Y5, Y6, Y7, Y8, Y9, Ya, Yb, Yc, Yd, Ye, Yf, Yg, Yh, Yi, Yj, Yk, Yl, Ym, Yn, Yo, Yp, Yq, Yr, Ys, Yt, Yu, Yv, Yw, Yx, Yy, Yz, Y10, Y11, Y12, Y13, Y14, Y15, Y16, Y17, Y18, Y19, Y1a, Y1b, Y1c, Y1d, Y1e, Y1f, Y1g, Y1h, Y1i, Y1j, Y1k, Y1l, AV.cells?, Y1n, Y1o, Y1p, Y1q, Y1r, Y1s, Y1t, Nat.reduceAdd, Nat.reduceMul, Y1w, Y1x, Y1y, Y1z, Y20, Y21, Y22, Y23, Y24, Y25, Y26, Y27, Y28, Y29, Y2a, Y2b]
  refine hR _ _ ?_
  cases hf : l.findIdx? p with
  | none =>
    rw [List.findIdx?_eq_none_iff] at hf
    have : l.any p = false := by rw [List.any_eq_false]; intro x hx; simp [hf x hx]
    rw [this]; rfl
  | some i =>
    rw [List.findIdx?_eq_some_iff_getElem] at hf
    obtain ⟨h1, h2, _⟩ := hf
    have : l.any p = true := by rw [List.any_eq_true]; exact ⟨_, List.getElem_mem h1, h2⟩
    rw [this]
    have : (0 : Int) ≤ idxO (some i) := by simp [idxO]
    rw [decide_eq_true this]
theorem Clone_spec (hB : Body1 E P 57 F.slices_Clone_Lint_int) (l : List Int) (hl : l.length < 4398046511104) : FX E P 57 [LI l] (LI l) := by
  refine FX.of (by simp [AV.closedL, LI_closed]) (LI_closed _) fun n R hR => ?_
  refine ACalls.slN1 (fun h0 => hB _ _ _ ?_) (hB _ _ _ ?_)
  · unfold F.slices_Clone_Lint_int
    simp only [Y0, Y1, Y2, Y3, Y4, Y5, Y6, Y7, Y8, Y9, Ya, Yb, Yc, Yd, Ye, Yf, Yg, Yh, Yi, Yj, Yk, Yl, Ym, Yn, Yo, Yp, Yq, Yr, Ys, Yt, Yu, Yv, Yw, Yx, Yy, Yz, Y10, Y11, Y12, Y13, Y14, Y15, Y16, Y17, Y18, Y19, Y1a, Y1b, Y1c, Y1d, Y1e, Y1f, Y1g, Y1h, Y1i, Y1j, Y1k, Y1l, AV.cells?, Y1n, Y1o, Y1p, Y1q, Y1r, Y1s, Y1t, Nat.reduceAdd, Nat.reduceMul, Y1w, Y1x, Y1y, Y1z, Y20, Y21, Y22, Y23, Y24, Y25, Y26, Y27, Y28, Y29, Y2a, Y2b]
    refine hR _ _ (.sub ?_)
    unfold LI Lm
    rw [h0]
    exact .nil
  · unfold F.slices_Clone_Lint_int
    simp only [Y0, Y1, Y2, Y3, Y4, Y5, Y6, Y7, Y8, Y9, Ya, Yb, Yc, Yd, Ye, Yf, Yg, Yh, Yi, Yj, Yk, Yl, Ym, Yn, Yo, Yp, Yq, Yr, Ys, Yt, Yu, Yv, Yw, Yx, Yy, Yz, Y10, Y11, Y12, Y13, Y14, Y15, Y16, Y17, Y18, Y19, Y1a, Y1b, Y1c, Y1d, Y1e, Y1f, Y1g, Y1h, Y1i, Y1j, Y1k, Y1l, AV.cells?, Y1n, Y1o, Y1p, Y1q, Y1r, Y1s, Y1t, Nat.reduceAdd, Nat.reduceMul, Y1w, Y1x, Y1y, Y1z, Y20, Y21, Y22, Y23, Y24, Y25, Y26, Y27, Y28, Y29, Y2a, Y2b]
    refine wNewS.T (l := []) rfl (.refl _) rfl ?_
    simp only [Y0, Y1, Y2, Y3, Y4, Y5, Y6, Y7, Y8, Y9, Ya, Yb, Yc, Yd, Ye, Yf, Yg, Yh, Yi, Yj, Yk, Yl, Ym, Yn, Yo, Yp, Yq, Yr, Ys, Yt, Yu, Yv, Yw, Yx, Yy, Yz, Y10, Y11, Y12, Y13, Y14, Y15, Y16, Y17, Y18, Y19, Y1a, Y1b, Y1c, Y1d, Y1e, Y1f, Y1g, Y1h, Y1i, Y1j, Y1k, Y1l, AV.cells?, Y1n, Y1o, Y1p, Y1q, Y1r, Y1s, Y1t, Nat.reduceAdd, Nat.reduceMul, Y1w, Y1x, Y1y, Y1z, Y20, Y21, Y22, Y23, Y24, Y25, Y26, Y27, Y28, Y29, Y2a, Y2b]
    refine wApp.gr (m := l.length) (new := l.map fun z => Z z) .mk rfl rfl (by simp [cellsOfA, subL, List.take_of_length_le]) (.refl _) (by simp [AV.scalar]) (by simp [mostBytes]; omega) fun z' x' c' hg' => ?_
    simp only [Y0, Y1, Y2, Y3, Y4, Y5, Y6, Y7, Y8, Y9, Ya, Yb, Yc, Yd, Ye, Yf, Yg, Yh, Yi, Yj, Yk, Yl, Ym, Yn, Yo, Yp, Yq, Yr, Ys, Yt, Yu, Yv, Yw, Yx, Yy, Yz, Y10, Y11, Y12, Y13, Y14, Y15, Y16, Y17, Y18, Y19, Y1a, Y1b, Y1c, Y1d, Y1e, Y1f, Y1g, Y1h, Y1i, Y1j, Y1k, Y1l, AV.cells?, Y1n, Y1o, Y1p, Y1q, Y1r, Y1s, Y1t, Nat.reduceAdd, Nat.reduceMul, Y1w, Y1x, Y1y, Y1z, Y20, Y21, Y22, Y23, Y24, Y25, Y26, Y27, Y28, Y29, Y2a, Y2b]
    refine hR _ _ (.sub ?_)
    have := hg'.sub
    simpa [LI, Lm] using this
end
end Go.Sc
