/-
  CONTRACTS: the reference's tables: apart.
-/
import Derived.Test.YtnchabkiellfdaaDoorScP12
import Derived.Test.YtnchabkiellfdaaDoorScQ3
namespace Go.Sc
open Go
set_option linter.unusedSimpArgs false
set_option linter.unusedVariables false

/-! ### a square of numbers in memory of the call's own -/
def sqRow (N : Nat) (f : Nat → Nat) : List AV := (List.range N).map fun b => Z (f b)
def sqTop (N c0 a : Nat) : List AV := (List.range N).map fun j => if j < a then .slL (1 + j) 0 N (c0 + j) else nilS
def sqBs (N c0 a : Nat) (M : Nat → Nat → Nat) : List Blk := (List.range a).map fun j => .cells (c0 + j) 1 (sqRow N (M j))
def sqH (n N : Nat) (M : Nat → Nat → Nat) (c : Nat) : AH := ⟨.cells n 1 (sqTop N (n + 1) N) :: sqBs N (n + 1) N M, c⟩
theorem sqRow_get {N b : Nat} {f : Nat → Nat} (h : b < N) : (sqRow N f)[b]? = some (Z (f b)) := by simp [sqRow, h]
theorem sqRow_len (N : Nat) (f : Nat → Nat) : (sqRow N f).length = N := by simp [sqRow]
theorem sqTop_get {N c0 a j : Nat} (h : j < N) (ha : j < a) : (sqTop N c0 a)[j]? = some (.slL (1 + j) 0 N (c0 + j)) := by simp [sqTop, h, ha]
theorem sqTop_len (N c0 a : Nat) : (sqTop N c0 a).length = N := by simp [sqTop]
theorem sqTop_set {N c0 a : Nat} (h : a < N) : (sqTop N c0 a).set a (.slL (1 + a) 0 N (c0 + a)) = sqTop N c0 (a + 1) := by
  refine List.ext_getElem? fun j => ?_
  by_cases hj : j < N
  · by_cases e : a = j
    · subst e; simp [sqTop, h]
    · rw [List.getElem?_set_ne e]
      simp [sqTop, hj, show (j < a + 1) = (j < a) by simp; omega]
  · rw [List.getElem?_eq_none (by simp [sqTop]; omega), List.getElem?_eq_none (by simp [sqTop]; omega)]
theorem sqBs_snoc (N c0 a : Nat) (M : Nat → Nat → Nat) : sqBs N c0 (a + 1) M = sqBs N c0 a M ++ [.cells (c0 + a) 1 (sqRow N (M a))] := by simp [sqBs, List.range_succ]
theorem sqBs_len (N c0 a : Nat) (M : Nat → Nat → Nat) : (sqBs N c0 a M).length = a := by simp [sqBs]
theorem sqH_top {n N c : Nat} {M : Nat → Nat → Nat} : (sqH n N M c).bs[0]? = some (.cells n 1 (sqTop N (n + 1) N)) := rfl
theorem sqH_row {n N c a : Nat} {M : Nat → Nat → Nat} (h : a < N) : (sqH n N M c).bs[1 + a]? = some (.cells (n + 1 + a) 1 (sqRow N (M a))) := by
  simp [sqH, show 1 + a = a + 1 by omega, sqBs, h]
theorem sqH_congr {n N c : Nat} {M M' : Nat → Nat → Nat} (h : ∀ x y, x < N → y < N → M x y = M' x y) : sqH n N M c = sqH n N M' c := by
  have : sqBs N (n + 1) N M = sqBs N (n + 1) N M' := by
    refine List.map_congr_left fun j hj => ?_
    rw [List.mem_range] at hj
    have : sqRow N (M j) = sqRow N (M' j) := List.map_congr_left fun b hb => by rw [h j b hj (List.mem_range.1 hb)]
    rw [this]
  simp only [sqH, this]
theorem sqH_set {n N c a b d : Nat} {M M' : Nat → Nat → Nat} (ha : a < N) (hb : b < N) (h1 : M' a b = d) (h2 : ∀ x y, x < N → y < N → ¬ (x = a ∧ y = b) → M' x y = M x y) :
    (⟨(sqH n N M c).bs.set (1 + a) (.cells (n + 1 + a) 1 ((sqRow N (M a)).set b (Z d))), (sqH n N M c).ctr⟩ : AH) = sqH n N M' c := by
  have e1 : (sqRow N (M a)).set b (Z d) = sqRow N (M' a) := by
    refine List.ext_getElem? fun j => ?_
    by_cases hj : j < N
    · by_cases e : b = j
      · subst e; simp [sqRow, hb, h1]
      · rw [List.getElem?_set_ne e, sqRow_get hj, sqRow_get hj, h2 a j ha hj (by omega)]
    · rw [List.getElem?_eq_none (by simp [sqRow]; omega), List.getElem?_eq_none (by simp [sqRow]; omega)]
  rw [e1]
  simp only [sqH, show 1 + a = a + 1 by omega, List.set_cons_succ]
  congr 2
  refine List.ext_getElem? fun j => ?_
  by_cases hj : j < N
  · by_cases e : a = j
    · subst e; simp [sqBs, ha]
    · rw [List.getElem?_set_ne e]
      simp only [sqBs, List.getElem?_map, List.getElem?_range hj, Option.map_some]
      have : sqRow N (M j) = sqRow N (M' j) := List.map_congr_left fun b hb => by rw [h2 j b hj (List.mem_range.1 hb) (by omega)]
      rw [this]
  · rw [List.getElem?_eq_none (by simp [sqBs]; omega), List.getElem?_eq_none (by simp [sqBs]; omega)]
def sqL (N : Nat) (M : Nat → Nat → Nat) : List (List Int) := (List.range N).map fun a => (List.range N).map fun b => ((M a b : Nat) : Int)
theorem sq_fk {n N c : Nat} {M : Nat → Nat → Nat} : Fk (sqH n N M c) S0 (.slL 0 0 N n) (LLI (sqL N M)) := by
  refine (Fk.slF (ys := (List.range N).map fun a => .slF (sqRow N (M a)) 0 N) N (by exact sqH_top) rfl ?_).then ?_
  · have e : ((sqTop N (n + 1) N).drop 0).take N = (List.range N).map fun j => AV.slL (1 + j) 0 N (n + 1 + j) := by
      rw [List.drop_zero, List.take_of_length_le (by simp [sqTop])]
      exact List.map_congr_left fun j hj => by rw [if_pos (List.mem_range.1 hj)]
    rw [e]
    have : ∀ l : List Nat, (∀ j ∈ l, j < N) → FkL (sqH n N M c) S0 (l.map fun j => AV.slL (1 + j) 0 N (n + 1 + j)) (l.map fun a => .slF (sqRow N (M a)) 0 N) := by
      intro l
      induction l with
      | nil => intro _; exact .nil
      | cons j l ih =>
        intro h
        refine .cons (Fk.slF N (sqH_row (h j (by simp))) rfl ?_) (ih fun i hi => h i (by simp [hi]))
        rw [List.drop_zero, List.take_of_length_le (by simp [sqRow])]
        exact .same _
    exact this _ fun j hj => List.mem_range.1 hj
  · have : ∀ l : List Nat, SubL (l.map fun a => AV.slF (sqRow N (M a)) 0 N) (l.map fun a => LI ((List.range N).map fun b => ((M a b : Nat) : Int))) := by
      intro l
      induction l with
      | nil => exact .nil
      | cons j l ih =>
        refine .cons ?_ ih
        simp only [LI, Lm, List.length_map, List.length_range, List.map_map]
        exact .F (.refl _)
    have h := Sub.F (len := N) (this (List.range N))
    simpa [LLI, Lm, sqL, Function.comp_def] using h

def upto (x y a b : Nat) : Prop := x < a ∨ (x = a ∧ y < b)
section
variable {E : Env} {P : Program}
set_option maxHeartbeats 1000000 in
theorem apart_spec (hB : Body1 E P 85 F.ref_Table_apart) (t : Table) (hg : Good t) : FX E P 85 [Tb t] (LLI (sqL t.next.length (mk t (finK t)))) := by
  refine FX.of (by simp [AV.closedL, Tb_closed]) (LLI_closed _) fun n R hR => hB _ _ _ ?_
  have g1 := hg.pos; have g2 := hg.few; have g3 := hg.wide; have g4 := hg.tells
  obtain ⟨hK1, hK⟩ := finK_spec hg
  unfold F.ref_Table_apart
  simp only [Tb]
  refine wNew.F' (l := [LLI t.next, LLI t.tells]) rfl ?_
  simp only [Y0, Y1, Y2, Y3, Y4, Y5, Y6, Y7, Y8, Y9, Ya, Yb, Yc, Yd, Ye, Yf, Yg, Yh, Yi, Yj, Yk, Yl, Ym, Yn, Yo, Yp, Yq, Yr, Ys, Yt, Yu, Yv, Yw, Yx, Yy, Yz, Y10, Y11, Y12, Y13, Y14, Y15, Y16, Y17, Y18, Y19, Y1a, Y1b, Y1c, Y1d, Y1e, Y1f, Y1g, Y1h, Y1i, Y1j, Y1k, Y1l, AV.cells?, Y1n, Y1o, Y1p, Y1q, Y1r, Y1s, Y1t, Nat.reduceAdd, Nat.reduceMul, Y1w, Y1x, Y1y, Y1z, Y20, Y21, Y22, Y23, Y24, Y25, Y26, Y27, Y28, Y29, Y2a, Y2b, lenA_LLI]
  generalize hN : t.next.length = N at *
  refine wMake.L (makeA_n (by simp [mostBytes]; omega)) ?_
  simp only [Y0, Y1, Y2, Y3, Y4, Y5, Y6, Y7, Y8, Y9, Ya, Yb, Yc, Yd, Ye, Yf, Yg, Yh, Yi, Yj, Yk, Yl, Ym, Yn, Yo, Yp, Yq, Yr, Ys, Yt, Yu, Yv, Yw, Yx, Yy, Yz, Y10, Y11, Y12, Y13, Y14, Y15, Y16, Y17, Y18, Y19, Y1a, Y1b, Y1c, Y1d, Y1e, Y1f, Y1g, Y1h, Y1i, Y1j, Y1k, Y1l, AV.cells?, Y1n, Y1o, Y1p, Y1q, Y1r, Y1s, Y1t, Nat.reduceAdd, Nat.reduceMul, Y1w, Y1x, Y1y, Y1z, Y20, Y21, Y22, Y23, Y24, Y25, Y26, Y27, Y28, Y29, Y2a, Y2b]
  refine wLoop.one (fun m x H => ∃ a : Nat, a + m = N ∧ x = Z a ∧ H = ⟨.cells n 1 (sqTop N (n + 1) a) :: sqBs N (n + 1) a (fun _ _ => 0), n + 1 + a⟩) N (gh1.mk ⟨0, by omega, rfl, ?_⟩) ?_
  · have : (List.replicate N [AV.val (.slice none 0 0)]).flatten = sqTop N (n + 1) 0 := by
      refine List.ext_getElem? fun j => ?_
      by_cases hj : j < N
      · simp [sqTop, hj]
      · simp [sqTop, hj]
    rw [this]
    simp [sqBs]
  rintro m x H ⟨a, ham, rfl, rfl⟩
  by_cases ha : a < N
  · simp only [Y0, Y1, Y2, Y3, Y4, Y5, Y6, Y7, Y8, Y9, Ya, Yb, Yc, Yd, Ye, Yf, Yg, Yh, Yi, Yj, Yk, Yl, Ym, Yn, Yo, Yp, Yq, Yr, Ys, Yt, Yu, Yv, Yw, Yx, Yy, Yz, Y10, Y11, Y12, Y13, Y14, Y15, Y16, Y17, Y18, Y19, Y1a, Y1b, Y1c, Y1d, Y1e, Y1f, Y1g, Y1h, Y1i, Y1j, Y1k, Y1l, AV.cells?, Y1n, Y1o, Y1p, Y1q, Y1r, Y1s, Y1t, Nat.reduceAdd, Nat.reduceMul, Y1w, Y1x, Y1y, Y1z, Y20, Y21, Y22, Y23, Y24, Y25, Y26, Y27, Y28, Y29, Y2a, Y2b, decide_eq_true (show (a : Int) < (N : Int) by omega)]
    refine wMake.L (makeA_n (by simp [mostBytes]; omega)) ?_
    rw [iaddr_Ln ha]
    simp only [Y0, Y1, Y2, Y3, Y4, Y5, Y6, Y7, Y8, Y9, Ya, Yb, Yc, Yd, Ye, Yf, Yg, Yh, Yi, Yj, Yk, Yl, Ym, Yn, Yo, Yp, Yq, Yr, Ys, Yt, Yu, Yv, Yw, Yx, Yy, Yz, Y10, Y11, Y12, Y13, Y14, Y15, Y16, Y17, Y18, Y19, Y1a, Y1b, Y1c, Y1d, Y1e, Y1f, Y1g, Y1h, Y1i, Y1j, Y1k, Y1l, AV.cells?, Y1n, Y1o, Y1p, Y1q, Y1r, Y1s, Y1t, Nat.reduceAdd, Nat.reduceMul, Y1w, Y1x, Y1y, Y1z, Y20, Y21, Y22, Y23, Y24, Y25, Y26, Y27, Y28, Y29, Y2a, Y2b, sqBs_len]
    rw [store1_L rfl]
    simp only [Y0, Y1, Y2, Y3, Y4, Y5, Y6, Y7, Y8, Y9, Ya, Yb, Yc, Yd, Ye, Yf, Yg, Yh, Yi, Yj, Yk, Yl, Ym, Yn, Yo, Yp, Yq, Yr, Ys, Yt, Yu, Yv, Yw, Yx, Yy, Yz, Y10, Y11, Y12, Y13, Y14, Y15, Y16, Y17, Y18, Y19, Y1a, Y1b, Y1c, Y1d, Y1e, Y1f, Y1g, Y1h, Y1i, Y1j, Y1k, Y1l, AV.cells?, Y1n, Y1o, Y1p, Y1q, Y1r, Y1s, Y1t, Nat.reduceAdd, Nat.reduceMul, Y1w, Y1x, Y1y, Y1z, Y20, Y21, Y22, Y23, Y24, Y25, Y26, Y27, Y28, Y29, Y2a, Y2b, sqTop_len, ha]
    rw [binA_succ (by omega)]
    simp only [Y0, Y1, Y2, Y3, Y4, Y5, Y6, Y7, Y8, Y9, Ya, Yb, Yc, Yd, Ye, Yf, Yg, Yh, Yi, Yj, Yk, Yl, Ym, Yn, Yo, Yp, Yq, Yr, Ys, Yt, Yu, Yv, Yw, Yx, Yy, Yz, Y10, Y11, Y12, Y13, Y14, Y15, Y16, Y17, Y18, Y19, Y1a, Y1b, Y1c, Y1d, Y1e, Y1f, Y1g, Y1h, Y1i, Y1j, Y1k, Y1l, AV.cells?, Y1n, Y1o, Y1p, Y1q, Y1r, Y1s, Y1t, Nat.reduceAdd, Nat.reduceMul, Y1w, Y1x, Y1y, Y1z, Y20, Y21, Y22, Y23, Y24, Y25, Y26, Y27, Y28, Y29, Y2a, Y2b]
    refine back1.mk (m - 1) (by omega) ⟨a + 1, by omega, rfl, ?_⟩
    rw [sqBs_snoc]
    have e2 : (List.replicate N [Z 0]).flatten = sqRow N fun _ => 0 := by
      refine List.ext_getElem? fun j => ?_
      by_cases hj : j < N <;> simp [sqRow, hj]
    rw [show a + 1 = 1 + a by omega, sqTop_set ha, e2, show n + 1 + (1 + a) = n + 1 + a + 1 by omega, show 1 + a = a + 1 by omega]
  have : a = N := by omega
  subst this
  simp only [Y0, Y1, Y2, Y3, Y4, Y5, Y6, Y7, Y8, Y9, Ya, Yb, Yc, Yd, Ye, Yf, Yg, Yh, Yi, Yj, Yk, Yl, Ym, Yn, Yo, Yp, Yq, Yr, Ys, Yt, Yu, Yv, Yw, Yx, Yy, Yz, Y10, Y11, Y12, Y13, Y14, Y15, Y16, Y17, Y18, Y19, Y1a, Y1b, Y1c, Y1d, Y1e, Y1f, Y1g, Y1h, Y1i, Y1j, Y1k, Y1l, AV.cells?, Y1n, Y1o, Y1p, Y1q, Y1r, Y1s, Y1t, Nat.reduceAdd, Nat.reduceMul, Y1w, Y1x, Y1y, Y1z, Y20, Y21, Y22, Y23, Y24, Y25, Y26, Y27, Y28, Y29, Y2a, Y2b, Int.lt_irrefl]
  refine wLoop.one (fun m x H => ∃ (d c : Nat), d + m = finK t ∧ x = Z ((d + 1 : Nat) : Int) ∧ H = sqH n a (mk t d) c) (finK t) (gh1.mk ⟨0, n + 1 + a, by omega, rfl, rfl⟩) ?_
  rintro m2 x H ⟨d, c, hdm, rfl, rfl⟩
  refine wLoop.two (fun m f x H => ∃ (fb : Bool) (i : Nat), i + m = a ∧ x = Z i ∧ f = Bo fb ∧ H = sqH n a (mid t d i 0) c ∧ (fb = true → ∃ x y, x < a ∧ y < a ∧ mk t (d + 1) x y ≠ mk t d x y) ∧ (fb = false → ∀ x y, upto x y i 0 → y < a → mk t (d + 1) x y = mk t d x y)) a
    (gh2.mk ⟨false, 0, by omega, rfl, rfl, ?_, by simp, fun _ x y h => ?_⟩) ?_
  · exact sqH_congr fun x y _ _ => by simp [mid]
  · simp [upto] at h
  rintro m3 f x H ⟨fb, i, him, rfl, rfl, rfl, hf1, hf2⟩
  by_cases hi : i < a
  case neg =>
    have : i = a := by omega
    subst this
    simp only [Y0, Y1, Y2, Y3, Y4, Y5, Y6, Y7, Y8, Y9, Ya, Yb, Yc, Yd, Ye, Yf, Yg, Yh, Yi, Yj, Yk, Yl, Ym, Yn, Yo, Yp, Yq, Yr, Ys, Yt, Yu, Yv, Yw, Yx, Yy, Yz, Y10, Y11, Y12, Y13, Y14, Y15, Y16, Y17, Y18, Y19, Y1a, Y1b, Y1c, Y1d, Y1e, Y1f, Y1g, Y1h, Y1i, Y1j, Y1k, Y1l, AV.cells?, Y1n, Y1o, Y1p, Y1q, Y1r, Y1s, Y1t, Nat.reduceAdd, Nat.reduceMul, Y1w, Y1x, Y1y, Y1z, Y20, Y21, Y22, Y23, Y24, Y25, Y26, Y27, Y28, Y29, Y2a, Y2b, Int.lt_irrefl]
    cases fb with
    | false =>
      simp only [Y0, Y1, Y2, Y3, Y4, Y5, Y6, Y7, Y8, Y9, Ya, Yb, Yc, Yd, Ye, Yf, Yg, Yh, Yi, Yj, Yk, Yl, Ym, Yn, Yo, Yp, Yq, Yr, Ys, Yt, Yu, Yv, Yw, Yx, Yy, Yz, Y10, Y11, Y12, Y13, Y14, Y15, Y16, Y17, Y18, Y19, Y1a, Y1b, Y1c, Y1d, Y1e, Y1f, Y1g, Y1h, Y1i, Y1j, Y1k, Y1l, AV.cells?, Y1n, Y1o, Y1p, Y1q, Y1r, Y1s, Y1t, Nat.reduceAdd, Nat.reduceMul, Y1w, Y1x, Y1y, Y1z, Y20, Y21, Y22, Y23, Y24, Y25, Y26, Y27, Y28, Y29, Y2a, Y2b]
      have hall : ∀ x y, x < i → y < i → mk t (d + 1) x y = mk t d x y := fun x y hx hy => hf2 rfl x y (.inl hx) hy
      have hdK : d = finK t := last_no hK (by omega) (by rw [hN]; exact hall)
      refine hR _ _ ?_
      have e : sqL i (mid t d i 0) = sqL i (mk t (finK t)) := by
        refine List.map_congr_left fun x hx => List.map_congr_left fun y hy => ?_
        rw [List.mem_range] at hx hy
        rw [← hdK]
        simp only [mid]
        rw [if_pos (.inl hx), hall x y hx hy]
      rw [← e]
      exact sq_fk
    | true =>
      simp only [Y0, Y1, Y2, Y3, Y4, Y5, Y6, Y7, Y8, Y9, Ya, Yb, Yc, Yd, Ye, Yf, Yg, Yh, Yi, Yj, Yk, Yl, Ym, Yn, Yo, Yp, Yq, Yr, Ys, Yt, Yu, Yv, Yw, Yx, Yy, Yz, Y10, Y11, Y12, Y13, Y14, Y15, Y16, Y17, Y18, Y19, Y1a, Y1b, Y1c, Y1d, Y1e, Y1f, Y1g, Y1h, Y1i, Y1j, Y1k, Y1l, AV.cells?, Y1n, Y1o, Y1p, Y1q, Y1r, Y1s, Y1t, Nat.reduceAdd, Nat.reduceMul, Y1w, Y1x, Y1y, Y1z, Y20, Y21, Y22, Y23, Y24, Y25, Y26, Y27, Y28, Y29, Y2a, Y2b]
      obtain ⟨x, y, hx, hy, hne⟩ := hf1 rfl
      have := last_more hK (show d ≤ finK t by omega) (by omega) (by omega) hne
      rw [binA_succ (by omega)]
      simp only [Y0, Y1, Y2, Y3, Y4, Y5, Y6, Y7, Y8, Y9, Ya, Yb, Yc, Yd, Ye, Yf, Yg, Yh, Yi, Yj, Yk, Yl, Ym, Yn, Yo, Yp, Yq, Yr, Ys, Yt, Yu, Yv, Yw, Yx, Yy, Yz, Y10, Y11, Y12, Y13, Y14, Y15, Y16, Y17, Y18, Y19, Y1a, Y1b, Y1c, Y1d, Y1e, Y1f, Y1g, Y1h, Y1i, Y1j, Y1k, Y1l, AV.cells?, Y1n, Y1o, Y1p, Y1q, Y1r, Y1s, Y1t, Nat.reduceAdd, Nat.reduceMul, Y1w, Y1x, Y1y, Y1z, Y20, Y21, Y22, Y23, Y24, Y25, Y26, Y27, Y28, Y29, Y2a, Y2b]
      refine back1.mk (m2 - 1) (by omega) ⟨d + 1, c, by omega, rfl, sqH_congr fun x y hx _ => ?_⟩
      simp only [mid]; rw [if_pos (.inl hx)]
  simp only [Y0, Y1, Y2, Y3, Y4, Y5, Y6, Y7, Y8, Y9, Ya, Yb, Yc, Yd, Ye, Yf, Yg, Yh, Yi, Yj, Yk, Yl, Ym, Yn, Yo, Yp, Yq, Yr, Ys, Yt, Yu, Yv, Yw, Yx, Yy, Yz, Y10, Y11, Y12, Y13, Y14, Y15, Y16, Y17, Y18, Y19, Y1a, Y1b, Y1c, Y1d, Y1e, Y1f, Y1g, Y1h, Y1i, Y1j, Y1k, Y1l, AV.cells?, Y1n, Y1o, Y1p, Y1q, Y1r, Y1s, Y1t, Nat.reduceAdd, Nat.reduceMul, Y1w, Y1x, Y1y, Y1z, Y20, Y21, Y22, Y23, Y24, Y25, Y26, Y27, Y28, Y29, Y2a, Y2b, decide_eq_true (show (i : Int) < (a : Int) by omega)]
  refine wLoop.two (fun m f x H => ∃ (fb : Bool) (j : Nat), j + m = a ∧ x = Z j ∧ f = Bo fb ∧ H = sqH n a (mid t d i j) c ∧ (fb = true → ∃ x y, x < a ∧ y < a ∧ mk t (d + 1) x y ≠ mk t d x y) ∧ (fb = false → ∀ x y, upto x y i j → y < a → mk t (d + 1) x y = mk t d x y)) a
    (gh2.mk ⟨fb, 0, by omega, rfl, rfl, rfl, hf1, hf2⟩) ?_
  rintro m4 f x H ⟨fb2, j, hjm, rfl, rfl, rfl, hf3, hf4⟩
  by_cases hj : j < a
  case neg =>
    have : j = a := by omega
    subst this
    simp only [Y0, Y1, Y2, Y3, Y4, Y5, Y6, Y7, Y8, Y9, Ya, Yb, Yc, Yd, Ye, Yf, Yg, Yh, Yi, Yj, Yk, Yl, Ym, Yn, Yo, Yp, Yq, Yr, Ys, Yt, Yu, Yv, Yw, Yx, Yy, Yz, Y10, Y11, Y12, Y13, Y14, Y15, Y16, Y17, Y18, Y19, Y1a, Y1b, Y1c, Y1d, Y1e, Y1f, Y1g, Y1h, Y1i, Y1j, Y1k, Y1l, AV.cells?, Y1n, Y1o, Y1p, Y1q, Y1r, Y1s, Y1t, Nat.reduceAdd, Nat.reduceMul, Y1w, Y1x, Y1y, Y1z, Y20, Y21, Y22, Y23, Y24, Y25, Y26, Y27, Y28, Y29, Y2a, Y2b, Int.lt_irrefl]
    rw [binA_succ (by omega)]
    simp only [Y0, Y1, Y2, Y3, Y4, Y5, Y6, Y7, Y8, Y9, Ya, Yb, Yc, Yd, Ye, Yf, Yg, Yh, Yi, Yj, Yk, Yl, Ym, Yn, Yo, Yp, Yq, Yr, Ys, Yt, Yu, Yv, Yw, Yx, Yy, Yz, Y10, Y11, Y12, Y13, Y14, Y15, Y16, Y17, Y18, Y19, Y1a, Y1b, Y1c, Y1d, Y1e, Y1f, Y1g, Y1h, Y1i, Y1j, Y1k, Y1l, AV.cells?, Y1n, Y1o, Y1p, Y1q, Y1r, Y1s, Y1t, Nat.reduceAdd, Nat.reduceMul, Y1w, Y1x, Y1y, Y1z, Y20, Y21, Y22, Y23, Y24, Y25, Y26, Y27, Y28, Y29, Y2a, Y2b]
    refine back2.mk (m3 - 1) (by omega) ⟨fb2, i + 1, by omega, rfl, rfl, sqH_congr fun x y hx hy => ?_, hf3, fun h x y hu hy => hf4 h x y ?_ hy⟩
    · simp only [mid]
      have : (x < i ∨ x = i ∧ y < j) ↔ (x < i + 1 ∨ x = i + 1 ∧ y < 0) := by omega
      simp only [this]
    · unfold upto at *; omega
  simp only [Y0, Y1, Y2, Y3, Y4, Y5, Y6, Y7, Y8, Y9, Ya, Yb, Yc, Yd, Ye, Yf, Yg, Yh, Yi, Yj, Yk, Yl, Ym, Yn, Yo, Yp, Yq, Yr, Ys, Yt, Yu, Yv, Yw, Yx, Yy, Yz, Y10, Y11, Y12, Y13, Y14, Y15, Y16, Y17, Y18, Y19, Y1a, Y1b, Y1c, Y1d, Y1e, Y1f, Y1g, Y1h, Y1i, Y1j, Y1k, Y1l, AV.cells?, Y1n, Y1o, Y1p, Y1q, Y1r, Y1s, Y1t, Nat.reduceAdd, Nat.reduceMul, Y1w, Y1x, Y1y, Y1z, Y20, Y21, Y22, Y23, Y24, Y25, Y26, Y27, Y28, Y29, Y2a, Y2b, decide_eq_true (show (j : Int) < (a : Int) by omega)]
  have hia : i < t.next.length := by omega
  have hja : j < t.next.length := by omega
  have hri := hg.rows i hia
  have hrj := hg.rows j hja
  refine wJoin.one (fun f H => ∃ fb : Bool, f = Bo fb ∧ H = sqH n a (mid t d i (j + 1)) c ∧ (fb = true → ∃ x y, x < a ∧ y < a ∧ mk t (d + 1) x y ≠ mk t d x y) ∧ (fb = false → ∀ x y, upto x y i (j + 1) → y < a → mk t (d + 1) x y = mk t d x y)) ?_ ?_
  case refine_2 =>
    rintro f H ⟨fb3, rfl, rfl, hf5, hf6⟩
    rw [binA_succ (by omega)]
    simp only [Y0, Y1, Y2, Y3, Y4, Y5, Y6, Y7, Y8, Y9, Ya, Yb, Yc, Yd, Ye, Yf, Yg, Yh, Yi, Yj, Yk, Yl, Ym, Yn, Yo, Yp, Yq, Yr, Ys, Yt, Yu, Yv, Yw, Yx, Yy, Yz, Y10, Y11, Y12, Y13, Y14, Y15, Y16, Y17, Y18, Y19, Y1a, Y1b, Y1c, Y1d, Y1e, Y1f, Y1g, Y1h, Y1i, Y1j, Y1k, Y1l, AV.cells?, Y1n, Y1o, Y1p, Y1q, Y1r, Y1s, Y1t, Nat.reduceAdd, Nat.reduceMul, Y1w, Y1x, Y1y, Y1z, Y20, Y21, Y22, Y23, Y24, Y25, Y26, Y27, Y28, Y29, Y2a, Y2b]
    exact back2.mk (m4 - 1) (by omega) ⟨fb3, j + 1, by omega, rfl, rfl, rfl, hf5, hf6⟩
  -- a pair that the round leaves as it is
  have keep : mk t (d + 1) i j = mk t d i j → ∃ fb : Bool, Bo fb2 = Bo fb ∧ sqH n a (mid t d i j) c = sqH n a (mid t d i (j + 1)) c ∧ (fb = true → ∃ x y, x < a ∧ y < a ∧ mk t (d + 1) x y ≠ mk t d x y) ∧ (fb = false → ∀ x y, upto x y i (j + 1) → y < a → mk t (d + 1) x y = mk t d x y) := by
    intro he
    refine ⟨fb2, rfl, sqH_congr fun x y _ _ => ?_, hf3, fun h x y hu hy => ?_⟩
    · by_cases e : x = i ∧ y = j
      · obtain ⟨rfl, rfl⟩ := e
        simp [mid, he]
      · have : (x < i ∨ x = i ∧ y < j) ↔ (x < i ∨ x = i ∧ y < j + 1) := by omega
        simp only [mid, this]
    · by_cases e : x = i ∧ y = j
      · obtain ⟨rfl, rfl⟩ := e
        exact he
      · refine hf4 h x y ?_ hy
        unfold upto at *; omega
  rw [iaddr_Ln hi]
  simp only [Y0, Y1, Y2, Y3, Y4, Y5, Y6, Y7, Y8, Y9, Ya, Yb, Yc, Yd, Ye, Yf, Yg, Yh, Yi, Yj, Yk, Yl, Ym, Yn, Yo, Yp, Yq, Yr, Ys, Yt, Yu, Yv, Yw, Yx, Yy, Yz, Y10, Y11, Y12, Y13, Y14, Y15, Y16, Y17, Y18, Y19, Y1a, Y1b, Y1c, Y1d, Y1e, Y1f, Y1g, Y1h, Y1i, Y1j, Y1k, Y1l, AV.cells?, Y1n, Y1o, Y1p, Y1q, Y1r, Y1s, Y1t, Nat.reduceAdd, Nat.reduceMul, Y1w, Y1x, Y1y, Y1z, Y20, Y21, Y22, Y23, Y24, Y25, Y26, Y27, Y28, Y29, Y2a, Y2b, sqH_top, sqTop_get hi hi]
  rw [iaddr_Ln hj]
  simp only [Y0, Y1, Y2, Y3, Y4, Y5, Y6, Y7, Y8, Y9, Ya, Yb, Yc, Yd, Ye, Yf, Yg, Yh, Yi, Yj, Yk, Yl, Ym, Yn, Yo, Yp, Yq, Yr, Ys, Yt, Yu, Yv, Yw, Yx, Yy, Yz, Y10, Y11, Y12, Y13, Y14, Y15, Y16, Y17, Y18, Y19, Y1a, Y1b, Y1c, Y1d, Y1e, Y1f, Y1g, Y1h, Y1i, Y1j, Y1k, Y1l, AV.cells?, Y1n, Y1o, Y1p, Y1q, Y1r, Y1s, Y1t, Nat.reduceAdd, Nat.reduceMul, Y1w, Y1x, Y1y, Y1z, Y20, Y21, Y22, Y23, Y24, Y25, Y26, Y27, Y28, Y29, Y2a, Y2b, sqH_row hi, sqRow_get hj]
  have hmid : mid t d i j i j = mk t d i j := by simp [mid]
  rw [hmid]
  by_cases h0 : (0 : Int) < (mk t d i j : Int)
  · simp only [Y0, Y1, Y2, Y3, Y4, Y5, Y6, Y7, Y8, Y9, Ya, Yb, Yc, Yd, Ye, Yf, Yg, Yh, Yi, Yj, Yk, Yl, Ym, Yn, Yo, Yp, Yq, Yr, Ys, Yt, Yu, Yv, Yw, Yx, Yy, Yz, Y10, Y11, Y12, Y13, Y14, Y15, Y16, Y17, Y18, Y19, Y1a, Y1b, Y1c, Y1d, Y1e, Y1f, Y1g, Y1h, Y1i, Y1j, Y1k, Y1l, AV.cells?, Y1n, Y1o, Y1p, Y1q, Y1r, Y1s, Y1t, Nat.reduceAdd, Nat.reduceMul, Y1w, Y1x, Y1y, Y1z, Y20, Y21, Y22, Y23, Y24, Y25, Y26, Y27, Y28, Y29, Y2a, Y2b, decide_eq_true h0]
    exact gh1.mk (keep (mk_step (by omega)))
  simp only [Y0, Y1, Y2, Y3, Y4, Y5, Y6, Y7, Y8, Y9, Ya, Yb, Yc, Yd, Ye, Yf, Yg, Yh, Yi, Yj, Yk, Yl, Ym, Yn, Yo, Yp, Yq, Yr, Ys, Yt, Yu, Yv, Yw, Yx, Yy, Yz, Y10, Y11, Y12, Y13, Y14, Y15, Y16, Y17, Y18, Y19, Y1a, Y1b, Y1c, Y1d, Y1e, Y1f, Y1g, Y1h, Y1i, Y1j, Y1k, Y1l, AV.cells?, Y1n, Y1o, Y1p, Y1q, Y1r, Y1s, Y1t, Nat.reduceAdd, Nat.reduceMul, Y1w, Y1x, Y1y, Y1z, Y20, Y21, Y22, Y23, Y24, Y25, Y26, Y27, Y28, Y29, Y2a, Y2b, decide_eq_false h0]
  have h0' : mk t d i j = 0 := by omega
  have hround := round_is hg hia hja h0'
  rw [iaddr_LLI hia]
  simp only [Y0, Y1, Y2, Y3, Y4, Y5, Y6, Y7, Y8, Y9, Ya, Yb, Yc, Yd, Ye, Yf, Yg, Yh, Yi, Yj, Yk, Yl, Ym, Yn, Yo, Yp, Yq, Yr, Ys, Yt, Yu, Yv, Yw, Yx, Yy, Yz, Y10, Y11, Y12, Y13, Y14, Y15, Y16, Y17, Y18, Y19, Y1a, Y1b, Y1c, Y1d, Y1e, Y1f, Y1g, Y1h, Y1i, Y1j, Y1k, Y1l, AV.cells?, Y1n, Y1o, Y1p, Y1q, Y1r, Y1s, Y1t, Nat.reduceAdd, Nat.reduceMul, Y1w, Y1x, Y1y, Y1z, Y20, Y21, Y22, Y23, Y24, Y25, Y26, Y27, Y28, Y29, Y2a, Y2b, row_get hia, lenA_LI]
  refine wLoop.two (fun m f x H => ∃ q : Nat, q + m = (row t.next 0).length ∧ x = Z q ∧ f = Bo fb2 ∧ H = sqH n a (mid t d i j) c ∧ ∀ p, p < q → pr t d i j p = false) (row t.next 0).length
    (gh2.mk ⟨0, by omega, rfl, rfl, rfl, by simp⟩) ?_
  rintro m5 f x H ⟨q, hqm, rfl, rfl, rfl, hpre⟩
  by_cases hq : q < (row t.next 0).length
  case neg =>
    have : q = (row t.next 0).length := by omega
    subst this
    simp only [Y0, Y1, Y2, Y3, Y4, Y5, Y6, Y7, Y8, Y9, Ya, Yb, Yc, Yd, Ye, Yf, Yg, Yh, Yi, Yj, Yk, Yl, Ym, Yn, Yo, Yp, Yq, Yr, Ys, Yt, Yu, Yv, Yw, Yx, Yy, Yz, Y10, Y11, Y12, Y13, Y14, Y15, Y16, Y17, Y18, Y19, Y1a, Y1b, Y1c, Y1d, Y1e, Y1f, Y1g, Y1h, Y1i, Y1j, Y1k, Y1l, AV.cells?, Y1n, Y1o, Y1p, Y1q, Y1r, Y1s, Y1t, Nat.reduceAdd, Nat.reduceMul, Y1w, Y1x, Y1y, Y1z, Y20, Y21, Y22, Y23, Y24, Y25, Y26, Y27, Y28, Y29, Y2a, Y2b, hri.1, Int.lt_irrefl]
    refine gh1.mk (keep ?_)
    rw [hround, h0', if_neg]
    simp only [List.any_eq_true, not_exists, not_and]
    intro p hp
    rw [hpre p (List.mem_range.1 hp)]
    simp
  have hqi : q < (row t.next i).length := by omega
  have hqj : q < (row t.next j).length := by omega
  have nx := hg.next_in hia hq
  have ny := hg.next_in hja hq
  simp only [Y0, Y1, Y2, Y3, Y4, Y5, Y6, Y7, Y8, Y9, Ya, Yb, Yc, Yd, Ye, Yf, Yg, Yh, Yi, Yj, Yk, Yl, Ym, Yn, Yo, Yp, Yq, Yr, Ys, Yt, Yu, Yv, Yw, Yx, Yy, Yz, Y10, Y11, Y12, Y13, Y14, Y15, Y16, Y17, Y18, Y19, Y1a, Y1b, Y1c, Y1d, Y1e, Y1f, Y1g, Y1h, Y1i, Y1j, Y1k, Y1l, AV.cells?, Y1n, Y1o, Y1p, Y1q, Y1r, Y1s, Y1t, Nat.reduceAdd, Nat.reduceMul, Y1w, Y1x, Y1y, Y1z, Y20, Y21, Y22, Y23, Y24, Y25, Y26, Y27, Y28, Y29, Y2a, Y2b, hri.1, decide_eq_true (show (q : Int) < ((row t.next 0).length : Int) by omega)]
  rw [iaddr_LI hqi]
  simp only [Y0, Y1, Y2, Y3, Y4, Y5, Y6, Y7, Y8, Y9, Ya, Yb, Yc, Yd, Ye, Yf, Yg, Yh, Yi, Yj, Yk, Yl, Ym, Yn, Yo, Yp, Yq, Yr, Ys, Yt, Yu, Yv, Yw, Yx, Yy, Yz, Y10, Y11, Y12, Y13, Y14, Y15, Y16, Y17, Y18, Y19, Y1a, Y1b, Y1c, Y1d, Y1e, Y1f, Y1g, Y1h, Y1i, Y1j, Y1k, Y1l, AV.cells?, Y1n, Y1o, Y1p, Y1q, Y1r, Y1s, Y1t, Nat.reduceAdd, Nat.reduceMul, Y1w, Y1x, Y1y, Y1z, Y20, Y21, Y22, Y23, Y24, Y25, Y26, Y27, Y28, Y29, Y2a, Y2b, cell_at hqi]
  rw [iaddr_LLI hja]
  simp only [Y0, Y1, Y2, Y3, Y4, Y5, Y6, Y7, Y8, Y9, Ya, Yb, Yc, Yd, Ye, Yf, Yg, Yh, Yi, Yj, Yk, Yl, Ym, Yn, Yo, Yp, Yq, Yr, Ys, Yt, Yu, Yv, Yw, Yx, Yy, Yz, Y10, Y11, Y12, Y13, Y14, Y15, Y16, Y17, Y18, Y19, Y1a, Y1b, Y1c, Y1d, Y1e, Y1f, Y1g, Y1h, Y1i, Y1j, Y1k, Y1l, AV.cells?, Y1n, Y1o, Y1p, Y1q, Y1r, Y1s, Y1t, Nat.reduceAdd, Nat.reduceMul, Y1w, Y1x, Y1y, Y1z, Y20, Y21, Y22, Y23, Y24, Y25, Y26, Y27, Y28, Y29, Y2a, Y2b, row_get hja]
  rw [iaddr_LI hqj]
  simp only [Y0, Y1, Y2, Y3, Y4, Y5, Y6, Y7, Y8, Y9, Ya, Yb, Yc, Yd, Ye, Yf, Yg, Yh, Yi, Yj, Yk, Yl, Ym, Yn, Yo, Yp, Yq, Yr, Ys, Yt, Yu, Yv, Yw, Yx, Yy, Yz, Y10, Y11, Y12, Y13, Y14, Y15, Y16, Y17, Y18, Y19, Y1a, Y1b, Y1c, Y1d, Y1e, Y1f, Y1g, Y1h, Y1i, Y1j, Y1k, Y1l, AV.cells?, Y1n, Y1o, Y1p, Y1q, Y1r, Y1s, Y1t, Nat.reduceAdd, Nat.reduceMul, Y1w, Y1x, Y1y, Y1z, Y20, Y21, Y22, Y23, Y24, Y25, Y26, Y27, Y28, Y29, Y2a, Y2b, cell_at hqj, and_self, true_and]
  have hmark : ∀ H, pr t d i j q = true → sqH n a (mid t d i (j + 1)) c = H → gh1 (fun f H => ∃ fb : Bool, f = Bo fb ∧ H = sqH n a (mid t d i (j + 1)) c ∧ (fb = true → ∃ x y, x < a ∧ y < a ∧ mk t (d + 1) x y ≠ mk t d x y) ∧ (fb = false → ∀ x y, upto x y i (j + 1) → y < a → mk t (d + 1) x y = mk t d x y)) (Bo true) H := by
    rintro H hp rfl
    have hm : mk t (d + 1) i j = d + 1 := by
      rw [hround, if_pos]
      rw [List.any_eq_true]
      exact ⟨q, List.mem_range.2 hq, hp⟩
    exact gh1.mk ⟨true, rfl, rfl, fun _ => ⟨i, j, hi, hj, by omega⟩, by simp⟩
  have hset : pr t d i j q = true → (⟨(sqH n a (mid t d i j) c).bs.set (1 + i) (.cells (n + 1 + i) 1 ((sqRow a (mid t d i j i)).set j (Z ((d + 1 : Nat) : Int)))), (sqH n a (mid t d i j) c).ctr⟩ : AH) = sqH n a (mid t d i (j + 1)) c := by
    intro hp
    have hm : mk t (d + 1) i j = d + 1 := by
      rw [hround, if_pos]
      rw [List.any_eq_true]
      exact ⟨q, List.mem_range.2 hq, hp⟩
    refine sqH_set hi hj (by simp [mid, hm]) fun x y _ _ hne => ?_
    have : (x < i ∨ x = i ∧ y < j + 1) ↔ (x < i ∨ x = i ∧ y < j) := by omega
    simp only [mid, this]
  have hnext : pr t d i j q = false → back2 (fun m f x H => ∃ q : Nat, q + m = (row t.next 0).length ∧ x = Z q ∧ f = Bo fb2 ∧ H = sqH n a (mid t d i j) c ∧ ∀ p, p < q → pr t d i j p = false) m5 (Bo fb2) (Z ((q + 1 : Nat) : Int)) (sqH n a (mid t d i j) c) := by
    intro hp
    refine back2.mk (m5 - 1) (by omega) ⟨q + 1, by omega, rfl, rfl, rfl, fun p hpq => ?_⟩
    by_cases e : p < q
    · exact hpre p e
    · have : p = q := by omega
      subst this; exact hp
  obtain ⟨x, hx⟩ : ∃ x : Nat, cell (row t.next i) q = x := ⟨(cell (row t.next i) q).toNat, by omega⟩
  obtain ⟨y, hy⟩ : ∃ y : Nat, cell (row t.next j) q = y := ⟨(cell (row t.next j) q).toNat, by omega⟩
  have hxa : x < a := by omega
  have hya : y < a := by omega
  have hpr : pr t d i j q = ((decide (d = 0) && decide (cell (row t.tells i) q ≠ cell (row t.tells j) q)) || (decide (0 < d) && decide (mk t d x y = d))) := by
    simp only [pr, hx, hy, Int.toNat_natCast]
  by_cases hd : d = 0
  · subst hd
    have hti : i < t.tells.length := by omega
    have htj : j < t.tells.length := by omega
    simp only [Y0, Y1, Y2, Y3, Y4, Y5, Y6, Y7, Y8, Y9, Ya, Yb, Yc, Yd, Ye, Yf, Yg, Yh, Yi, Yj, Yk, Yl, Ym, Yn, Yo, Yp, Yq, Yr, Ys, Yt, Yu, Yv, Yw, Yx, Yy, Yz, Y10, Y11, Y12, Y13, Y14, Y15, Y16, Y17, Y18, Y19, Y1a, Y1b, Y1c, Y1d, Y1e, Y1f, Y1g, Y1h, Y1i, Y1j, Y1k, Y1l, AV.cells?, Y1n, Y1o, Y1p, Y1q, Y1r, Y1s, Y1t, Nat.reduceAdd, Nat.reduceMul, Y1w, Y1x, Y1y, Y1z, Y20, Y21, Y22, Y23, Y24, Y25, Y26, Y27, Y28, Y29, Y2a, Y2b, show decide (((0 + 1 : Nat) : Int) = 1) = true from rfl]
    rw [iaddr_LLI hti]
    simp only [Y0, Y1, Y2, Y3, Y4, Y5, Y6, Y7, Y8, Y9, Ya, Yb, Yc, Yd, Ye, Yf, Yg, Yh, Yi, Yj, Yk, Yl, Ym, Yn, Yo, Yp, Yq, Yr, Ys, Yt, Yu, Yv, Yw, Yx, Yy, Yz, Y10, Y11, Y12, Y13, Y14, Y15, Y16, Y17, Y18, Y19, Y1a, Y1b, Y1c, Y1d, Y1e, Y1f, Y1g, Y1h, Y1i, Y1j, Y1k, Y1l, AV.cells?, Y1n, Y1o, Y1p, Y1q, Y1r, Y1s, Y1t, Nat.reduceAdd, Nat.reduceMul, Y1w, Y1x, Y1y, Y1z, Y20, Y21, Y22, Y23, Y24, Y25, Y26, Y27, Y28, Y29, Y2a, Y2b, row_get hti]
    rw [iaddr_LI (show q < (row t.tells i).length by omega)]
    simp only [Y0, Y1, Y2, Y3, Y4, Y5, Y6, Y7, Y8, Y9, Ya, Yb, Yc, Yd, Ye, Yf, Yg, Yh, Yi, Yj, Yk, Yl, Ym, Yn, Yo, Yp, Yq, Yr, Ys, Yt, Yu, Yv, Yw, Yx, Yy, Yz, Y10, Y11, Y12, Y13, Y14, Y15, Y16, Y17, Y18, Y19, Y1a, Y1b, Y1c, Y1d, Y1e, Y1f, Y1g, Y1h, Y1i, Y1j, Y1k, Y1l, AV.cells?, Y1n, Y1o, Y1p, Y1q, Y1r, Y1s, Y1t, Nat.reduceAdd, Nat.reduceMul, Y1w, Y1x, Y1y, Y1z, Y20, Y21, Y22, Y23, Y24, Y25, Y26, Y27, Y28, Y29, Y2a, Y2b, cell_at (show q < (row t.tells i).length by omega)]
    rw [iaddr_LLI htj]
    simp only [Y0, Y1, Y2, Y3, Y4, Y5, Y6, Y7, Y8, Y9, Ya, Yb, Yc, Yd, Ye, Yf, Yg, Yh, Yi, Yj, Yk, Yl, Ym, Yn, Yo, Yp, Yq, Yr, Ys, Yt, Yu, Yv, Yw, Yx, Yy, Yz, Y10, Y11, Y12, Y13, Y14, Y15, Y16, Y17, Y18, Y19, Y1a, Y1b, Y1c, Y1d, Y1e, Y1f, Y1g, Y1h, Y1i, Y1j, Y1k, Y1l, AV.cells?, Y1n, Y1o, Y1p, Y1q, Y1r, Y1s, Y1t, Nat.reduceAdd, Nat.reduceMul, Y1w, Y1x, Y1y, Y1z, Y20, Y21, Y22, Y23, Y24, Y25, Y26, Y27, Y28, Y29, Y2a, Y2b, row_get htj]
    rw [iaddr_LI (show q < (row t.tells j).length by omega)]
    simp only [Y0, Y1, Y2, Y3, Y4, Y5, Y6, Y7, Y8, Y9, Ya, Yb, Yc, Yd, Ye, Yf, Yg, Yh, Yi, Yj, Yk, Yl, Ym, Yn, Yo, Yp, Yq, Yr, Ys, Yt, Yu, Yv, Yw, Yx, Yy, Yz, Y10, Y11, Y12, Y13, Y14, Y15, Y16, Y17, Y18, Y19, Y1a, Y1b, Y1c, Y1d, Y1e, Y1f, Y1g, Y1h, Y1i, Y1j, Y1k, Y1l, AV.cells?, Y1n, Y1o, Y1p, Y1q, Y1r, Y1s, Y1t, Nat.reduceAdd, Nat.reduceMul, Y1w, Y1x, Y1y, Y1z, Y20, Y21, Y22, Y23, Y24, Y25, Y26, Y27, Y28, Y29, Y2a, Y2b, cell_at (show q < (row t.tells j).length by omega)]
    by_cases hne : cell (row t.tells i) q = cell (row t.tells j) q
    · have hp : pr t 0 i j q = false := by rw [hpr]; simp [hne]
      simp only [Y0, Y1, Y2, Y3, Y4, Y5, Y6, Y7, Y8, Y9, Ya, Yb, Yc, Yd, Ye, Yf, Yg, Yh, Yi, Yj, Yk, Yl, Ym, Yn, Yo, Yp, Yq, Yr, Ys, Yt, Yu, Yv, Yw, Yx, Yy, Yz, Y10, Y11, Y12, Y13, Y14, Y15, Y16, Y17, Y18, Y19, Y1a, Y1b, Y1c, Y1d, Y1e, Y1f, Y1g, Y1h, Y1i, Y1j, Y1k, Y1l, AV.cells?, Y1n, Y1o, Y1p, Y1q, Y1r, Y1s, Y1t, Nat.reduceAdd, Nat.reduceMul, Y1w, Y1x, Y1y, Y1z, Y20, Y21, Y22, Y23, Y24, Y25, Y26, Y27, Y28, Y29, Y2a, Y2b, decide_eq_true hne, show decide ((1 : Int) < ((0 + 1 : Nat) : Int)) = false from rfl]
      rw [binA_succ (by omega)]
      simp only [Y0, Y1, Y2, Y3, Y4, Y5, Y6, Y7, Y8, Y9, Ya, Yb, Yc, Yd, Ye, Yf, Yg, Yh, Yi, Yj, Yk, Yl, Ym, Yn, Yo, Yp, Yq, Yr, Ys, Yt, Yu, Yv, Yw, Yx, Yy, Yz, Y10, Y11, Y12, Y13, Y14, Y15, Y16, Y17, Y18, Y19, Y1a, Y1b, Y1c, Y1d, Y1e, Y1f, Y1g, Y1h, Y1i, Y1j, Y1k, Y1l, AV.cells?, Y1n, Y1o, Y1p, Y1q, Y1r, Y1s, Y1t, Nat.reduceAdd, Nat.reduceMul, Y1w, Y1x, Y1y, Y1z, Y20, Y21, Y22, Y23, Y24, Y25, Y26, Y27, Y28, Y29, Y2a, Y2b]
      exact hnext hp
    · have hp : pr t 0 i j q = true := by rw [hpr]; simp [hne]
      simp only [Y0, Y1, Y2, Y3, Y4, Y5, Y6, Y7, Y8, Y9, Ya, Yb, Yc, Yd, Ye, Yf, Yg, Yh, Yi, Yj, Yk, Yl, Ym, Yn, Yo, Yp, Yq, Yr, Ys, Yt, Yu, Yv, Yw, Yx, Yy, Yz, Y10, Y11, Y12, Y13, Y14, Y15, Y16, Y17, Y18, Y19, Y1a, Y1b, Y1c, Y1d, Y1e, Y1f, Y1g, Y1h, Y1i, Y1j, Y1k, Y1l, AV.cells?, Y1n, Y1o, Y1p, Y1q, Y1r, Y1s, Y1t, Nat.reduceAdd, Nat.reduceMul, Y1w, Y1x, Y1y, Y1z, Y20, Y21, Y22, Y23, Y24, Y25, Y26, Y27, Y28, Y29, Y2a, Y2b, decide_eq_false hne]
      simp only [Y0, Y1, Y2, Y3, Y4, Y5, Y6, Y7, Y8, Y9, Ya, Yb, Yc, Yd, Ye, Yf, Yg, Yh, Yi, Yj, Yk, Yl, Ym, Yn, Yo, Yp, Yq, Yr, Ys, Yt, Yu, Yv, Yw, Yx, Yy, Yz, Y10, Y11, Y12, Y13, Y14, Y15, Y16, Y17, Y18, Y19, Y1a, Y1b, Y1c, Y1d, Y1e, Y1f, Y1g, Y1h, Y1i, Y1j, Y1k, Y1l, AV.cells?, Y1n, Y1o, Y1p, Y1q, Y1r, Y1s, Y1t, Nat.reduceAdd, Nat.reduceMul, Y1w, Y1x, Y1y, Y1z, Y20, Y21, Y22, Y23, Y24, Y25, Y26, Y27, Y28, Y29, Y2a, Y2b, sqH_top, sqTop_get hi hi]
      rw [iaddr_Ln hj]
      simp only [Y0, Y1, Y2, Y3, Y4, Y5, Y6, Y7, Y8, Y9, Ya, Yb, Yc, Yd, Ye, Yf, Yg, Yh, Yi, Yj, Yk, Yl, Ym, Yn, Yo, Yp, Yq, Yr, Ys, Yt, Yu, Yv, Yw, Yx, Yy, Yz, Y10, Y11, Y12, Y13, Y14, Y15, Y16, Y17, Y18, Y19, Y1a, Y1b, Y1c, Y1d, Y1e, Y1f, Y1g, Y1h, Y1i, Y1j, Y1k, Y1l, AV.cells?, Y1n, Y1o, Y1p, Y1q, Y1r, Y1s, Y1t, Nat.reduceAdd, Nat.reduceMul, Y1w, Y1x, Y1y, Y1z, Y20, Y21, Y22, Y23, Y24, Y25, Y26, Y27, Y28, Y29, Y2a, Y2b, sqH_row hi]
      rw [store1_L rfl]
      simp only [Y0, Y1, Y2, Y3, Y4, Y5, Y6, Y7, Y8, Y9, Ya, Yb, Yc, Yd, Ye, Yf, Yg, Yh, Yi, Yj, Yk, Yl, Ym, Yn, Yo, Yp, Yq, Yr, Ys, Yt, Yu, Yv, Yw, Yx, Yy, Yz, Y10, Y11, Y12, Y13, Y14, Y15, Y16, Y17, Y18, Y19, Y1a, Y1b, Y1c, Y1d, Y1e, Y1f, Y1g, Y1h, Y1i, Y1j, Y1k, Y1l, AV.cells?, Y1n, Y1o, Y1p, Y1q, Y1r, Y1s, Y1t, Nat.reduceAdd, Nat.reduceMul, Y1w, Y1x, Y1y, Y1z, Y20, Y21, Y22, Y23, Y24, Y25, Y26, Y27, Y28, Y29, Y2a, Y2b, sqH_row hi, sqRow_len, hj]
      exact hmark _ hp (hset hp).symm
  · simp only [Y0, Y1, Y2, Y3, Y4, Y5, Y6, Y7, Y8, Y9, Ya, Yb, Yc, Yd, Ye, Yf, Yg, Yh, Yi, Yj, Yk, Yl, Ym, Yn, Yo, Yp, Yq, Yr, Ys, Yt, Yu, Yv, Yw, Yx, Yy, Yz, Y10, Y11, Y12, Y13, Y14, Y15, Y16, Y17, Y18, Y19, Y1a, Y1b, Y1c, Y1d, Y1e, Y1f, Y1g, Y1h, Y1i, Y1j, Y1k, Y1l, AV.cells?, Y1n, Y1o, Y1p, Y1q, Y1r, Y1s, Y1t, Nat.reduceAdd, Nat.reduceMul, Y1w, Y1x, Y1y, Y1z, Y20, Y21, Y22, Y23, Y24, Y25, Y26, Y27, Y28, Y29, Y2a, Y2b, decide_eq_false (show ¬ ((d + 1 : Nat) : Int) = 1 by omega), decide_eq_true (show (1 : Int) < ((d + 1 : Nat) : Int) by omega)]
    rw [hx, hy, iaddr_Ln hxa]
    simp only [Y0, Y1, Y2, Y3, Y4, Y5, Y6, Y7, Y8, Y9, Ya, Yb, Yc, Yd, Ye, Yf, Yg, Yh, Yi, Yj, Yk, Yl, Ym, Yn, Yo, Yp, Yq, Yr, Ys, Yt, Yu, Yv, Yw, Yx, Yy, Yz, Y10, Y11, Y12, Y13, Y14, Y15, Y16, Y17, Y18, Y19, Y1a, Y1b, Y1c, Y1d, Y1e, Y1f, Y1g, Y1h, Y1i, Y1j, Y1k, Y1l, AV.cells?, Y1n, Y1o, Y1p, Y1q, Y1r, Y1s, Y1t, Nat.reduceAdd, Nat.reduceMul, Y1w, Y1x, Y1y, Y1z, Y20, Y21, Y22, Y23, Y24, Y25, Y26, Y27, Y28, Y29, Y2a, Y2b, sqH_top, sqTop_get hxa hxa]
    rw [iaddr_Ln hya]
    simp only [Y0, Y1, Y2, Y3, Y4, Y5, Y6, Y7, Y8, Y9, Ya, Yb, Yc, Yd, Ye, Yf, Yg, Yh, Yi, Yj, Yk, Yl, Ym, Yn, Yo, Yp, Yq, Yr, Ys, Yt, Yu, Yv, Yw, Yx, Yy, Yz, Y10, Y11, Y12, Y13, Y14, Y15, Y16, Y17, Y18, Y19, Y1a, Y1b, Y1c, Y1d, Y1e, Y1f, Y1g, Y1h, Y1i, Y1j, Y1k, Y1l, AV.cells?, Y1n, Y1o, Y1p, Y1q, Y1r, Y1s, Y1t, Nat.reduceAdd, Nat.reduceMul, Y1w, Y1x, Y1y, Y1z, Y20, Y21, Y22, Y23, Y24, Y25, Y26, Y27, Y28, Y29, Y2a, Y2b, sqH_row hxa, sqRow_get hya]
    rw [binA_sub (by omega)]
    simp only [Y0, Y1, Y2, Y3, Y4, Y5, Y6, Y7, Y8, Y9, Ya, Yb, Yc, Yd, Ye, Yf, Yg, Yh, Yi, Yj, Yk, Yl, Ym, Yn, Yo, Yp, Yq, Yr, Ys, Yt, Yu, Yv, Yw, Yx, Yy, Yz, Y10, Y11, Y12, Y13, Y14, Y15, Y16, Y17, Y18, Y19, Y1a, Y1b, Y1c, Y1d, Y1e, Y1f, Y1g, Y1h, Y1i, Y1j, Y1k, Y1l, AV.cells?, Y1n, Y1o, Y1p, Y1q, Y1r, Y1s, Y1t, Nat.reduceAdd, Nat.reduceMul, Y1w, Y1x, Y1y, Y1z, Y20, Y21, Y22, Y23, Y24, Y25, Y26, Y27, Y28, Y29, Y2a, Y2b, show (((d + 1 : Nat) : Int) - 1) = (d : Int) by omega]
    have hmt : mid t d i j x y = d ↔ mk t d x y = d := mid_test (by omega)
    by_cases hm : mk t d x y = d
    · have hp : pr t d i j q = true := by rw [hpr]; simp [hm]; omega
      simp only [Y0, Y1, Y2, Y3, Y4, Y5, Y6, Y7, Y8, Y9, Ya, Yb, Yc, Yd, Ye, Yf, Yg, Yh, Yi, Yj, Yk, Yl, Ym, Yn, Yo, Yp, Yq, Yr, Ys, Yt, Yu, Yv, Yw, Yx, Yy, Yz, Y10, Y11, Y12, Y13, Y14, Y15, Y16, Y17, Y18, Y19, Y1a, Y1b, Y1c, Y1d, Y1e, Y1f, Y1g, Y1h, Y1i, Y1j, Y1k, Y1l, AV.cells?, Y1n, Y1o, Y1p, Y1q, Y1r, Y1s, Y1t, Nat.reduceAdd, Nat.reduceMul, Y1w, Y1x, Y1y, Y1z, Y20, Y21, Y22, Y23, Y24, Y25, Y26, Y27, Y28, Y29, Y2a, Y2b, decide_eq_true (show ((mid t d i j x y : Nat) : Int) = (d : Int) by have := hmt.2 hm; omega)]
      simp only [Y0, Y1, Y2, Y3, Y4, Y5, Y6, Y7, Y8, Y9, Ya, Yb, Yc, Yd, Ye, Yf, Yg, Yh, Yi, Yj, Yk, Yl, Ym, Yn, Yo, Yp, Yq, Yr, Ys, Yt, Yu, Yv, Yw, Yx, Yy, Yz, Y10, Y11, Y12, Y13, Y14, Y15, Y16, Y17, Y18, Y19, Y1a, Y1b, Y1c, Y1d, Y1e, Y1f, Y1g, Y1h, Y1i, Y1j, Y1k, Y1l, AV.cells?, Y1n, Y1o, Y1p, Y1q, Y1r, Y1s, Y1t, Nat.reduceAdd, Nat.reduceMul, Y1w, Y1x, Y1y, Y1z, Y20, Y21, Y22, Y23, Y24, Y25, Y26, Y27, Y28, Y29, Y2a, Y2b, sqH_top, sqTop_get hi hi]
      rw [iaddr_Ln hj]
      simp only [Y0, Y1, Y2, Y3, Y4, Y5, Y6, Y7, Y8, Y9, Ya, Yb, Yc, Yd, Ye, Yf, Yg, Yh, Yi, Yj, Yk, Yl, Ym, Yn, Yo, Yp, Yq, Yr, Ys, Yt, Yu, Yv, Yw, Yx, Yy, Yz, Y10, Y11, Y12, Y13, Y14, Y15, Y16, Y17, Y18, Y19, Y1a, Y1b, Y1c, Y1d, Y1e, Y1f, Y1g, Y1h, Y1i, Y1j, Y1k, Y1l, AV.cells?, Y1n, Y1o, Y1p, Y1q, Y1r, Y1s, Y1t, Nat.reduceAdd, Nat.reduceMul, Y1w, Y1x, Y1y, Y1z, Y20, Y21, Y22, Y23, Y24, Y25, Y26, Y27, Y28, Y29, Y2a, Y2b, sqH_row hi]
      rw [store1_L rfl]
      simp only [Y0, Y1, Y2, Y3, Y4, Y5, Y6, Y7, Y8, Y9, Ya, Yb, Yc, Yd, Ye, Yf, Yg, Yh, Yi, Yj, Yk, Yl, Ym, Yn, Yo, Yp, Yq, Yr, Ys, Yt, Yu, Yv, Yw, Yx, Yy, Yz, Y10, Y11, Y12, Y13, Y14, Y15, Y16, Y17, Y18, Y19, Y1a, Y1b, Y1c, Y1d, Y1e, Y1f, Y1g, Y1h, Y1i, Y1j, Y1k, Y1l, AV.cells?, Y1n, Y1o, Y1p, Y1q, Y1r, Y1s, Y1t, Nat.reduceAdd, Nat.reduceMul, Y1w, Y1x, Y1y, Y1z, Y20, Y21, Y22, Y23, Y24, Y25, Y26, Y27, Y28, Y29, Y2a, Y2b, sqH_row hi, sqRow_len, hj]
      exact hmark _ hp (hset hp).symm
    · have hp : pr t d i j q = false := by rw [hpr]; simp [hm, hd]
      simp only [Y0, Y1, Y2, Y3, Y4, Y5, Y6, Y7, Y8, Y9, Ya, Yb, Yc, Yd, Ye, Yf, Yg, Yh, Yi, Yj, Yk, Yl, Ym, Yn, Yo, Yp, Yq, Yr, Ys, Yt, Yu, Yv, Yw, Yx, Yy, Yz, Y10, Y11, Y12, Y13, Y14, Y15, Y16, Y17, Y18, Y19, Y1a, Y1b, Y1c, Y1d, Y1e, Y1f, Y1g, Y1h, Y1i, Y1j, Y1k, Y1l, AV.cells?, Y1n, Y1o, Y1p, Y1q, Y1r, Y1s, Y1t, Nat.reduceAdd, Nat.reduceMul, Y1w, Y1x, Y1y, Y1z, Y20, Y21, Y22, Y23, Y24, Y25, Y26, Y27, Y28, Y29, Y2a, Y2b, decide_eq_false (show ¬ ((mid t d i j x y : Nat) : Int) = (d : Int) by intro h; exact hm (hmt.1 (by omega)))]
      rw [binA_succ (by omega)]
      simp only [Y0, Y1, Y2, Y3, Y4, Y5, Y6, Y7, Y8, Y9, Ya, Yb, Yc, Yd, Ye, Yf, Yg, Yh, Yi, Yj, Yk, Yl, Ym, Yn, Yo, Yp, Yq, Yr, Ys, Yt, Yu, Yv, Yw, Yx, Yy, Yz, Y10, Y11, Y12, Y13, Y14, Y15, Y16, Y17, Y18, Y19, Y1a, Y1b, Y1c, Y1d, Y1e, Y1f, Y1g, Y1h, Y1i, Y1j, Y1k, Y1l, AV.cells?, Y1n, Y1o, Y1p, Y1q, Y1r, Y1s, Y1t, Nat.reduceAdd, Nat.reduceMul, Y1w, Y1x, Y1y, Y1z, Y20, Y21, Y22, Y23, Y24, Y25, Y26, Y27, Y28, Y29, Y2a, Y2b]
      exact hnext hp
end
end Go.Sc
