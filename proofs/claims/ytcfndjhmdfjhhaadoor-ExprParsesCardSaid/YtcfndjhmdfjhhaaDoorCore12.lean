/- CONTRACTS: package block: Part. CONTRACTS: the reference's tables: TableCheck (under way). THE LAW ExprParses, out of the contracts. errors.As(err, *Errno): Go's own text walked, after the guide's worked walk (its toy 'toyas'). errors.As at *At. api.Tell: the code in an error. (of the seat YtcfndjhmdfjhhaaDoor) -/
import Derived.Test.YtcfndjhmdfjhhaaDoorCore11
import Derived.Test.YtcfndjhmdfjhhaaDoorProg
import Derived.WalkKit
import Derived.LaidEql
import Derived.Stop.Asserts
import Derived.RowKitTokens
import Derived.Below
namespace Go.Sc
open Go
set_option linter.unusedSimpArgs false
set_option linter.unusedVariables false
set_option linter.unnecessarySimpa false

noncomputable def PartA (t : Table) (a b : Int) : AV :=
  if check t = none then
    (if 0 ≤ a ∧ a < t.next.length ∧ 0 ≤ b ∧ b < t.next.length then
      (match ((List.range (finK t + 1)).map (iter t)).findIdx? (fun l => !decide (cell l a.toNat = cell l b.toNat)) with
        | some k => .tup [LI (partFrom t k a.toNat b.toNat []), nilE]
        | none => .tup [LI [], .ifc 1 (Z 8)])
    else .tup [LI [], .ifc 1 (Z 2)])
  else .tup [LI [], errA (check t)]
theorem PartA_closed (t : Table) (a b : Int) : (PartA t a b).closed := by
  unfold PartA
  split
  · split
    · split <;> simp [AV.closed, AV.closedL, LI_closed]
    · simp [AV.closed, AV.closedL, LI_closed]
  · simp [AV.closed, AV.closedL, LI_closed, errA_closed]
theorem find_range {p : Nat → Bool} {n j : Nat} (hj : j < n) (h : p j = true) (hpre : ∀ i, i < j → p i = false) : (List.range n).find? p = some j := by
  rw [List.find?_range_eq_some]
  exact ⟨h, List.mem_range.2 hj, fun i hi => by simp [hpre i hi]⟩
section
variable {E : Env} {P : Program}
theorem Part_c1_spec (hB : Body3 E P 60 F.block_Part_c1) (l : List Int) (a b : Nat) (ha : a < l.length) (hb : b < l.length) : FX E P 60 [LI l, .ptrF [Z a] 0, .ptrF [Z b] 0] (Bo (!decide (cell l a = cell l b))) := by
  refine FX.of' (by simp [AV.closedL, AV.closed, LI_closed]) (by simp [AV.closed]) fun m R hR => hB _ _ _ _ _ ?_
  unfold F.block_Part_c1
  simp only [Y0, Y1, Y2, Y3, Y4, Y5, Y6, Y7, Y8, Y9, Ya, Yb, Yc, Yd, Ye, Yf, Yg, Yh, Yi, Yj, Yk, Yl, Ym, Yn, Yo, Yp, Yq, Yr, Ys, Yt, Yu, Yv, Yw, Yx, Yy, Yz, Y10, Y11, Y12, Y13, Y14, Y15, Y16, Y17, Y18, Y19, Y1a, Y1b, Y1c, Y1d, Y1e, Y1f, Y1g, Y1h, Y1i, Y1j, Y1k, Y1l, AV.cells?, Y1n, Y1o, Y1p, Y1q, Y1r, Y1s, Y1t, Nat.reduceAdd, Nat.reduceMul, Y1w, Y1x, Y1y, Y1z, Y20, Y21, Y22, Y23, Y24, Y25, Y26, Y27, Y28, Y29, Y2a, Y2b]
  rw [iaddr_LI ha]
  simp only [Y0, Y1, Y2, Y3, Y4, Y5, Y6, Y7, Y8, Y9, Ya, Yb, Yc, Yd, Ye, Yf, Yg, Yh, Yi, Yj, Yk, Yl, Ym, Yn, Yo, Yp, Yq, Yr, Ys, Yt, Yu, Yv, Yw, Yx, Yy, Yz, Y10, Y11, Y12, Y13, Y14, Y15, Y16, Y17, Y18, Y19, Y1a, Y1b, Y1c, Y1d, Y1e, Y1f, Y1g, Y1h, Y1i, Y1j, Y1k, Y1l, AV.cells?, Y1n, Y1o, Y1p, Y1q, Y1r, Y1s, Y1t, Nat.reduceAdd, Nat.reduceMul, Y1w, Y1x, Y1y, Y1z, Y20, Y21, Y22, Y23, Y24, Y25, Y26, Y27, Y28, Y29, Y2a, Y2b, cell_at ha]
  rw [iaddr_LI hb]
  simp only [Y0, Y1, Y2, Y3, Y4, Y5, Y6, Y7, Y8, Y9, Ya, Yb, Yc, Yd, Ye, Yf, Yg, Yh, Yi, Yj, Yk, Yl, Ym, Yn, Yo, Yp, Yq, Yr, Ys, Yt, Yu, Yv, Yw, Yx, Yy, Yz, Y10, Y11, Y12, Y13, Y14, Y15, Y16, Y17, Y18, Y19, Y1a, Y1b, Y1c, Y1d, Y1e, Y1f, Y1g, Y1h, Y1i, Y1j, Y1k, Y1l, AV.cells?, Y1n, Y1o, Y1p, Y1q, Y1r, Y1s, Y1t, Nat.reduceAdd, Nat.reduceMul, Y1w, Y1x, Y1y, Y1z, Y20, Y21, Y22, Y23, Y24, Y25, Y26, Y27, Y28, Y29, Y2a, Y2b, cell_at hb]
  exact hR _ _ rfl
theorem Part_spec (B : BlockBodies E P) (hB : Body3 E P 52 F.block_Part) (hc1 : Body3 E P 60 F.block_Part_c1) (t : Table) (hs : t.sized) (a b : Int) : FX E P 52 [Tb t, Z a, Z b] (PartA t a b) := by
  refine FX.of (by simp [AV.closedL, Tb_closed, AV.closed]) (PartA_closed t a b) fun n R hR => hB _ _ _ _ _ ?_
  have hnil : ∀ e H, PartA t a b = .tup [LI [], e] → R (.tup [nilS, e]) H := fun e H h => hR _ _ (.sub (h ▸ .tup (.cons .nil (.one (.refl _)))))
  unfold F.block_Part
  simp only [Tb]
  refine wNew.F' (l := [LLI t.next, LLI t.tells]) rfl ?_
  simp only [Y0, Y1, Y2, Y3, Y4, Y5, Y6, Y7, Y8, Y9, Ya, Yb, Yc, Yd, Ye, Yf, Yg, Yh, Yi, Yj, Yk, Yl, Ym, Yn, Yo, Yp, Yq, Yr, Ys, Yt, Yu, Yv, Yw, Yx, Yy, Yz, Y10, Y11, Y12, Y13, Y14, Y15, Y16, Y17, Y18, Y19, Y1a, Y1b, Y1c, Y1d, Y1e, Y1f, Y1g, Y1h, Y1i, Y1j, Y1k, Y1l, AV.cells?, Y1n, Y1o, Y1p, Y1q, Y1r, Y1s, Y1t, Nat.reduceAdd, Nat.reduceMul, Y1w, Y1x, Y1y, Y1z, Y20, Y21, Y22, Y23, Y24, Y25, Y26, Y27, Y28, Y29, Y2a, Y2b]
  refine wNew.L (l := [Z a]) rfl ?_
  simp only [Y0, Y1, Y2, Y3, Y4, Y5, Y6, Y7, Y8, Y9, Ya, Yb, Yc, Yd, Ye, Yf, Yg, Yh, Yi, Yj, Yk, Yl, Ym, Yn, Yo, Yp, Yq, Yr, Ys, Yt, Yu, Yv, Yw, Yx, Yy, Yz, Y10, Y11, Y12, Y13, Y14, Y15, Y16, Y17, Y18, Y19, Y1a, Y1b, Y1c, Y1d, Y1e, Y1f, Y1g, Y1h, Y1i, Y1j, Y1k, Y1l, AV.cells?, Y1n, Y1o, Y1p, Y1q, Y1r, Y1s, Y1t, Nat.reduceAdd, Nat.reduceMul, Y1w, Y1x, Y1y, Y1z, Y20, Y21, Y22, Y23, Y24, Y25, Y26, Y27, Y28, Y29, Y2a, Y2b]
  refine wNew.L (l := [Z b]) rfl ?_
  simp only [Y0, Y1, Y2, Y3, Y4, Y5, Y6, Y7, Y8, Y9, Ya, Yb, Yc, Yd, Ye, Yf, Yg, Yh, Yi, Yj, Yk, Yl, Ym, Yn, Yo, Yp, Yq, Yr, Ys, Yt, Yu, Yv, Yw, Yx, Yy, Yz, Y10, Y11, Y12, Y13, Y14, Y15, Y16, Y17, Y18, Y19, Y1a, Y1b, Y1c, Y1d, Y1e, Y1f, Y1g, Y1h, Y1i, Y1j, Y1k, Y1l, AV.cells?, Y1n, Y1o, Y1p, Y1q, Y1r, Y1s, Y1t, Nat.reduceAdd, Nat.reduceMul, Y1w, Y1x, Y1y, Y1z, Y20, Y21, Y22, Y23, Y24, Y25, Y26, Y27, Y28, Y29, Y2a, Y2b]
  refine wCall.fx (Check_specB B t hs) fun n1 => ?_
  by_cases hc : check t = none
  case neg =>
    obtain ⟨k, x, he⟩ := errA_some hc
    rw [he]
    simp only [Y0, Y1, Y2, Y3, Y4, Y5, Y6, Y7, Y8, Y9, Ya, Yb, Yc, Yd, Ye, Yf, Yg, Yh, Yi, Yj, Yk, Yl, Ym, Yn, Yo, Yp, Yq, Yr, Ys, Yt, Yu, Yv, Yw, Yx, Yy, Yz, Y10, Y11, Y12, Y13, Y14, Y15, Y16, Y17, Y18, Y19, Y1a, Y1b, Y1c, Y1d, Y1e, Y1f, Y1g, Y1h, Y1i, Y1j, Y1k, Y1l, AV.cells?, Y1n, Y1o, Y1p, Y1q, Y1r, Y1s, Y1t, Nat.reduceAdd, Nat.reduceMul, Y1w, Y1x, Y1y, Y1z, Y20, Y21, Y22, Y23, Y24, Y25, Y26, Y27, Y28, Y29, Y2a, Y2b]
    exact hnil _ _ (by simp [PartA, hc, he])
  rw [hc]
  simp only [errA]
  simp only [Y0, Y1, Y2, Y3, Y4, Y5, Y6, Y7, Y8, Y9, Ya, Yb, Yc, Yd, Ye, Yf, Yg, Yh, Yi, Yj, Yk, Yl, Ym, Yn, Yo, Yp, Yq, Yr, Ys, Yt, Yu, Yv, Yw, Yx, Yy, Yz, Y10, Y11, Y12, Y13, Y14, Y15, Y16, Y17, Y18, Y19, Y1a, Y1b, Y1c, Y1d, Y1e, Y1f, Y1g, Y1h, Y1i, Y1j, Y1k, Y1l, AV.cells?, Y1n, Y1o, Y1p, Y1q, Y1r, Y1s, Y1t, Nat.reduceAdd, Nat.reduceMul, Y1w, Y1x, Y1y, Y1z, Y20, Y21, Y22, Y23, Y24, Y25, Y26, Y27, Y28, Y29, Y2a, Y2b, lenA_LLI]
  have hg := good_iff.1 hc
  have g1 := hg.pos; have g2 := hg.few; have g3 := hg.wide; have g4 := hg.tells
  have hout : ∀ H, ¬ (0 ≤ a ∧ a < t.next.length ∧ 0 ≤ b ∧ b < t.next.length) → R (.tup [nilS, .ifc 1 (Z 2)]) H := fun H h => hnil _ _ (by simp only [PartA, hc, if_true]; rw [if_neg h])
  by_cases c1 : a < 0
  · simp only [Y0, Y1, Y2, Y3, Y4, Y5, Y6, Y7, Y8, Y9, Ya, Yb, Yc, Yd, Ye, Yf, Yg, Yh, Yi, Yj, Yk, Yl, Ym, Yn, Yo, Yp, Yq, Yr, Ys, Yt, Yu, Yv, Yw, Yx, Yy, Yz, Y10, Y11, Y12, Y13, Y14, Y15, Y16, Y17, Y18, Y19, Y1a, Y1b, Y1c, Y1d, Y1e, Y1f, Y1g, Y1h, Y1i, Y1j, Y1k, Y1l, AV.cells?, Y1n, Y1o, Y1p, Y1q, Y1r, Y1s, Y1t, Nat.reduceAdd, Nat.reduceMul, Y1w, Y1x, Y1y, Y1z, Y20, Y21, Y22, Y23, Y24, Y25, Y26, Y27, Y28, Y29, Y2a, Y2b, decide_eq_true c1]
    exact hout _ (by omega)
  simp only [Y0, Y1, Y2, Y3, Y4, Y5, Y6, Y7, Y8, Y9, Ya, Yb, Yc, Yd, Ye, Yf, Yg, Yh, Yi, Yj, Yk, Yl, Ym, Yn, Yo, Yp, Yq, Yr, Ys, Yt, Yu, Yv, Yw, Yx, Yy, Yz, Y10, Y11, Y12, Y13, Y14, Y15, Y16, Y17, Y18, Y19, Y1a, Y1b, Y1c, Y1d, Y1e, Y1f, Y1g, Y1h, Y1i, Y1j, Y1k, Y1l, AV.cells?, Y1n, Y1o, Y1p, Y1q, Y1r, Y1s, Y1t, Nat.reduceAdd, Nat.reduceMul, Y1w, Y1x, Y1y, Y1z, Y20, Y21, Y22, Y23, Y24, Y25, Y26, Y27, Y28, Y29, Y2a, Y2b, decide_eq_false c1, lenA_LLI]
  by_cases c2 : (t.next.length : Int) ≤ a
  · simp only [Y0, Y1, Y2, Y3, Y4, Y5, Y6, Y7, Y8, Y9, Ya, Yb, Yc, Yd, Ye, Yf, Yg, Yh, Yi, Yj, Yk, Yl, Ym, Yn, Yo, Yp, Yq, Yr, Ys, Yt, Yu, Yv, Yw, Yx, Yy, Yz, Y10, Y11, Y12, Y13, Y14, Y15, Y16, Y17, Y18, Y19, Y1a, Y1b, Y1c, Y1d, Y1e, Y1f, Y1g, Y1h, Y1i, Y1j, Y1k, Y1l, AV.cells?, Y1n, Y1o, Y1p, Y1q, Y1r, Y1s, Y1t, Nat.reduceAdd, Nat.reduceMul, Y1w, Y1x, Y1y, Y1z, Y20, Y21, Y22, Y23, Y24, Y25, Y26, Y27, Y28, Y29, Y2a, Y2b, decide_eq_true c2]
    exact hout _ (by omega)
  simp only [Y0, Y1, Y2, Y3, Y4, Y5, Y6, Y7, Y8, Y9, Ya, Yb, Yc, Yd, Ye, Yf, Yg, Yh, Yi, Yj, Yk, Yl, Ym, Yn, Yo, Yp, Yq, Yr, Ys, Yt, Yu, Yv, Yw, Yx, Yy, Yz, Y10, Y11, Y12, Y13, Y14, Y15, Y16, Y17, Y18, Y19, Y1a, Y1b, Y1c, Y1d, Y1e, Y1f, Y1g, Y1h, Y1i, Y1j, Y1k, Y1l, AV.cells?, Y1n, Y1o, Y1p, Y1q, Y1r, Y1s, Y1t, Nat.reduceAdd, Nat.reduceMul, Y1w, Y1x, Y1y, Y1z, Y20, Y21, Y22, Y23, Y24, Y25, Y26, Y27, Y28, Y29, Y2a, Y2b, decide_eq_false c2]
  by_cases c3 : b < 0
  · simp only [Y0, Y1, Y2, Y3, Y4, Y5, Y6, Y7, Y8, Y9, Ya, Yb, Yc, Yd, Ye, Yf, Yg, Yh, Yi, Yj, Yk, Yl, Ym, Yn, Yo, Yp, Yq, Yr, Ys, Yt, Yu, Yv, Yw, Yx, Yy, Yz, Y10, Y11, Y12, Y13, Y14, Y15, Y16, Y17, Y18, Y19, Y1a, Y1b, Y1c, Y1d, Y1e, Y1f, Y1g, Y1h, Y1i, Y1j, Y1k, Y1l, AV.cells?, Y1n, Y1o, Y1p, Y1q, Y1r, Y1s, Y1t, Nat.reduceAdd, Nat.reduceMul, Y1w, Y1x, Y1y, Y1z, Y20, Y21, Y22, Y23, Y24, Y25, Y26, Y27, Y28, Y29, Y2a, Y2b, decide_eq_true c3]
    exact hout _ (by omega)
  simp only [Y0, Y1, Y2, Y3, Y4, Y5, Y6, Y7, Y8, Y9, Ya, Yb, Yc, Yd, Ye, Yf, Yg, Yh, Yi, Yj, Yk, Yl, Ym, Yn, Yo, Yp, Yq, Yr, Ys, Yt, Yu, Yv, Yw, Yx, Yy, Yz, Y10, Y11, Y12, Y13, Y14, Y15, Y16, Y17, Y18, Y19, Y1a, Y1b, Y1c, Y1d, Y1e, Y1f, Y1g, Y1h, Y1i, Y1j, Y1k, Y1l, AV.cells?, Y1n, Y1o, Y1p, Y1q, Y1r, Y1s, Y1t, Nat.reduceAdd, Nat.reduceMul, Y1w, Y1x, Y1y, Y1z, Y20, Y21, Y22, Y23, Y24, Y25, Y26, Y27, Y28, Y29, Y2a, Y2b, decide_eq_false c3, lenA_LLI]
  by_cases c4 : (t.next.length : Int) ≤ b
  · simp only [Y0, Y1, Y2, Y3, Y4, Y5, Y6, Y7, Y8, Y9, Ya, Yb, Yc, Yd, Ye, Yf, Yg, Yh, Yi, Yj, Yk, Yl, Ym, Yn, Yo, Yp, Yq, Yr, Ys, Yt, Yu, Yv, Yw, Yx, Yy, Yz, Y10, Y11, Y12, Y13, Y14, Y15, Y16, Y17, Y18, Y19, Y1a, Y1b, Y1c, Y1d, Y1e, Y1f, Y1g, Y1h, Y1i, Y1j, Y1k, Y1l, AV.cells?, Y1n, Y1o, Y1p, Y1q, Y1r, Y1s, Y1t, Nat.reduceAdd, Nat.reduceMul, Y1w, Y1x, Y1y, Y1z, Y20, Y21, Y22, Y23, Y24, Y25, Y26, Y27, Y28, Y29, Y2a, Y2b, decide_eq_true c4]
    exact hout _ (by omega)
  simp only [Y0, Y1, Y2, Y3, Y4, Y5, Y6, Y7, Y8, Y9, Ya, Yb, Yc, Yd, Ye, Yf, Yg, Yh, Yi, Yj, Yk, Yl, Ym, Yn, Yo, Yp, Yq, Yr, Ys, Yt, Yu, Yv, Yw, Yx, Yy, Yz, Y10, Y11, Y12, Y13, Y14, Y15, Y16, Y17, Y18, Y19, Y1a, Y1b, Y1c, Y1d, Y1e, Y1f, Y1g, Y1h, Y1i, Y1j, Y1k, Y1l, AV.cells?, Y1n, Y1o, Y1p, Y1q, Y1r, Y1s, Y1t, Nat.reduceAdd, Nat.reduceMul, Y1w, Y1x, Y1y, Y1z, Y20, Y21, Y22, Y23, Y24, Y25, Y26, Y27, Y28, Y29, Y2a, Y2b, decide_eq_false c4]
  have hin : 0 ≤ a ∧ a < t.next.length ∧ 0 ≤ b ∧ b < t.next.length := by omega
  obtain ⟨h1, h2⟩ := finK_spec hg
  refine wCall.fx (rounds_spec B t hg h2 h1) fun n2 => ?_
  have eA : PartA t a b = (match ((List.range (finK t + 1)).map (iter t)).findIdx? (fun l => !decide (cell l a.toNat = cell l b.toNat)) with
        | some k => .tup [LI (partFrom t k a.toNat b.toNat []), nilE]
        | none => .tup [LI [], .ifc 1 (Z 8)]) := by simp only [PartA, hc, if_true]; rw [if_pos hin]
  have ea : ((a.toNat : Nat) : Int) = a := by omega
  have eb : ((b.toNat : Nat) : Int) = b := by omega
  refine wCall.bo (IndexFunc_any (f := LI) (.inr rfl) B.ixr (k := 60) (cs := [.ptrF [Z a.toNat] 0, .ptrF [Z b.toNat] 0]) (p := fun l => !decide (cell l a.toNat = cell l b.toNat)) LI_closed ((List.range (finK t + 1)).map (iter t)) (by simp; omega) (by simp [AV.closedL, AV.closed]) fun l hl => by
      obtain ⟨k, _, rfl⟩ := List.mem_map.1 hl
      exact Part_c1_spec hc1 _ _ _ (by rw [iter_len]; omega) (by rw [iter_len]; omega)) (by simp [AV.flat])
    (.cons (.same _) (.cons (.fn .nil (.cons (Fk.ptrF 1 rfl rfl (by rw [ea]; exact .cons (.same _) .nil)) (.cons (Fk.ptrF 1 rfl rfl (by rw [eb]; exact .cons (.same _) .nil)) .nil))) .nil)) fun n3 => ?_
  generalize hfi : ((List.range (finK t + 1)).map (iter t)).findIdx? (fun l => !decide (cell l a.toNat = cell l b.toNat)) = o at *
  cases o with
  | none =>
    simp only [Y0, Y1, Y2, Y3, Y4, Y5, Y6, Y7, Y8, Y9, Ya, Yb, Yc, Yd, Ye, Yf, Yg, Yh, Yi, Yj, Yk, Yl, Ym, Yn, Yo, Yp, Yq, Yr, Ys, Yt, Yu, Yv, Yw, Yx, Yy, Yz, Y10, Y11, Y12, Y13, Y14, Y15, Y16, Y17, Y18, Y19, Y1a, Y1b, Y1c, Y1d, Y1e, Y1f, Y1g, Y1h, Y1i, Y1j, Y1k, Y1l, AV.cells?, Y1n, Y1o, Y1p, Y1q, Y1r, Y1s, Y1t, Nat.reduceAdd, Nat.reduceMul, Y1w, Y1x, Y1y, Y1z, Y20, Y21, Y22, Y23, Y24, Y25, Y26, Y27, Y28, Y29, Y2a, Y2b, decide_eq_true (show idxO none < 0 by simp [idxO])]
    exact hnil _ _ eA
  | some k0 =>
  have hk0 : k0 ≤ finK t := by
    rw [List.findIdx?_eq_some_iff_getElem] at hfi
    obtain ⟨h, _⟩ := hfi
    simp at h
    omega
  simp only [Y0, Y1, Y2, Y3, Y4, Y5, Y6, Y7, Y8, Y9, Ya, Yb, Yc, Yd, Ye, Yf, Yg, Yh, Yi, Yj, Yk, Yl, Ym, Yn, Yo, Yp, Yq, Yr, Ys, Yt, Yu, Yv, Yw, Yx, Yy, Yz, Y10, Y11, Y12, Y13, Y14, Y15, Y16, Y17, Y18, Y19, Y1a, Y1b, Y1c, Y1d, Y1e, Y1f, Y1g, Y1h, Y1i, Y1j, Y1k, Y1l, AV.cells?, Y1n, Y1o, Y1p, Y1q, Y1r, Y1s, Y1t, Nat.reduceAdd, Nat.reduceMul, Y1w, Y1x, Y1y, Y1z, Y20, Y21, Y22, Y23, Y24, Y25, Y26, Y27, Y28, Y29, Y2a, Y2b, decide_eq_false (show ¬ (idxO (some k0) < 0) by simp [idxO])]
  simp only at eA
  refine wLoop.two (fun m t10 t11 H => ∃ (a' b' : Nat) (z : Blk) (out : List Int) (c : Nat), t10 = Z m ∧ H = ⟨[.cells n 1 [Z a'], .cells (n + 1) 1 [Z b'], z], c⟩ ∧ a' < t.next.length ∧ b' < t.next.length ∧ Gr 1 z 2 t11 (out.map fun z => Z z) out.length ∧ out.length + m ≤ finK t ∧ partFrom t m a' b' out = partFrom t k0 a.toNat b.toNat []) k0
    (gh2.of (ghost_room [.dead] (by simp)) ⟨a.toNat, b.toNat, .dead, [], n3, rfl, by rw [ea, eb]; rfl, by omega, by omega, .nil, by simpa using hk0, rfl⟩) ?_
  rintro m t10 t11 H ⟨a', b', z, out, c, rfl, rfl, ha', hb', h11, hlen, hpf⟩
  cases m with
  | zero =>
    simp only [Y0, Y1, Y2, Y3, Y4, Y5, Y6, Y7, Y8, Y9, Ya, Yb, Yc, Yd, Ye, Yf, Yg, Yh, Yi, Yj, Yk, Yl, Ym, Yn, Yo, Yp, Yq, Yr, Ys, Yt, Yu, Yv, Yw, Yx, Yy, Yz, Y10, Y11, Y12, Y13, Y14, Y15, Y16, Y17, Y18, Y19, Y1a, Y1b, Y1c, Y1d, Y1e, Y1f, Y1g, Y1h, Y1i, Y1j, Y1k, Y1l, AV.cells?, Y1n, Y1o, Y1p, Y1q, Y1r, Y1s, Y1t, Nat.reduceAdd, Nat.reduceMul, Y1w, Y1x, Y1y, Y1z, Y20, Y21, Y22, Y23, Y24, Y25, Y26, Y27, Y28, Y29, Y2a, Y2b, show ((0 : Nat) : Int) = 0 from rfl, Int.lt_irrefl]
    refine hR _ _ (.sub ?_)
    rw [eA, ← hpf]
    simp only [partFrom]
    refine .tup (.cons ?_ (.one (.refl _)))
    have := h11.sub
    simpa [LI, Lm] using this
  | succ k =>
  have hra := hg.rows a' ha'
  have hrb := hg.rows b' hb'
  simp only [Y0, Y1, Y2, Y3, Y4, Y5, Y6, Y7, Y8, Y9, Ya, Yb, Yc, Yd, Ye, Yf, Yg, Yh, Yi, Yj, Yk, Yl, Ym, Yn, Yo, Yp, Yq, Yr, Ys, Yt, Yu, Yv, Yw, Yx, Yy, Yz, Y10, Y11, Y12, Y13, Y14, Y15, Y16, Y17, Y18, Y19, Y1a, Y1b, Y1c, Y1d, Y1e, Y1f, Y1g, Y1h, Y1i, Y1j, Y1k, Y1l, AV.cells?, Y1n, Y1o, Y1p, Y1q, Y1r, Y1s, Y1t, Nat.reduceAdd, Nat.reduceMul, Y1w, Y1x, Y1y, Y1z, Y20, Y21, Y22, Y23, Y24, Y25, Y26, Y27, Y28, Y29, Y2a, Y2b, decide_eq_true (show (0 : Int) < ((k + 1 : Nat) : Int) by omega)]
  refine wJoin.one (fun x H => ∃ (a' b' : Nat) (z : Blk) (out : List Int) (c : Nat), H = ⟨[.cells n 1 [Z a'], .cells (n + 1) 1 [Z b'], z], c⟩ ∧ a' < t.next.length ∧ b' < t.next.length ∧ Gr 1 z 2 x (out.map fun z => Z z) out.length ∧ out.length + k ≤ finK t ∧ partFrom t k a' b' out = partFrom t k0 a.toNat b.toNat []) ?_ ?_
  case refine_2 =>
    rintro x H ⟨a', b', z, out, c, rfl, ha', hb', h11, hlen, hpf⟩
    rw [binA_sub (by omega)]
    simp only [Y0, Y1, Y2, Y3, Y4, Y5, Y6, Y7, Y8, Y9, Ya, Yb, Yc, Yd, Ye, Yf, Yg, Yh, Yi, Yj, Yk, Yl, Ym, Yn, Yo, Yp, Yq, Yr, Ys, Yt, Yu, Yv, Yw, Yx, Yy, Yz, Y10, Y11, Y12, Y13, Y14, Y15, Y16, Y17, Y18, Y19, Y1a, Y1b, Y1c, Y1d, Y1e, Y1f, Y1g, Y1h, Y1i, Y1j, Y1k, Y1l, AV.cells?, Y1n, Y1o, Y1p, Y1q, Y1r, Y1s, Y1t, Nat.reduceAdd, Nat.reduceMul, Y1w, Y1x, Y1y, Y1z, Y20, Y21, Y22, Y23, Y24, Y25, Y26, Y27, Y28, Y29, Y2a, Y2b, show (((k + 1 : Nat) : Int) - 1) = (k : Int) by omega]
    exact back2.mk k (by omega) ⟨a', b', z, out, c, rfl, rfl, ha', hb', h11, hlen, hpf⟩
  rw [iaddr_LLI ha']
  simp only [Y0, Y1, Y2, Y3, Y4, Y5, Y6, Y7, Y8, Y9, Ya, Yb, Yc, Yd, Ye, Yf, Yg, Yh, Yi, Yj, Yk, Yl, Ym, Yn, Yo, Yp, Yq, Yr, Ys, Yt, Yu, Yv, Yw, Yx, Yy, Yz, Y10, Y11, Y12, Y13, Y14, Y15, Y16, Y17, Y18, Y19, Y1a, Y1b, Y1c, Y1d, Y1e, Y1f, Y1g, Y1h, Y1i, Y1j, Y1k, Y1l, AV.cells?, Y1n, Y1o, Y1p, Y1q, Y1r, Y1s, Y1t, Nat.reduceAdd, Nat.reduceMul, Y1w, Y1x, Y1y, Y1z, Y20, Y21, Y22, Y23, Y24, Y25, Y26, Y27, Y28, Y29, Y2a, Y2b, row_get ha', lenA_LI]
  refine wLoop.two (fun m x i H => ∃ (j c : Nat), j + m = (row t.next a').length ∧ x = t11 ∧ i = Z j ∧ H = ⟨[.cells n 1 [Z a'], .cells (n + 1) 1 [Z b'], z], c⟩ ∧ ∀ p, p < j → parts t (k + 1) a' b' p = false) (row t.next a').length
    (gh2.mk ⟨0, c, by omega, rfl, rfl, rfl, by simp⟩) ?_
  rintro m x i H ⟨j, c, hjm, rfl, rfl, rfl, hpre⟩
  by_cases hj : j < (row t.next a').length
  case neg =>
    have : j = (row t.next a').length := by omega
    subst this
    simp only [Y0, Y1, Y2, Y3, Y4, Y5, Y6, Y7, Y8, Y9, Ya, Yb, Yc, Yd, Ye, Yf, Yg, Yh, Yi, Yj, Yk, Yl, Ym, Yn, Yo, Yp, Yq, Yr, Ys, Yt, Yu, Yv, Yw, Yx, Yy, Yz, Y10, Y11, Y12, Y13, Y14, Y15, Y16, Y17, Y18, Y19, Y1a, Y1b, Y1c, Y1d, Y1e, Y1f, Y1g, Y1h, Y1i, Y1j, Y1k, Y1l, AV.cells?, Y1n, Y1o, Y1p, Y1q, Y1r, Y1s, Y1t, Nat.reduceAdd, Nat.reduceMul, Y1w, Y1x, Y1y, Y1z, Y20, Y21, Y22, Y23, Y24, Y25, Y26, Y27, Y28, Y29, Y2a, Y2b, Int.lt_irrefl]
    refine gh1.mk ⟨a', b', z, out, c, rfl, ha', hb', h11, by omega, ?_⟩
    rw [← hpf]
    have : (List.range (row t.next a').length).find? (parts t (k + 1) a' b') = none := by
      rw [List.find?_eq_none]
      intro p hp
      simp [hpre p (List.mem_range.1 hp)]
    simp only [partFrom, this]
  simp only [Y0, Y1, Y2, Y3, Y4, Y5, Y6, Y7, Y8, Y9, Ya, Yb, Yc, Yd, Ye, Yf, Yg, Yh, Yi, Yj, Yk, Yl, Ym, Yn, Yo, Yp, Yq, Yr, Ys, Yt, Yu, Yv, Yw, Yx, Yy, Yz, Y10, Y11, Y12, Y13, Y14, Y15, Y16, Y17, Y18, Y19, Y1a, Y1b, Y1c, Y1d, Y1e, Y1f, Y1g, Y1h, Y1i, Y1j, Y1k, Y1l, AV.cells?, Y1n, Y1o, Y1p, Y1q, Y1r, Y1s, Y1t, Nat.reduceAdd, Nat.reduceMul, Y1w, Y1x, Y1y, Y1z, Y20, Y21, Y22, Y23, Y24, Y25, Y26, Y27, Y28, Y29, Y2a, Y2b, decide_eq_true (show (j : Int) < ((row t.next a').length : Int) by omega)]
  rw [iaddr_LLI ha']
  simp only [Y0, Y1, Y2, Y3, Y4, Y5, Y6, Y7, Y8, Y9, Ya, Yb, Yc, Yd, Ye, Yf, Yg, Yh, Yi, Yj, Yk, Yl, Ym, Yn, Yo, Yp, Yq, Yr, Ys, Yt, Yu, Yv, Yw, Yx, Yy, Yz, Y10, Y11, Y12, Y13, Y14, Y15, Y16, Y17, Y18, Y19, Y1a, Y1b, Y1c, Y1d, Y1e, Y1f, Y1g, Y1h, Y1i, Y1j, Y1k, Y1l, AV.cells?, Y1n, Y1o, Y1p, Y1q, Y1r, Y1s, Y1t, Nat.reduceAdd, Nat.reduceMul, Y1w, Y1x, Y1y, Y1z, Y20, Y21, Y22, Y23, Y24, Y25, Y26, Y27, Y28, Y29, Y2a, Y2b, row_get ha']
  rw [iaddr_LI hj]
  simp only [Y0, Y1, Y2, Y3, Y4, Y5, Y6, Y7, Y8, Y9, Ya, Yb, Yc, Yd, Ye, Yf, Yg, Yh, Yi, Yj, Yk, Yl, Ym, Yn, Yo, Yp, Yq, Yr, Ys, Yt, Yu, Yv, Yw, Yx, Yy, Yz, Y10, Y11, Y12, Y13, Y14, Y15, Y16, Y17, Y18, Y19, Y1a, Y1b, Y1c, Y1d, Y1e, Y1f, Y1g, Y1h, Y1i, Y1j, Y1k, Y1l, AV.cells?, Y1n, Y1o, Y1p, Y1q, Y1r, Y1s, Y1t, Nat.reduceAdd, Nat.reduceMul, Y1w, Y1x, Y1y, Y1z, Y20, Y21, Y22, Y23, Y24, Y25, Y26, Y27, Y28, Y29, Y2a, Y2b, cell_at hj]
  rw [iaddr_LLI hb']
  simp only [Y0, Y1, Y2, Y3, Y4, Y5, Y6, Y7, Y8, Y9, Ya, Yb, Yc, Yd, Ye, Yf, Yg, Yh, Yi, Yj, Yk, Yl, Ym, Yn, Yo, Yp, Yq, Yr, Ys, Yt, Yu, Yv, Yw, Yx, Yy, Yz, Y10, Y11, Y12, Y13, Y14, Y15, Y16, Y17, Y18, Y19, Y1a, Y1b, Y1c, Y1d, Y1e, Y1f, Y1g, Y1h, Y1i, Y1j, Y1k, Y1l, AV.cells?, Y1n, Y1o, Y1p, Y1q, Y1r, Y1s, Y1t, Nat.reduceAdd, Nat.reduceMul, Y1w, Y1x, Y1y, Y1z, Y20, Y21, Y22, Y23, Y24, Y25, Y26, Y27, Y28, Y29, Y2a, Y2b, row_get hb']
  have hjb : j < (row t.next b').length := by omega
  rw [iaddr_LI hjb]
  simp only [Y0, Y1, Y2, Y3, Y4, Y5, Y6, Y7, Y8, Y9, Ya, Yb, Yc, Yd, Ye, Yf, Yg, Yh, Yi, Yj, Yk, Yl, Ym, Yn, Yo, Yp, Yq, Yr, Ys, Yt, Yu, Yv, Yw, Yx, Yy, Yz, Y10, Y11, Y12, Y13, Y14, Y15, Y16, Y17, Y18, Y19, Y1a, Y1b, Y1c, Y1d, Y1e, Y1f, Y1g, Y1h, Y1i, Y1j, Y1k, Y1l, AV.cells?, Y1n, Y1o, Y1p, Y1q, Y1r, Y1s, Y1t, Nat.reduceAdd, Nat.reduceMul, Y1w, Y1x, Y1y, Y1z, Y20, Y21, Y22, Y23, Y24, Y25, Y26, Y27, Y28, Y29, Y2a, Y2b, cell_at hjb, and_self, true_and]
  have hxa := hg.next_in ha' (i := j) (by omega)
  have hxb := hg.next_in hb' (i := j) (by omega)
  have exa : (((cell (row t.next a') j).toNat : Nat) : Int) = cell (row t.next a') j := by omega
  have exb : (((cell (row t.next b') j).toNat : Nat) : Int) = cell (row t.next b') j := by omega
  cases k with
  | zero =>
    simp only [Y0, Y1, Y2, Y3, Y4, Y5, Y6, Y7, Y8, Y9, Ya, Yb, Yc, Yd, Ye, Yf, Yg, Yh, Yi, Yj, Yk, Yl, Ym, Yn, Yo, Yp, Yq, Yr, Ys, Yt, Yu, Yv, Yw, Yx, Yy, Yz, Y10, Y11, Y12, Y13, Y14, Y15, Y16, Y17, Y18, Y19, Y1a, Y1b, Y1c, Y1d, Y1e, Y1f, Y1g, Y1h, Y1i, Y1j, Y1k, Y1l, AV.cells?, Y1n, Y1o, Y1p, Y1q, Y1r, Y1s, Y1t, Nat.reduceAdd, Nat.reduceMul, Y1w, Y1x, Y1y, Y1z, Y20, Y21, Y22, Y23, Y24, Y25, Y26, Y27, Y28, Y29, Y2a, Y2b, decide_eq_true (show (((0 + 1 : Nat) : Int) = 1) by omega)]
    have hta : a' < t.tells.length := by omega
    have htb : b' < t.tells.length := by omega
    rw [iaddr_LLI hta]
    simp only [Y0, Y1, Y2, Y3, Y4, Y5, Y6, Y7, Y8, Y9, Ya, Yb, Yc, Yd, Ye, Yf, Yg, Yh, Yi, Yj, Yk, Yl, Ym, Yn, Yo, Yp, Yq, Yr, Ys, Yt, Yu, Yv, Yw, Yx, Yy, Yz, Y10, Y11, Y12, Y13, Y14, Y15, Y16, Y17, Y18, Y19, Y1a, Y1b, Y1c, Y1d, Y1e, Y1f, Y1g, Y1h, Y1i, Y1j, Y1k, Y1l, AV.cells?, Y1n, Y1o, Y1p, Y1q, Y1r, Y1s, Y1t, Nat.reduceAdd, Nat.reduceMul, Y1w, Y1x, Y1y, Y1z, Y20, Y21, Y22, Y23, Y24, Y25, Y26, Y27, Y28, Y29, Y2a, Y2b, row_get hta]
    rw [iaddr_LI (show j < (row t.tells a').length by omega)]
    simp only [Y0, Y1, Y2, Y3, Y4, Y5, Y6, Y7, Y8, Y9, Ya, Yb, Yc, Yd, Ye, Yf, Yg, Yh, Yi, Yj, Yk, Yl, Ym, Yn, Yo, Yp, Yq, Yr, Ys, Yt, Yu, Yv, Yw, Yx, Yy, Yz, Y10, Y11, Y12, Y13, Y14, Y15, Y16, Y17, Y18, Y19, Y1a, Y1b, Y1c, Y1d, Y1e, Y1f, Y1g, Y1h, Y1i, Y1j, Y1k, Y1l, AV.cells?, Y1n, Y1o, Y1p, Y1q, Y1r, Y1s, Y1t, Nat.reduceAdd, Nat.reduceMul, Y1w, Y1x, Y1y, Y1z, Y20, Y21, Y22, Y23, Y24, Y25, Y26, Y27, Y28, Y29, Y2a, Y2b, cell_at (show j < (row t.tells a').length by omega)]
    rw [iaddr_LLI htb]
    simp only [Y0, Y1, Y2, Y3, Y4, Y5, Y6, Y7, Y8, Y9, Ya, Yb, Yc, Yd, Ye, Yf, Yg, Yh, Yi, Yj, Yk, Yl, Ym, Yn, Yo, Yp, Yq, Yr, Ys, Yt, Yu, Yv, Yw, Yx, Yy, Yz, Y10, Y11, Y12, Y13, Y14, Y15, Y16, Y17, Y18, Y19, Y1a, Y1b, Y1c, Y1d, Y1e, Y1f, Y1g, Y1h, Y1i, Y1j, Y1k, Y1l, AV.cells?, Y1n, Y1o, Y1p, Y1q, Y1r, Y1s, Y1t, Nat.reduceAdd, Nat.reduceMul, Y1w, Y1x, Y1y, Y1z, Y20, Y21, Y22, Y23, Y24, Y25, Y26, Y27, Y28, Y29, Y2a, Y2b, row_get htb]
    rw [iaddr_LI (show j < (row t.tells b').length by omega)]
    simp only [Y0, Y1, Y2, Y3, Y4, Y5, Y6, Y7, Y8, Y9, Ya, Yb, Yc, Yd, Ye, Yf, Yg, Yh, Yi, Yj, Yk, Yl, Ym, Yn, Yo, Yp, Yq, Yr, Ys, Yt, Yu, Yv, Yw, Yx, Yy, Yz, Y10, Y11, Y12, Y13, Y14, Y15, Y16, Y17, Y18, Y19, Y1a, Y1b, Y1c, Y1d, Y1e, Y1f, Y1g, Y1h, Y1i, Y1j, Y1k, Y1l, AV.cells?, Y1n, Y1o, Y1p, Y1q, Y1r, Y1s, Y1t, Nat.reduceAdd, Nat.reduceMul, Y1w, Y1x, Y1y, Y1z, Y20, Y21, Y22, Y23, Y24, Y25, Y26, Y27, Y28, Y29, Y2a, Y2b, cell_at (show j < (row t.tells b').length by omega)]
    by_cases he : cell (row t.tells a') j = cell (row t.tells b') j
    · have hpt : parts t (0 + 1) a' b' j = false := by simp [parts, he]
      simp only [Y0, Y1, Y2, Y3, Y4, Y5, Y6, Y7, Y8, Y9, Ya, Yb, Yc, Yd, Ye, Yf, Yg, Yh, Yi, Yj, Yk, Yl, Ym, Yn, Yo, Yp, Yq, Yr, Ys, Yt, Yu, Yv, Yw, Yx, Yy, Yz, Y10, Y11, Y12, Y13, Y14, Y15, Y16, Y17, Y18, Y19, Y1a, Y1b, Y1c, Y1d, Y1e, Y1f, Y1g, Y1h, Y1i, Y1j, Y1k, Y1l, AV.cells?, Y1n, Y1o, Y1p, Y1q, Y1r, Y1s, Y1t, Nat.reduceAdd, Nat.reduceMul, Y1w, Y1x, Y1y, Y1z, Y20, Y21, Y22, Y23, Y24, Y25, Y26, Y27, Y28, Y29, Y2a, Y2b, decide_eq_true he, decide_eq_false (show ¬ ((1 : Int) < ((0 + 1 : Nat) : Int)) by omega)]
      rw [binA_succ (by omega)]
      simp only [Y0, Y1, Y2, Y3, Y4, Y5, Y6, Y7, Y8, Y9, Ya, Yb, Yc, Yd, Ye, Yf, Yg, Yh, Yi, Yj, Yk, Yl, Ym, Yn, Yo, Yp, Yq, Yr, Ys, Yt, Yu, Yv, Yw, Yx, Yy, Yz, Y10, Y11, Y12, Y13, Y14, Y15, Y16, Y17, Y18, Y19, Y1a, Y1b, Y1c, Y1d, Y1e, Y1f, Y1g, Y1h, Y1i, Y1j, Y1k, Y1l, AV.cells?, Y1n, Y1o, Y1p, Y1q, Y1r, Y1s, Y1t, Nat.reduceAdd, Nat.reduceMul, Y1w, Y1x, Y1y, Y1z, Y20, Y21, Y22, Y23, Y24, Y25, Y26, Y27, Y28, Y29, Y2a, Y2b]
      refine back2.mk (m - 1) (by omega) ⟨j + 1, c, by omega, rfl, rfl, rfl, fun p hp => ?_⟩
      by_cases hpj : p < j
      · exact hpre p hpj
      · have : p = j := by omega
        subst this
        exact hpt
    · have hpt : parts t (0 + 1) a' b' j = true := by simp [parts, he]
      simp only [Y0, Y1, Y2, Y3, Y4, Y5, Y6, Y7, Y8, Y9, Ya, Yb, Yc, Yd, Ye, Yf, Yg, Yh, Yi, Yj, Yk, Yl, Ym, Yn, Yo, Yp, Yq, Yr, Ys, Yt, Yu, Yv, Yw, Yx, Yy, Yz, Y10, Y11, Y12, Y13, Y14, Y15, Y16, Y17, Y18, Y19, Y1a, Y1b, Y1c, Y1d, Y1e, Y1f, Y1g, Y1h, Y1i, Y1j, Y1k, Y1l, AV.cells?, Y1n, Y1o, Y1p, Y1q, Y1r, Y1s, Y1t, Nat.reduceAdd, Nat.reduceMul, Y1w, Y1x, Y1y, Y1z, Y20, Y21, Y22, Y23, Y24, Y25, Y26, Y27, Y28, Y29, Y2a, Y2b, decide_eq_false he]
      refine wNewS.F' (l := [Z j]) rfl rfl ?_
      refine wApp.one (bytes := 8) h11 rfl (by simp) (.refl _) rfl (by simp [mostBytes]; omega) fun z' x' c' hg' => ?_
      simp only [Y0, Y1, Y2, Y3, Y4, Y5, Y6, Y7, Y8, Y9, Ya, Yb, Yc, Yd, Ye, Yf, Yg, Yh, Yi, Yj, Yk, Yl, Ym, Yn, Yo, Yp, Yq, Yr, Ys, Yt, Yu, Yv, Yw, Yx, Yy, Yz, Y10, Y11, Y12, Y13, Y14, Y15, Y16, Y17, Y18, Y19, Y1a, Y1b, Y1c, Y1d, Y1e, Y1f, Y1g, Y1h, Y1i, Y1j, Y1k, Y1l, AV.cells?, Y1n, Y1o, Y1p, Y1q, Y1r, Y1s, Y1t, Nat.reduceAdd, Nat.reduceMul, Y1w, Y1x, Y1y, Y1z, Y20, Y21, Y22, Y23, Y24, Y25, Y26, Y27, Y28, Y29, Y2a, Y2b]
      rw [store1_L rfl]
      simp only [Y0, Y1, Y2, Y3, Y4, Y5, Y6, Y7, Y8, Y9, Ya, Yb, Yc, Yd, Ye, Yf, Yg, Yh, Yi, Yj, Yk, Yl, Ym, Yn, Yo, Yp, Yq, Yr, Ys, Yt, Yu, Yv, Yw, Yx, Yy, Yz, Y10, Y11, Y12, Y13, Y14, Y15, Y16, Y17, Y18, Y19, Y1a, Y1b, Y1c, Y1d, Y1e, Y1f, Y1g, Y1h, Y1i, Y1j, Y1k, Y1l, AV.cells?, Y1n, Y1o, Y1p, Y1q, Y1r, Y1s, Y1t, Nat.reduceAdd, Nat.reduceMul, Y1w, Y1x, Y1y, Y1z, Y20, Y21, Y22, Y23, Y24, Y25, Y26, Y27, Y28, Y29, Y2a, Y2b, Nat.reduceLT]
      rw [store1_L rfl]
      simp only [Y0, Y1, Y2, Y3, Y4, Y5, Y6, Y7, Y8, Y9, Ya, Yb, Yc, Yd, Ye, Yf, Yg, Yh, Yi, Yj, Yk, Yl, Ym, Yn, Yo, Yp, Yq, Yr, Ys, Yt, Yu, Yv, Yw, Yx, Yy, Yz, Y10, Y11, Y12, Y13, Y14, Y15, Y16, Y17, Y18, Y19, Y1a, Y1b, Y1c, Y1d, Y1e, Y1f, Y1g, Y1h, Y1i, Y1j, Y1k, Y1l, AV.cells?, Y1n, Y1o, Y1p, Y1q, Y1r, Y1s, Y1t, Nat.reduceAdd, Nat.reduceMul, Y1w, Y1x, Y1y, Y1z, Y20, Y21, Y22, Y23, Y24, Y25, Y26, Y27, Y28, Y29, Y2a, Y2b, Nat.reduceLT]
      refine gh1.mk ⟨(cell (row t.next a') j).toNat, (cell (row t.next b') j).toNat, z', out ++ [(j : Int)], c', by rw [exa, exb], by omega, by omega, by simpa using hg', by simp; omega, ?_⟩
      rw [← hpf]
      simp only [partFrom, find_range hj hpt hpre]
  | succ k =>
    simp only [Y0, Y1, Y2, Y3, Y4, Y5, Y6, Y7, Y8, Y9, Ya, Yb, Yc, Yd, Ye, Yf, Yg, Yh, Yi, Yj, Yk, Yl, Ym, Yn, Yo, Yp, Yq, Yr, Ys, Yt, Yu, Yv, Yw, Yx, Yy, Yz, Y10, Y11, Y12, Y13, Y14, Y15, Y16, Y17, Y18, Y19, Y1a, Y1b, Y1c, Y1d, Y1e, Y1f, Y1g, Y1h, Y1i, Y1j, Y1k, Y1l, AV.cells?, Y1n, Y1o, Y1p, Y1q, Y1r, Y1s, Y1t, Nat.reduceAdd, Nat.reduceMul, Y1w, Y1x, Y1y, Y1z, Y20, Y21, Y22, Y23, Y24, Y25, Y26, Y27, Y28, Y29, Y2a, Y2b, decide_eq_false (show ¬ (((k + 1 + 1 : Nat) : Int) = 1) by omega), decide_eq_true (show ((1 : Int) < ((k + 1 + 1 : Nat) : Int)) by omega)]
    rw [binA_sub (by omega)]
    simp only [Y0, Y1, Y2, Y3, Y4, Y5, Y6, Y7, Y8, Y9, Ya, Yb, Yc, Yd, Ye, Yf, Yg, Yh, Yi, Yj, Yk, Yl, Ym, Yn, Yo, Yp, Yq, Yr, Ys, Yt, Yu, Yv, Yw, Yx, Yy, Yz, Y10, Y11, Y12, Y13, Y14, Y15, Y16, Y17, Y18, Y19, Y1a, Y1b, Y1c, Y1d, Y1e, Y1f, Y1g, Y1h, Y1i, Y1j, Y1k, Y1l, AV.cells?, Y1n, Y1o, Y1p, Y1q, Y1r, Y1s, Y1t, Nat.reduceAdd, Nat.reduceMul, Y1w, Y1x, Y1y, Y1z, Y20, Y21, Y22, Y23, Y24, Y25, Y26, Y27, Y28, Y29, Y2a, Y2b, show (((k + 1 + 1 : Nat) : Int) - 1) = ((k + 1 : Nat) : Int) by omega]
    rw [iaddr_LLI (show k + 1 < ((List.range (finK t + 1)).map (iter t)).length by simp; omega)]
    have hrk : (((List.range (finK t + 1)).map (iter t)).map LI)[k + 1]? = some (LI (iter t (k + 1))) := by
      have : k + 1 < finK t + 1 := by omega
      simp [this]
    simp only [Y0, Y1, Y2, Y3, Y4, Y5, Y6, Y7, Y8, Y9, Ya, Yb, Yc, Yd, Ye, Yf, Yg, Yh, Yi, Yj, Yk, Yl, Ym, Yn, Yo, Yp, Yq, Yr, Ys, Yt, Yu, Yv, Yw, Yx, Yy, Yz, Y10, Y11, Y12, Y13, Y14, Y15, Y16, Y17, Y18, Y19, Y1a, Y1b, Y1c, Y1d, Y1e, Y1f, Y1g, Y1h, Y1i, Y1j, Y1k, Y1l, AV.cells?, Y1n, Y1o, Y1p, Y1q, Y1r, Y1s, Y1t, Nat.reduceAdd, Nat.reduceMul, Y1w, Y1x, Y1y, Y1z, Y20, Y21, Y22, Y23, Y24, Y25, Y26, Y27, Y28, Y29, Y2a, Y2b, hrk]
    rw [iaddr_LIz hxa.1 (by rw [iter_len]; omega)]
    simp only [Y0, Y1, Y2, Y3, Y4, Y5, Y6, Y7, Y8, Y9, Ya, Yb, Yc, Yd, Ye, Yf, Yg, Yh, Yi, Yj, Yk, Yl, Ym, Yn, Yo, Yp, Yq, Yr, Ys, Yt, Yu, Yv, Yw, Yx, Yy, Yz, Y10, Y11, Y12, Y13, Y14, Y15, Y16, Y17, Y18, Y19, Y1a, Y1b, Y1c, Y1d, Y1e, Y1f, Y1g, Y1h, Y1i, Y1j, Y1k, Y1l, AV.cells?, Y1n, Y1o, Y1p, Y1q, Y1r, Y1s, Y1t, Nat.reduceAdd, Nat.reduceMul, Y1w, Y1x, Y1y, Y1z, Y20, Y21, Y22, Y23, Y24, Y25, Y26, Y27, Y28, Y29, Y2a, Y2b, cell_at (show (cell (row t.next a') j).toNat < (iter t (k + 1)).length by rw [iter_len]; omega)]
    rw [iaddr_LIz hxb.1 (by rw [iter_len]; omega)]
    simp only [Y0, Y1, Y2, Y3, Y4, Y5, Y6, Y7, Y8, Y9, Ya, Yb, Yc, Yd, Ye, Yf, Yg, Yh, Yi, Yj, Yk, Yl, Ym, Yn, Yo, Yp, Yq, Yr, Ys, Yt, Yu, Yv, Yw, Yx, Yy, Yz, Y10, Y11, Y12, Y13, Y14, Y15, Y16, Y17, Y18, Y19, Y1a, Y1b, Y1c, Y1d, Y1e, Y1f, Y1g, Y1h, Y1i, Y1j, Y1k, Y1l, AV.cells?, Y1n, Y1o, Y1p, Y1q, Y1r, Y1s, Y1t, Nat.reduceAdd, Nat.reduceMul, Y1w, Y1x, Y1y, Y1z, Y20, Y21, Y22, Y23, Y24, Y25, Y26, Y27, Y28, Y29, Y2a, Y2b, cell_at (show (cell (row t.next b') j).toNat < (iter t (k + 1)).length by rw [iter_len]; omega)]
    by_cases he : cell (iter t (k + 1)) (cell (row t.next a') j).toNat = cell (iter t (k + 1)) (cell (row t.next b') j).toNat
    · have hpt : parts t (k + 1 + 1) a' b' j = false := by simp [parts, he]
      simp only [Y0, Y1, Y2, Y3, Y4, Y5, Y6, Y7, Y8, Y9, Ya, Yb, Yc, Yd, Ye, Yf, Yg, Yh, Yi, Yj, Yk, Yl, Ym, Yn, Yo, Yp, Yq, Yr, Ys, Yt, Yu, Yv, Yw, Yx, Yy, Yz, Y10, Y11, Y12, Y13, Y14, Y15, Y16, Y17, Y18, Y19, Y1a, Y1b, Y1c, Y1d, Y1e, Y1f, Y1g, Y1h, Y1i, Y1j, Y1k, Y1l, AV.cells?, Y1n, Y1o, Y1p, Y1q, Y1r, Y1s, Y1t, Nat.reduceAdd, Nat.reduceMul, Y1w, Y1x, Y1y, Y1z, Y20, Y21, Y22, Y23, Y24, Y25, Y26, Y27, Y28, Y29, Y2a, Y2b, decide_eq_true he]
      rw [binA_succ (by omega)]
      simp only [Y0, Y1, Y2, Y3, Y4, Y5, Y6, Y7, Y8, Y9, Ya, Yb, Yc, Yd, Ye, Yf, Yg, Yh, Yi, Yj, Yk, Yl, Ym, Yn, Yo, Yp, Yq, Yr, Ys, Yt, Yu, Yv, Yw, Yx, Yy, Yz, Y10, Y11, Y12, Y13, Y14, Y15, Y16, Y17, Y18, Y19, Y1a, Y1b, Y1c, Y1d, Y1e, Y1f, Y1g, Y1h, Y1i, Y1j, Y1k, Y1l, AV.cells?, Y1n, Y1o, Y1p, Y1q, Y1r, Y1s, Y1t, Nat.reduceAdd, Nat.reduceMul, Y1w, Y1x, Y1y, Y1z, Y20, Y21, Y22, Y23, Y24, Y25, Y26, Y27, Y28, Y29, Y2a, Y2b]
      refine back2.mk (m - 1) (by omega) ⟨j + 1, c, by omega, rfl, rfl, rfl, fun p hp => ?_⟩
      by_cases hpj : p < j
      · exact hpre p hpj
      · have : p = j := by omega
        subst this
        exact hpt
    · have hpt : parts t (k + 1 + 1) a' b' j = true := by simp [parts, he]
      simp only [Y0, Y1, Y2, Y3, Y4, Y5, Y6, Y7, Y8, Y9, Ya, Yb, Yc, Yd, Ye, Yf, Yg, Yh, Yi, Yj, Yk, Yl, Ym, Yn, Yo, Yp, Yq, Yr, Ys, Yt, Yu, Yv, Yw, Yx, Yy, Yz, Y10, Y11, Y12, Y13, Y14, Y15, Y16, Y17, Y18, Y19, Y1a, Y1b, Y1c, Y1d, Y1e, Y1f, Y1g, Y1h, Y1i, Y1j, Y1k, Y1l, AV.cells?, Y1n, Y1o, Y1p, Y1q, Y1r, Y1s, Y1t, Nat.reduceAdd, Nat.reduceMul, Y1w, Y1x, Y1y, Y1z, Y20, Y21, Y22, Y23, Y24, Y25, Y26, Y27, Y28, Y29, Y2a, Y2b, decide_eq_false he]
      refine wNewS.F' (l := [Z j]) rfl rfl ?_
      refine wApp.one (bytes := 8) h11 rfl (by simp) (.refl _) rfl (by simp [mostBytes]; omega) fun z' x' c' hg' => ?_
      simp only [Y0, Y1, Y2, Y3, Y4, Y5, Y6, Y7, Y8, Y9, Ya, Yb, Yc, Yd, Ye, Yf, Yg, Yh, Yi, Yj, Yk, Yl, Ym, Yn, Yo, Yp, Yq, Yr, Ys, Yt, Yu, Yv, Yw, Yx, Yy, Yz, Y10, Y11, Y12, Y13, Y14, Y15, Y16, Y17, Y18, Y19, Y1a, Y1b, Y1c, Y1d, Y1e, Y1f, Y1g, Y1h, Y1i, Y1j, Y1k, Y1l, AV.cells?, Y1n, Y1o, Y1p, Y1q, Y1r, Y1s, Y1t, Nat.reduceAdd, Nat.reduceMul, Y1w, Y1x, Y1y, Y1z, Y20, Y21, Y22, Y23, Y24, Y25, Y26, Y27, Y28, Y29, Y2a, Y2b]
      rw [store1_L rfl]
      simp only [Y0, Y1, Y2, Y3, Y4, Y5, Y6, Y7, Y8, Y9, Ya, Yb, Yc, Yd, Ye, Yf, Yg, Yh, Yi, Yj, Yk, Yl, Ym, Yn, Yo, Yp, Yq, Yr, Ys, Yt, Yu, Yv, Yw, Yx, Yy, Yz, Y10, Y11, Y12, Y13, Y14, Y15, Y16, Y17, Y18, Y19, Y1a, Y1b, Y1c, Y1d, Y1e, Y1f, Y1g, Y1h, Y1i, Y1j, Y1k, Y1l, AV.cells?, Y1n, Y1o, Y1p, Y1q, Y1r, Y1s, Y1t, Nat.reduceAdd, Nat.reduceMul, Y1w, Y1x, Y1y, Y1z, Y20, Y21, Y22, Y23, Y24, Y25, Y26, Y27, Y28, Y29, Y2a, Y2b, Nat.reduceLT]
      rw [store1_L rfl]
      simp only [Y0, Y1, Y2, Y3, Y4, Y5, Y6, Y7, Y8, Y9, Ya, Yb, Yc, Yd, Ye, Yf, Yg, Yh, Yi, Yj, Yk, Yl, Ym, Yn, Yo, Yp, Yq, Yr, Ys, Yt, Yu, Yv, Yw, Yx, Yy, Yz, Y10, Y11, Y12, Y13, Y14, Y15, Y16, Y17, Y18, Y19, Y1a, Y1b, Y1c, Y1d, Y1e, Y1f, Y1g, Y1h, Y1i, Y1j, Y1k, Y1l, AV.cells?, Y1n, Y1o, Y1p, Y1q, Y1r, Y1s, Y1t, Nat.reduceAdd, Nat.reduceMul, Y1w, Y1x, Y1y, Y1z, Y20, Y21, Y22, Y23, Y24, Y25, Y26, Y27, Y28, Y29, Y2a, Y2b, Nat.reduceLT]
      refine gh1.mk ⟨(cell (row t.next a') j).toNat, (cell (row t.next b') j).toNat, z', out ++ [(j : Int)], c', by rw [exa, exb], by omega, by omega, by simpa using hg', by simp; omega, ?_⟩
      rw [← hpf]
      simp only [partFrom, find_range hj hpt hpre]
end
end Go.Sc
namespace Go.Sc
open Go
set_option linter.unusedSimpArgs false
set_option linter.unusedVariables false

section
variable {E : Env} {P : Program}
theorem TableCheck_spec (hW : Body3 E P 86 F.ref_within) (hBa : Body1 E P 87 F.ref_Bare) (hB : Body1 E P 83 F.ref_TableCheck) (hfine : E.gl 5 = some [Z 0, Z (-1)]) (t : Table) (hl : t.sized) : FX E P 83 [Tb t] (failA (check t)) := by
  obtain ⟨hl1, hl2, hl3⟩ := hl
  refine FX.of' (by simp [AV.closedL, Tb_closed]) (failA_closed _) fun n R hR => hB _ _ _ ?_
  unfold F.ref_TableCheck Tb
  refine wNew.F' (l := [LLI t.next, LLI t.tells]) rfl ?_
  refine wNew.L (l := [Z 0, Z 0]) rfl ?_
  simp only [Y0, Y1, Y2, Y3, Y4, Y5, Y6, Y7, Y8, Y9, Ya, Yb, Yc, Yd, Ye, Yf, Yg, Yh, Yi, Yj, Yk, Yl, Ym, Yn, Yo, Yp, Yq, Yr, Ys, Yt, Yu, Yv, Yw, Yx, Yy, Yz, Y10, Y11, Y12, Y13, Y14, Y15, Y16, Y17, Y18, Y19, Y1a, Y1b, Y1c, Y1d, Y1e, Y1f, Y1g, Y1h, Y1i, Y1j, Y1k, Y1l, AV.cells?, Y1n, Y1o, Y1p, Y1q, Y1r, Y1s, Y1t, Nat.reduceAdd, Nat.reduceMul, Y1w, Y1x, Y1y, Y1z, Y20, Y21, Y22, Y23, Y24, Y25, Y26, Y27, Y28, Y29, Y2a, Y2b, lenA_LLI]
  refine wCall.fx (within_spec hW _ _ _) fun n1 => ?_
  by_cases c1 : t.next.length < 1 ∨ t.next.length > 500
  · rw [show (decide ((1 : Int) ≤ t.next.length) && decide ((t.next.length : Int) ≤ 500)) = false by simp; omega]
    simp only [Y0, Y1, Y2, Y3, Y4, Y5, Y6, Y7, Y8, Y9, Ya, Yb, Yc, Yd, Ye, Yf, Yg, Yh, Yi, Yj, Yk, Yl, Ym, Yn, Yo, Yp, Yq, Yr, Ys, Yt, Yu, Yv, Yw, Yx, Yy, Yz, Y10, Y11, Y12, Y13, Y14, Y15, Y16, Y17, Y18, Y19, Y1a, Y1b, Y1c, Y1d, Y1e, Y1f, Y1g, Y1h, Y1i, Y1j, Y1k, Y1l, AV.cells?, Y1n, Y1o, Y1p, Y1q, Y1r, Y1s, Y1t, Nat.reduceAdd, Nat.reduceMul, Y1w, Y1x, Y1y, Y1z, Y20, Y21, Y22, Y23, Y24, Y25, Y26, Y27, Y28, Y29, Y2a, Y2b]
    refine wCall.fx (Bare_spec hBa 4) fun n2 => ?_
    rw [storeN_L (n := 2) (xs := [Z 4, Z (-1)]) rfl rfl]
    simp only [Y0, Y1, Y2, Y3, Y4, Y5, Y6, Y7, Y8, Y9, Ya, Yb, Yc, Yd, Ye, Yf, Yg, Yh, Yi, Yj, Yk, Yl, Ym, Yn, Yo, Yp, Yq, Yr, Ys, Yt, Yu, Yv, Yw, Yx, Yy, Yz, Y10, Y11, Y12, Y13, Y14, Y15, Y16, Y17, Y18, Y19, Y1a, Y1b, Y1c, Y1d, Y1e, Y1f, Y1g, Y1h, Y1i, Y1j, Y1k, Y1l, AV.cells?, Y1n, Y1o, Y1p, Y1q, Y1r, Y1s, Y1t, Nat.reduceAdd, Nat.reduceMul, Y1w, Y1x, Y1y, Y1z, Y20, Y21, Y22, Y23, Y24, Y25, Y26, Y27, Y28, Y29, Y2a, Y2b, put_two, ret_one]
    exact hR _ _ (by simp only [check]; rw [if_pos (by omega)]; rfl)
  rw [show (decide ((1 : Int) ≤ t.next.length) && decide ((t.next.length : Int) ≤ 500)) = true by simp; omega]
  have hpos : 0 < t.next.length := by omega
  simp only [Y0, Y1, Y2, Y3, Y4, Y5, Y6, Y7, Y8, Y9, Ya, Yb, Yc, Yd, Ye, Yf, Yg, Yh, Yi, Yj, Yk, Yl, Ym, Yn, Yo, Yp, Yq, Yr, Ys, Yt, Yu, Yv, Yw, Yx, Yy, Yz, Y10, Y11, Y12, Y13, Y14, Y15, Y16, Y17, Y18, Y19, Y1a, Y1b, Y1c, Y1d, Y1e, Y1f, Y1g, Y1h, Y1i, Y1j, Y1k, Y1l, AV.cells?, Y1n, Y1o, Y1p, Y1q, Y1r, Y1s, Y1t, Nat.reduceAdd, Nat.reduceMul, Y1w, Y1x, Y1y, Y1z, Y20, Y21, Y22, Y23, Y24, Y25, Y26, Y27, Y28, Y29, Y2a, Y2b, lenA_LLI, iaddr_LLI0 hpos, row_get hpos, lenA_LI]
  by_cases c3 : (64 : Int) < (row t.next 0).length
  · simp only [Y0, Y1, Y2, Y3, Y4, Y5, Y6, Y7, Y8, Y9, Ya, Yb, Yc, Yd, Ye, Yf, Yg, Yh, Yi, Yj, Yk, Yl, Ym, Yn, Yo, Yp, Yq, Yr, Ys, Yt, Yu, Yv, Yw, Yx, Yy, Yz, Y10, Y11, Y12, Y13, Y14, Y15, Y16, Y17, Y18, Y19, Y1a, Y1b, Y1c, Y1d, Y1e, Y1f, Y1g, Y1h, Y1i, Y1j, Y1k, Y1l, AV.cells?, Y1n, Y1o, Y1p, Y1q, Y1r, Y1s, Y1t, Nat.reduceAdd, Nat.reduceMul, Y1w, Y1x, Y1y, Y1z, Y20, Y21, Y22, Y23, Y24, Y25, Y26, Y27, Y28, Y29, Y2a, Y2b, decide_eq_true c3]
    refine wCall.fx (Bare_spec hBa 4) fun n2 => ?_
    rw [storeN_L (n := 2) (xs := [Z 4, Z (-1)]) rfl rfl]
    simp only [Y0, Y1, Y2, Y3, Y4, Y5, Y6, Y7, Y8, Y9, Ya, Yb, Yc, Yd, Ye, Yf, Yg, Yh, Yi, Yj, Yk, Yl, Ym, Yn, Yo, Yp, Yq, Yr, Ys, Yt, Yu, Yv, Yw, Yx, Yy, Yz, Y10, Y11, Y12, Y13, Y14, Y15, Y16, Y17, Y18, Y19, Y1a, Y1b, Y1c, Y1d, Y1e, Y1f, Y1g, Y1h, Y1i, Y1j, Y1k, Y1l, AV.cells?, Y1n, Y1o, Y1p, Y1q, Y1r, Y1s, Y1t, Nat.reduceAdd, Nat.reduceMul, Y1w, Y1x, Y1y, Y1z, Y20, Y21, Y22, Y23, Y24, Y25, Y26, Y27, Y28, Y29, Y2a, Y2b, put_two, ret_one]
    exact hR _ _ (by simp only [check]; rw [if_pos (by simp only [row] at c3; omega)]; rfl)
  simp only [Y0, Y1, Y2, Y3, Y4, Y5, Y6, Y7, Y8, Y9, Ya, Yb, Yc, Yd, Ye, Yf, Yg, Yh, Yi, Yj, Yk, Yl, Ym, Yn, Yo, Yp, Yq, Yr, Ys, Yt, Yu, Yv, Yw, Yx, Yy, Yz, Y10, Y11, Y12, Y13, Y14, Y15, Y16, Y17, Y18, Y19, Y1a, Y1b, Y1c, Y1d, Y1e, Y1f, Y1g, Y1h, Y1i, Y1j, Y1k, Y1l, AV.cells?, Y1n, Y1o, Y1p, Y1q, Y1r, Y1s, Y1t, Nat.reduceAdd, Nat.reduceMul, Y1w, Y1x, Y1y, Y1z, Y20, Y21, Y22, Y23, Y24, Y25, Y26, Y27, Y28, Y29, Y2a, Y2b, decide_eq_false c3, lenA_LLI]
  by_cases c4 : (t.tells.length : Int) = t.next.length
  case neg =>
    simp only [Y0, Y1, Y2, Y3, Y4, Y5, Y6, Y7, Y8, Y9, Ya, Yb, Yc, Yd, Ye, Yf, Yg, Yh, Yi, Yj, Yk, Yl, Ym, Yn, Yo, Yp, Yq, Yr, Ys, Yt, Yu, Yv, Yw, Yx, Yy, Yz, Y10, Y11, Y12, Y13, Y14, Y15, Y16, Y17, Y18, Y19, Y1a, Y1b, Y1c, Y1d, Y1e, Y1f, Y1g, Y1h, Y1i, Y1j, Y1k, Y1l, AV.cells?, Y1n, Y1o, Y1p, Y1q, Y1r, Y1s, Y1t, Nat.reduceAdd, Nat.reduceMul, Y1w, Y1x, Y1y, Y1z, Y20, Y21, Y22, Y23, Y24, Y25, Y26, Y27, Y28, Y29, Y2a, Y2b, decide_eq_false c4]
    refine wCall.fx (Bare_spec hBa 3) fun n2 => ?_
    rw [storeN_L (n := 2) (xs := [Z 3, Z (-1)]) rfl rfl]
    simp only [Y0, Y1, Y2, Y3, Y4, Y5, Y6, Y7, Y8, Y9, Ya, Yb, Yc, Yd, Ye, Yf, Yg, Yh, Yi, Yj, Yk, Yl, Ym, Yn, Yo, Yp, Yq, Yr, Ys, Yt, Yu, Yv, Yw, Yx, Yy, Yz, Y10, Y11, Y12, Y13, Y14, Y15, Y16, Y17, Y18, Y19, Y1a, Y1b, Y1c, Y1d, Y1e, Y1f, Y1g, Y1h, Y1i, Y1j, Y1k, Y1l, AV.cells?, Y1n, Y1o, Y1p, Y1q, Y1r, Y1s, Y1t, Nat.reduceAdd, Nat.reduceMul, Y1w, Y1x, Y1y, Y1z, Y20, Y21, Y22, Y23, Y24, Y25, Y26, Y27, Y28, Y29, Y2a, Y2b, put_two, ret_one]
    exact hR _ _ (by simp only [check]; rw [if_neg (by simp only [row] at c3; omega), if_pos (by omega)]; rfl)
  simp only [Y0, Y1, Y2, Y3, Y4, Y5, Y6, Y7, Y8, Y9, Ya, Yb, Yc, Yd, Ye, Yf, Yg, Yh, Yi, Yj, Yk, Yl, Ym, Yn, Yo, Yp, Yq, Yr, Ys, Yt, Yu, Yv, Yw, Yx, Yy, Yz, Y10, Y11, Y12, Y13, Y14, Y15, Y16, Y17, Y18, Y19, Y1a, Y1b, Y1c, Y1d, Y1e, Y1f, Y1g, Y1h, Y1i, Y1j, Y1k, Y1l, AV.cells?, Y1n, Y1o, Y1p, Y1q, Y1r, Y1s, Y1t, Nat.reduceAdd, Nat.reduceMul, Y1w, Y1x, Y1y, Y1z, Y20, Y21, Y22, Y23, Y24, Y25, Y26, Y27, Y28, Y29, Y2a, Y2b, decide_eq_true c4, lenA_LLI]
  have hchk : check t = (List.range t.next.length).findSome? (checkAt t) := by simp only [check]; rw [if_neg (by simp only [row] at c3; omega), if_neg (by omega)]
  refine wLoop.one (fun m x H => ∃ (i : Nat) (c : Nat), i + m = t.next.length ∧ x = Z i ∧ H = ⟨[.cells n 2 [Z 0, Z 0]], c⟩ ∧ ∀ j, j < i → checkAt t j = none) t.next.length (gh1.mk ⟨0, _, by simp, rfl, rfl, by simp⟩) ?_
  rintro m x H ⟨i, c, him, rfl, rfl, hpre⟩
  have gfine : gptr E 5 = .ptrF [Z 0, Z (-1)] 0 := by simp [gptr, hfine]
  by_cases hi : i < t.next.length
  case neg =>
    have : i = t.next.length := by omega
    subst this
    simp only [Y0, Y1, Y2, Y3, Y4, Y5, Y6, Y7, Y8, Y9, Ya, Yb, Yc, Yd, Ye, Yf, Yg, Yh, Yi, Yj, Yk, Yl, Ym, Yn, Yo, Yp, Yq, Yr, Ys, Yt, Yu, Yv, Yw, Yx, Yy, Yz, Y10, Y11, Y12, Y13, Y14, Y15, Y16, Y17, Y18, Y19, Y1a, Y1b, Y1c, Y1d, Y1e, Y1f, Y1g, Y1h, Y1i, Y1j, Y1k, Y1l, AV.cells?, Y1n, Y1o, Y1p, Y1q, Y1r, Y1s, Y1t, Nat.reduceAdd, Nat.reduceMul, Y1w, Y1x, Y1y, Y1z, Y20, Y21, Y22, Y23, Y24, Y25, Y26, Y27, Y28, Y29, Y2a, Y2b, Int.lt_irrefl, gfine]
    rw [storeN_L (n := 2) (xs := [Z 0, Z (-1)]) rfl rfl]
    simp only [Y0, Y1, Y2, Y3, Y4, Y5, Y6, Y7, Y8, Y9, Ya, Yb, Yc, Yd, Ye, Yf, Yg, Yh, Yi, Yj, Yk, Yl, Ym, Yn, Yo, Yp, Yq, Yr, Ys, Yt, Yu, Yv, Yw, Yx, Yy, Yz, Y10, Y11, Y12, Y13, Y14, Y15, Y16, Y17, Y18, Y19, Y1a, Y1b, Y1c, Y1d, Y1e, Y1f, Y1g, Y1h, Y1i, Y1j, Y1k, Y1l, AV.cells?, Y1n, Y1o, Y1p, Y1q, Y1r, Y1s, Y1t, Nat.reduceAdd, Nat.reduceMul, Y1w, Y1x, Y1y, Y1z, Y20, Y21, Y22, Y23, Y24, Y25, Y26, Y27, Y28, Y29, Y2a, Y2b, put_two, ret_one]
    refine hR _ _ ?_
    rw [hchk, findSome_none_of]
    · rfl
    · intro j hj
      exact hpre j (List.mem_range.1 hj)
  simp only [Y0, Y1, Y2, Y3, Y4, Y5, Y6, Y7, Y8, Y9, Ya, Yb, Yc, Yd, Ye, Yf, Yg, Yh, Yi, Yj, Yk, Yl, Ym, Yn, Yo, Yp, Yq, Yr, Ys, Yt, Yu, Yv, Yw, Yx, Yy, Yz, Y10, Y11, Y12, Y13, Y14, Y15, Y16, Y17, Y18, Y19, Y1a, Y1b, Y1c, Y1d, Y1e, Y1f, Y1g, Y1h, Y1i, Y1j, Y1k, Y1l, AV.cells?, Y1n, Y1o, Y1p, Y1q, Y1r, Y1s, Y1t, Nat.reduceAdd, Nat.reduceMul, Y1w, Y1x, Y1y, Y1z, Y20, Y21, Y22, Y23, Y24, Y25, Y26, Y27, Y28, Y29, Y2a, Y2b, decide_eq_true (show (i : Int) < (t.next.length : Int) by omega)]
  rw [iaddr_LLI hi]
  simp only [Y0, Y1, Y2, Y3, Y4, Y5, Y6, Y7, Y8, Y9, Ya, Yb, Yc, Yd, Ye, Yf, Yg, Yh, Yi, Yj, Yk, Yl, Ym, Yn, Yo, Yp, Yq, Yr, Ys, Yt, Yu, Yv, Yw, Yx, Yy, Yz, Y10, Y11, Y12, Y13, Y14, Y15, Y16, Y17, Y18, Y19, Y1a, Y1b, Y1c, Y1d, Y1e, Y1f, Y1g, Y1h, Y1i, Y1j, Y1k, Y1l, AV.cells?, Y1n, Y1o, Y1p, Y1q, Y1r, Y1s, Y1t, Nat.reduceAdd, Nat.reduceMul, Y1w, Y1x, Y1y, Y1z, Y20, Y21, Y22, Y23, Y24, Y25, Y26, Y27, Y28, Y29, Y2a, Y2b, row_get hi, lenA_LI, iaddr_LLI0 hpos, row_get hpos]
  have atE : ∀ (k : Nat) H, checkAt t i = some (k, some i) → R (.agg [Z k, Z i]) H := fun k H h => hR _ _ (by rw [hchk, findSome_range hi hpre h]; rfl)
  by_cases c5 : ((row t.next i).length : Int) = (row t.next 0).length
  case neg =>
    simp only [Y0, Y1, Y2, Y3, Y4, Y5, Y6, Y7, Y8, Y9, Ya, Yb, Yc, Yd, Ye, Yf, Yg, Yh, Yi, Yj, Yk, Yl, Ym, Yn, Yo, Yp, Yq, Yr, Ys, Yt, Yu, Yv, Yw, Yx, Yy, Yz, Y10, Y11, Y12, Y13, Y14, Y15, Y16, Y17, Y18, Y19, Y1a, Y1b, Y1c, Y1d, Y1e, Y1f, Y1g, Y1h, Y1i, Y1j, Y1k, Y1l, AV.cells?, Y1n, Y1o, Y1p, Y1q, Y1r, Y1s, Y1t, Nat.reduceAdd, Nat.reduceMul, Y1w, Y1x, Y1y, Y1z, Y20, Y21, Y22, Y23, Y24, Y25, Y26, Y27, Y28, Y29, Y2a, Y2b, decide_eq_false c5]
    refine ⟨⟨[Z 3, Z i], rfl, ?_⟩⟩
    rw [storeN_L (n := 2) (xs := [Z 3, Z i]) rfl rfl]
    simp only [Y0, Y1, Y2, Y3, Y4, Y5, Y6, Y7, Y8, Y9, Ya, Yb, Yc, Yd, Ye, Yf, Yg, Yh, Yi, Yj, Yk, Yl, Ym, Yn, Yo, Yp, Yq, Yr, Ys, Yt, Yu, Yv, Yw, Yx, Yy, Yz, Y10, Y11, Y12, Y13, Y14, Y15, Y16, Y17, Y18, Y19, Y1a, Y1b, Y1c, Y1d, Y1e, Y1f, Y1g, Y1h, Y1i, Y1j, Y1k, Y1l, AV.cells?, Y1n, Y1o, Y1p, Y1q, Y1r, Y1s, Y1t, Nat.reduceAdd, Nat.reduceMul, Y1w, Y1x, Y1y, Y1z, Y20, Y21, Y22, Y23, Y24, Y25, Y26, Y27, Y28, Y29, Y2a, Y2b, put_two, ret_one]
    exact atE 3 _ (by simp only [checkAt]; rw [if_pos (by simp only [row] at c5; omega)])
  simp only [Y0, Y1, Y2, Y3, Y4, Y5, Y6, Y7, Y8, Y9, Ya, Yb, Yc, Yd, Ye, Yf, Yg, Yh, Yi, Yj, Yk, Yl, Ym, Yn, Yo, Yp, Yq, Yr, Ys, Yt, Yu, Yv, Yw, Yx, Yy, Yz, Y10, Y11, Y12, Y13, Y14, Y15, Y16, Y17, Y18, Y19, Y1a, Y1b, Y1c, Y1d, Y1e, Y1f, Y1g, Y1h, Y1i, Y1j, Y1k, Y1l, AV.cells?, Y1n, Y1o, Y1p, Y1q, Y1r, Y1s, Y1t, Nat.reduceAdd, Nat.reduceMul, Y1w, Y1x, Y1y, Y1z, Y20, Y21, Y22, Y23, Y24, Y25, Y26, Y27, Y28, Y29, Y2a, Y2b, decide_eq_true c5, lenA_LLI]
  have hi2 : i < t.tells.length := by omega
  rw [iaddr_LLI hi2]
  simp only [Y0, Y1, Y2, Y3, Y4, Y5, Y6, Y7, Y8, Y9, Ya, Yb, Yc, Yd, Ye, Yf, Yg, Yh, Yi, Yj, Yk, Yl, Ym, Yn, Yo, Yp, Yq, Yr, Ys, Yt, Yu, Yv, Yw, Yx, Yy, Yz, Y10, Y11, Y12, Y13, Y14, Y15, Y16, Y17, Y18, Y19, Y1a, Y1b, Y1c, Y1d, Y1e, Y1f, Y1g, Y1h, Y1i, Y1j, Y1k, Y1l, AV.cells?, Y1n, Y1o, Y1p, Y1q, Y1r, Y1s, Y1t, Nat.reduceAdd, Nat.reduceMul, Y1w, Y1x, Y1y, Y1z, Y20, Y21, Y22, Y23, Y24, Y25, Y26, Y27, Y28, Y29, Y2a, Y2b, row_get hi2, lenA_LI, iaddr_LLI0 hpos, row_get hpos]
  by_cases c6 : ((row t.tells i).length : Int) = (row t.next 0).length
  case neg =>
    simp only [Y0, Y1, Y2, Y3, Y4, Y5, Y6, Y7, Y8, Y9, Ya, Yb, Yc, Yd, Ye, Yf, Yg, Yh, Yi, Yj, Yk, Yl, Ym, Yn, Yo, Yp, Yq, Yr, Ys, Yt, Yu, Yv, Yw, Yx, Yy, Yz, Y10, Y11, Y12, Y13, Y14, Y15, Y16, Y17, Y18, Y19, Y1a, Y1b, Y1c, Y1d, Y1e, Y1f, Y1g, Y1h, Y1i, Y1j, Y1k, Y1l, AV.cells?, Y1n, Y1o, Y1p, Y1q, Y1r, Y1s, Y1t, Nat.reduceAdd, Nat.reduceMul, Y1w, Y1x, Y1y, Y1z, Y20, Y21, Y22, Y23, Y24, Y25, Y26, Y27, Y28, Y29, Y2a, Y2b, decide_eq_false c6]
    refine ⟨⟨[Z 3, Z i], rfl, ?_⟩⟩
    rw [storeN_L (n := 2) (xs := [Z 3, Z i]) rfl rfl]
    simp only [Y0, Y1, Y2, Y3, Y4, Y5, Y6, Y7, Y8, Y9, Ya, Yb, Yc, Yd, Ye, Yf, Yg, Yh, Yi, Yj, Yk, Yl, Ym, Yn, Yo, Yp, Yq, Yr, Ys, Yt, Yu, Yv, Yw, Yx, Yy, Yz, Y10, Y11, Y12, Y13, Y14, Y15, Y16, Y17, Y18, Y19, Y1a, Y1b, Y1c, Y1d, Y1e, Y1f, Y1g, Y1h, Y1i, Y1j, Y1k, Y1l, AV.cells?, Y1n, Y1o, Y1p, Y1q, Y1r, Y1s, Y1t, Nat.reduceAdd, Nat.reduceMul, Y1w, Y1x, Y1y, Y1z, Y20, Y21, Y22, Y23, Y24, Y25, Y26, Y27, Y28, Y29, Y2a, Y2b, put_two, ret_one]
    exact atE 3 _ (by simp only [checkAt]; rw [if_pos (by simp only [row] at c6; omega)])
  simp only [Y0, Y1, Y2, Y3, Y4, Y5, Y6, Y7, Y8, Y9, Ya, Yb, Yc, Yd, Ye, Yf, Yg, Yh, Yi, Yj, Yk, Yl, Ym, Yn, Yo, Yp, Yq, Yr, Ys, Yt, Yu, Yv, Yw, Yx, Yy, Yz, Y10, Y11, Y12, Y13, Y14, Y15, Y16, Y17, Y18, Y19, Y1a, Y1b, Y1c, Y1d, Y1e, Y1f, Y1g, Y1h, Y1i, Y1j, Y1k, Y1l, AV.cells?, Y1n, Y1o, Y1p, Y1q, Y1r, Y1s, Y1t, Nat.reduceAdd, Nat.reduceMul, Y1w, Y1x, Y1y, Y1z, Y20, Y21, Y22, Y23, Y24, Y25, Y26, Y27, Y28, Y29, Y2a, Y2b, decide_eq_true c6, lenA_LLI]
  refine wLoop.one (fun m x H => ∃ (pre rest : List Int) (c : Nat), row t.next i = pre ++ rest ∧ x = Z pre.length ∧ m = rest.length ∧ H = ⟨[.cells n 2 [Z 0, Z 0]], c⟩ ∧ ∀ y ∈ pre, (decide (y < 0) || decide (y ≥ t.next.length)) = false) (row t.next i).length (gh1.mk ⟨[], row t.next i, _, rfl, rfl, rfl, rfl, by simp⟩) ?_
  rintro m2 x H ⟨pre, rest, c2, hre, rfl, rfl, rfl, hok⟩
  cases rest with
  | nil =>
    rw [List.append_nil] at hre
    rw [hre]
    simp only [Y0, Y1, Y2, Y3, Y4, Y5, Y6, Y7, Y8, Y9, Ya, Yb, Yc, Yd, Ye, Yf, Yg, Yh, Yi, Yj, Yk, Yl, Ym, Yn, Yo, Yp, Yq, Yr, Ys, Yt, Yu, Yv, Yw, Yx, Yy, Yz, Y10, Y11, Y12, Y13, Y14, Y15, Y16, Y17, Y18, Y19, Y1a, Y1b, Y1c, Y1d, Y1e, Y1f, Y1g, Y1h, Y1i, Y1j, Y1k, Y1l, AV.cells?, Y1n, Y1o, Y1p, Y1q, Y1r, Y1s, Y1t, Nat.reduceAdd, Nat.reduceMul, Y1w, Y1x, Y1y, Y1z, Y20, Y21, Y22, Y23, Y24, Y25, Y26, Y27, Y28, Y29, Y2a, Y2b, Int.lt_irrefl]
    rw [binA_succ (by omega)]
    simp only [Y0, Y1, Y2, Y3, Y4, Y5, Y6, Y7, Y8, Y9, Ya, Yb, Yc, Yd, Ye, Yf, Yg, Yh, Yi, Yj, Yk, Yl, Ym, Yn, Yo, Yp, Yq, Yr, Ys, Yt, Yu, Yv, Yw, Yx, Yy, Yz, Y10, Y11, Y12, Y13, Y14, Y15, Y16, Y17, Y18, Y19, Y1a, Y1b, Y1c, Y1d, Y1e, Y1f, Y1g, Y1h, Y1i, Y1j, Y1k, Y1l, AV.cells?, Y1n, Y1o, Y1p, Y1q, Y1r, Y1s, Y1t, Nat.reduceAdd, Nat.reduceMul, Y1w, Y1x, Y1y, Y1z, Y20, Y21, Y22, Y23, Y24, Y25, Y26, Y27, Y28, Y29, Y2a, Y2b]
    refine back1.mk (m - 1) (by omega) ⟨i + 1, _, by omega, rfl, rfl, fun j hj => ?_⟩
    by_cases hji : j < i
    · exact hpre j hji
    · have : j = i := by omega
      subst this
      have h7 : (row t.next j).any (fun y => decide (y < 0) || decide (y ≥ t.next.length)) = false := by
        rw [hre, List.any_eq_false]; intro y hy; simp only [hok y hy]; simp
      simp only [row] at c5 c6 h7
      simp only [checkAt]
      rw [if_neg (by omega), if_neg (by rw [h7]; simp)]
  | cons y rest =>
    rw [hre]
    simp only [Y0, Y1, Y2, Y3, Y4, Y5, Y6, Y7, Y8, Y9, Ya, Yb, Yc, Yd, Ye, Yf, Yg, Yh, Yi, Yj, Yk, Yl, Ym, Yn, Yo, Yp, Yq, Yr, Ys, Yt, Yu, Yv, Yw, Yx, Yy, Yz, Y10, Y11, Y12, Y13, Y14, Y15, Y16, Y17, Y18, Y19, Y1a, Y1b, Y1c, Y1d, Y1e, Y1f, Y1g, Y1h, Y1i, Y1j, Y1k, Y1l, AV.cells?, Y1n, Y1o, Y1p, Y1q, Y1r, Y1s, Y1t, Nat.reduceAdd, Nat.reduceMul, Y1w, Y1x, Y1y, Y1z, Y20, Y21, Y22, Y23, Y24, Y25, Y26, Y27, Y28, Y29, Y2a, Y2b, decide_eq_true (show (pre.length : Int) < ((pre ++ y :: rest).length : Int) by simp; omega)]
    rw [iaddr_LI lt_mid]
    simp only [Y0, Y1, Y2, Y3, Y4, Y5, Y6, Y7, Y8, Y9, Ya, Yb, Yc, Yd, Ye, Yf, Yg, Yh, Yi, Yj, Yk, Yl, Ym, Yn, Yo, Yp, Yq, Yr, Ys, Yt, Yu, Yv, Yw, Yx, Yy, Yz, Y10, Y11, Y12, Y13, Y14, Y15, Y16, Y17, Y18, Y19, Y1a, Y1b, Y1c, Y1d, Y1e, Y1f, Y1g, Y1h, Y1i, Y1j, Y1k, Y1l, AV.cells?, Y1n, Y1o, Y1p, Y1q, Y1r, Y1s, Y1t, Nat.reduceAdd, Nat.reduceMul, Y1w, Y1x, Y1y, Y1z, Y20, Y21, Y22, Y23, Y24, Y25, Y26, Y27, Y28, Y29, Y2a, Y2b, at_mid]
    rw [binA_sub (by omega)]
    simp only [Y0, Y1, Y2, Y3, Y4, Y5, Y6, Y7, Y8, Y9, Ya, Yb, Yc, Yd, Ye, Yf, Yg, Yh, Yi, Yj, Yk, Yl, Ym, Yn, Yo, Yp, Yq, Yr, Ys, Yt, Yu, Yv, Yw, Yx, Yy, Yz, Y10, Y11, Y12, Y13, Y14, Y15, Y16, Y17, Y18, Y19, Y1a, Y1b, Y1c, Y1d, Y1e, Y1f, Y1g, Y1h, Y1i, Y1j, Y1k, Y1l, AV.cells?, Y1n, Y1o, Y1p, Y1q, Y1r, Y1s, Y1t, Nat.reduceAdd, Nat.reduceMul, Y1w, Y1x, Y1y, Y1z, Y20, Y21, Y22, Y23, Y24, Y25, Y26, Y27, Y28, Y29, Y2a, Y2b]
    refine wCall.fx (within_spec hW _ _ _) fun n2 => ?_
    by_cases h8 : y < 0 ∨ y ≥ t.next.length
    · rw [show (decide ((0 : Int) ≤ y) && decide (y ≤ (t.next.length : Int) - 1)) = false by simp; omega]
      simp only [Y0, Y1, Y2, Y3, Y4, Y5, Y6, Y7, Y8, Y9, Ya, Yb, Yc, Yd, Ye, Yf, Yg, Yh, Yi, Yj, Yk, Yl, Ym, Yn, Yo, Yp, Yq, Yr, Ys, Yt, Yu, Yv, Yw, Yx, Yy, Yz, Y10, Y11, Y12, Y13, Y14, Y15, Y16, Y17, Y18, Y19, Y1a, Y1b, Y1c, Y1d, Y1e, Y1f, Y1g, Y1h, Y1i, Y1j, Y1k, Y1l, AV.cells?, Y1n, Y1o, Y1p, Y1q, Y1r, Y1s, Y1t, Nat.reduceAdd, Nat.reduceMul, Y1w, Y1x, Y1y, Y1z, Y20, Y21, Y22, Y23, Y24, Y25, Y26, Y27, Y28, Y29, Y2a, Y2b]
      refine ⟨⟨[Z 2, Z i], rfl, ?_⟩⟩
      rw [storeN_L (n := 2) (xs := [Z 2, Z i]) rfl rfl]
      simp only [Y0, Y1, Y2, Y3, Y4, Y5, Y6, Y7, Y8, Y9, Ya, Yb, Yc, Yd, Ye, Yf, Yg, Yh, Yi, Yj, Yk, Yl, Ym, Yn, Yo, Yp, Yq, Yr, Ys, Yt, Yu, Yv, Yw, Yx, Yy, Yz, Y10, Y11, Y12, Y13, Y14, Y15, Y16, Y17, Y18, Y19, Y1a, Y1b, Y1c, Y1d, Y1e, Y1f, Y1g, Y1h, Y1i, Y1j, Y1k, Y1l, AV.cells?, Y1n, Y1o, Y1p, Y1q, Y1r, Y1s, Y1t, Nat.reduceAdd, Nat.reduceMul, Y1w, Y1x, Y1y, Y1z, Y20, Y21, Y22, Y23, Y24, Y25, Y26, Y27, Y28, Y29, Y2a, Y2b, put_two, ret_one]
      have h7 : (row t.next i).any (fun y => decide (y < 0) || decide (y ≥ t.next.length)) = true := by
        rw [hre, List.any_eq_true]; exact ⟨y, by simp, by simpa using h8⟩
      refine atE 2 _ ?_
      simp only [row] at c5 c6 h7
      simp only [checkAt]
      rw [if_neg (by omega), if_pos h7]
    · rw [show (decide ((0 : Int) ≤ y) && decide (y ≤ (t.next.length : Int) - 1)) = true by simp; omega]
      simp only [Y0, Y1, Y2, Y3, Y4, Y5, Y6, Y7, Y8, Y9, Ya, Yb, Yc, Yd, Ye, Yf, Yg, Yh, Yi, Yj, Yk, Yl, Ym, Yn, Yo, Yp, Yq, Yr, Ys, Yt, Yu, Yv, Yw, Yx, Yy, Yz, Y10, Y11, Y12, Y13, Y14, Y15, Y16, Y17, Y18, Y19, Y1a, Y1b, Y1c, Y1d, Y1e, Y1f, Y1g, Y1h, Y1i, Y1j, Y1k, Y1l, AV.cells?, Y1n, Y1o, Y1p, Y1q, Y1r, Y1s, Y1t, Nat.reduceAdd, Nat.reduceMul, Y1w, Y1x, Y1y, Y1z, Y20, Y21, Y22, Y23, Y24, Y25, Y26, Y27, Y28, Y29, Y2a, Y2b]
      have hw2 : pre.length < 100 := by rw [hre] at c5; simp at c5; omega
      rw [binA_succ (by omega)]
      simp only [Y0, Y1, Y2, Y3, Y4, Y5, Y6, Y7, Y8, Y9, Ya, Yb, Yc, Yd, Ye, Yf, Yg, Yh, Yi, Yj, Yk, Yl, Ym, Yn, Yo, Yp, Yq, Yr, Ys, Yt, Yu, Yv, Yw, Yx, Yy, Yz, Y10, Y11, Y12, Y13, Y14, Y15, Y16, Y17, Y18, Y19, Y1a, Y1b, Y1c, Y1d, Y1e, Y1f, Y1g, Y1h, Y1i, Y1j, Y1k, Y1l, AV.cells?, Y1n, Y1o, Y1p, Y1q, Y1r, Y1s, Y1t, Nat.reduceAdd, Nat.reduceMul, Y1w, Y1x, Y1y, Y1z, Y20, Y21, Y22, Y23, Y24, Y25, Y26, Y27, Y28, Y29, Y2a, Y2b]
      refine back1.mk rest.length (by simp) ⟨pre ++ [y], rest, _, by simp, by simp, rfl, rfl, fun z hz => ?_⟩
      rcases List.mem_append.1 hz with hz | hz
      · exact hok z hz
      · simp at hz; subst hz; simp; omega
end
end Go.Sc
namespace Go.Sc
open Go
set_option linter.unusedSimpArgs false
set_option linter.unusedVariables false
set_option linter.unnecessarySimpa false

structure ExprBodies (E : Env) (P : Program) : Prop where
  p : ParseBodies E P
  r : RefReadBodies E P
  w : WriteBodies E P
  t : RefTextBodies E P
structure ParsesBodies (E : Env) (P : Program) : Prop where
  e : ExprBodies E P
  p : PlaceBodies E P
  at_ : Body2 E P 77 F.law_at
section
variable {E : Env} {P : Program}
theorem Ex.enc_nil (x : Ex) : eqA .iface x.enc nilE = some false := by cases x <;> rfl
set_option maxHeartbeats 1000000 in
theorem ExprParses_body (B : ParsesBodies E P) (s : Str) (n : Nat) : F.law_ExprParses E P (S s) ⟨[], n⟩ (fun r _ => r = Bo true) := by
  unfold F.law_ExprParses
  simp only [Y0, Y1, Y2, Y3, Y4, Y5, Y6, Y7, Y8, Y9, Ya, Yb, Yc, Yd, Ye, Yf, Yg, Yh, Yi, Yj, Yk, Yl, Ym, Yn, Yo, Yp, Yq, Yr, Ys, Yt, Yu, Yv, Yw, Yx, Yy, Yz, Y10, Y11, Y12, Y13, Y14, Y15, Y16, Y17, Y18, Y19, Y1a, Y1b, Y1c, Y1d, Y1e, Y1f, Y1g, Y1h, Y1i, Y1j, Y1k, Y1l, AV.cells?, Y1n, Y1o, Y1p, Y1q, Y1r, Y1s, Y1t, Nat.reduceAdd, Nat.reduceMul, Y1w, Y1x, Y1y, Y1z, Y20, Y21, Y22, Y23, Y24, Y25, Y26, Y27, Y28, Y29, Y2a, Y2b]
  by_cases h1 : 2100 < s.length
  · simp only [Y0, Y1, Y2, Y3, Y4, Y5, Y6, Y7, Y8, Y9, Ya, Yb, Yc, Yd, Ye, Yf, Yg, Yh, Yi, Yj, Yk, Yl, Ym, Yn, Yo, Yp, Yq, Yr, Ys, Yt, Yu, Yv, Yw, Yx, Yy, Yz, Y10, Y11, Y12, Y13, Y14, Y15, Y16, Y17, Y18, Y19, Y1a, Y1b, Y1c, Y1d, Y1e, Y1f, Y1g, Y1h, Y1i, Y1j, Y1k, Y1l, AV.cells?, Y1n, Y1o, Y1p, Y1q, Y1r, Y1s, Y1t, Nat.reduceAdd, Nat.reduceMul, Y1w, Y1x, Y1y, Y1z, Y20, Y21, Y22, Y23, Y24, Y25, Y26, Y27, Y28, Y29, Y2a, Y2b, decide_eq_true (show (2100 : Int) < (s.length : Int) by omega)]
  simp only [Y0, Y1, Y2, Y3, Y4, Y5, Y6, Y7, Y8, Y9, Ya, Yb, Yc, Yd, Ye, Yf, Yg, Yh, Yi, Yj, Yk, Yl, Ym, Yn, Yo, Yp, Yq, Yr, Ys, Yt, Yu, Yv, Yw, Yx, Yy, Yz, Y10, Y11, Y12, Y13, Y14, Y15, Y16, Y17, Y18, Y19, Y1a, Y1b, Y1c, Y1d, Y1e, Y1f, Y1g, Y1h, Y1i, Y1j, Y1k, Y1l, AV.cells?, Y1n, Y1o, Y1p, Y1q, Y1r, Y1s, Y1t, Nat.reduceAdd, Nat.reduceMul, Y1w, Y1x, Y1y, Y1z, Y20, Y21, Y22, Y23, Y24, Y25, Y26, Y27, Y28, Y29, Y2a, Y2b, decide_eq_false (show ¬ (2100 : Int) < (s.length : Int) by omega)]
  refine wCall.fx (ExprParse_spec B.e.r s) fun n => ?_
  have hpar := Parse_spec B.e.p s
  unfold parseA at hpar
  unfold refParseA
  by_cases h2 : 2000 < s.length
  · rw [if_pos h2] at hpar
    rw [if_pos h2]
    simp only [Y0, Y1, Y2, Y3, Y4, Y5, Y6, Y7, Y8, Y9, Ya, Yb, Yc, Yd, Ye, Yf, Yg, Yh, Yi, Yj, Yk, Yl, Ym, Yn, Yo, Yp, Yq, Yr, Ys, Yt, Yu, Yv, Yw, Yx, Yy, Yz, Y10, Y11, Y12, Y13, Y14, Y15, Y16, Y17, Y18, Y19, Y1a, Y1b, Y1c, Y1d, Y1e, Y1f, Y1g, Y1h, Y1i, Y1j, Y1k, Y1l, AV.cells?, Y1n, Y1o, Y1p, Y1q, Y1r, Y1s, Y1t, Nat.reduceAdd, Nat.reduceMul, Y1w, Y1x, Y1y, Y1z, Y20, Y21, Y22, Y23, Y24, Y25, Y26, Y27, Y28, Y29, Y2a, Y2b]
    refine wNew.L (l := [Z 0, Z 0]) rfl ?_
    simp only [Y0, Y1, Y2, Y3, Y4, Y5, Y6, Y7, Y8, Y9, Ya, Yb, Yc, Yd, Ye, Yf, Yg, Yh, Yi, Yj, Yk, Yl, Ym, Yn, Yo, Yp, Yq, Yr, Ys, Yt, Yu, Yv, Yw, Yx, Yy, Yz, Y10, Y11, Y12, Y13, Y14, Y15, Y16, Y17, Y18, Y19, Y1a, Y1b, Y1c, Y1d, Y1e, Y1f, Y1g, Y1h, Y1i, Y1j, Y1k, Y1l, AV.cells?, Y1n, Y1o, Y1p, Y1q, Y1r, Y1s, Y1t, Nat.reduceAdd, Nat.reduceMul, Y1w, Y1x, Y1y, Y1z, Y20, Y21, Y22, Y23, Y24, Y25, Y26, Y27, Y28, Y29, Y2a, Y2b]
    rw [storeN_L (n := 2) (xs := [Z 4, Z (-1)]) rfl rfl]
    simp only [Y0, Y1, Y2, Y3, Y4, Y5, Y6, Y7, Y8, Y9, Ya, Yb, Yc, Yd, Ye, Yf, Yg, Yh, Yi, Yj, Yk, Yl, Ym, Yn, Yo, Yp, Yq, Yr, Ys, Yt, Yu, Yv, Yw, Yx, Yy, Yz, Y10, Y11, Y12, Y13, Y14, Y15, Y16, Y17, Y18, Y19, Y1a, Y1b, Y1c, Y1d, Y1e, Y1f, Y1g, Y1h, Y1i, Y1j, Y1k, Y1l, AV.cells?, Y1n, Y1o, Y1p, Y1q, Y1r, Y1s, Y1t, Nat.reduceAdd, Nat.reduceMul, Y1w, Y1x, Y1y, Y1z, Y20, Y21, Y22, Y23, Y24, Y25, Y26, Y27, Y28, Y29, Y2a, Y2b, put_two]
    refine wCall.fx hpar fun n => ?_
    simp only [Y0, Y1, Y2, Y3, Y4, Y5, Y6, Y7, Y8, Y9, Ya, Yb, Yc, Yd, Ye, Yf, Yg, Yh, Yi, Yj, Yk, Yl, Ym, Yn, Yo, Yp, Yq, Yr, Ys, Yt, Yu, Yv, Yw, Yx, Yy, Yz, Y10, Y11, Y12, Y13, Y14, Y15, Y16, Y17, Y18, Y19, Y1a, Y1b, Y1c, Y1d, Y1e, Y1f, Y1g, Y1h, Y1i, Y1j, Y1k, Y1l, AV.cells?, Y1n, Y1o, Y1p, Y1q, Y1r, Y1s, Y1t, Nat.reduceAdd, Nat.reduceMul, Y1w, Y1x, Y1y, Y1z, Y20, Y21, Y22, Y23, Y24, Y25, Y26, Y27, Y28, Y29, Y2a, Y2b, show decide ((4 : Int) = 0) = false from rfl]
    refine wCall.fx (at_spec B.p B.at_ 4 4 (-1)) fun n => ?_
    simp only [Y0, Y1, Y2, Y3, Y4, Y5, Y6, Y7, Y8, Y9, Ya, Yb, Yc, Yd, Ye, Yf, Yg, Yh, Yi, Yj, Yk, Yl, Ym, Yn, Yo, Yp, Yq, Yr, Ys, Yt, Yu, Yv, Yw, Yx, Yy, Yz, Y10, Y11, Y12, Y13, Y14, Y15, Y16, Y17, Y18, Y19, Y1a, Y1b, Y1c, Y1d, Y1e, Y1f, Y1g, Y1h, Y1i, Y1j, Y1k, Y1l, AV.cells?, Y1n, Y1o, Y1p, Y1q, Y1r, Y1s, Y1t, Nat.reduceAdd, Nat.reduceMul, Y1w, Y1x, Y1y, Y1z, Y20, Y21, Y22, Y23, Y24, Y25, Y26, Y27, Y28, Y29, Y2a, Y2b, show (decide ((4 : Int) = 4) && decide ((-1 : Int) = -1)) = true from rfl, Bool.and_self, beq_self_eq_true]
  rw [if_neg h2] at hpar
  rw [if_neg h2]
  cases hp : parseR s with
  | no e p =>
    have he := parseR_err hp
    rw [hp] at hpar
    simp only [Y0, Y1, Y2, Y3, Y4, Y5, Y6, Y7, Y8, Y9, Ya, Yb, Yc, Yd, Ye, Yf, Yg, Yh, Yi, Yj, Yk, Yl, Ym, Yn, Yo, Yp, Yq, Yr, Ys, Yt, Yu, Yv, Yw, Yx, Yy, Yz, Y10, Y11, Y12, Y13, Y14, Y15, Y16, Y17, Y18, Y19, Y1a, Y1b, Y1c, Y1d, Y1e, Y1f, Y1g, Y1h, Y1i, Y1j, Y1k, Y1l, AV.cells?, Y1n, Y1o, Y1p, Y1q, Y1r, Y1s, Y1t, Nat.reduceAdd, Nat.reduceMul, Y1w, Y1x, Y1y, Y1z, Y20, Y21, Y22, Y23, Y24, Y25, Y26, Y27, Y28, Y29, Y2a, Y2b]
    refine wNew.L (l := [Z 0, Z 0]) rfl ?_
    simp only [Y0, Y1, Y2, Y3, Y4, Y5, Y6, Y7, Y8, Y9, Ya, Yb, Yc, Yd, Ye, Yf, Yg, Yh, Yi, Yj, Yk, Yl, Ym, Yn, Yo, Yp, Yq, Yr, Ys, Yt, Yu, Yv, Yw, Yx, Yy, Yz, Y10, Y11, Y12, Y13, Y14, Y15, Y16, Y17, Y18, Y19, Y1a, Y1b, Y1c, Y1d, Y1e, Y1f, Y1g, Y1h, Y1i, Y1j, Y1k, Y1l, AV.cells?, Y1n, Y1o, Y1p, Y1q, Y1r, Y1s, Y1t, Nat.reduceAdd, Nat.reduceMul, Y1w, Y1x, Y1y, Y1z, Y20, Y21, Y22, Y23, Y24, Y25, Y26, Y27, Y28, Y29, Y2a, Y2b]
    rw [storeN_L (n := 2) (xs := [Z e, Z p]) rfl rfl]
    simp only [Y0, Y1, Y2, Y3, Y4, Y5, Y6, Y7, Y8, Y9, Ya, Yb, Yc, Yd, Ye, Yf, Yg, Yh, Yi, Yj, Yk, Yl, Ym, Yn, Yo, Yp, Yq, Yr, Ys, Yt, Yu, Yv, Yw, Yx, Yy, Yz, Y10, Y11, Y12, Y13, Y14, Y15, Y16, Y17, Y18, Y19, Y1a, Y1b, Y1c, Y1d, Y1e, Y1f, Y1g, Y1h, Y1i, Y1j, Y1k, Y1l, AV.cells?, Y1n, Y1o, Y1p, Y1q, Y1r, Y1s, Y1t, Nat.reduceAdd, Nat.reduceMul, Y1w, Y1x, Y1y, Y1z, Y20, Y21, Y22, Y23, Y24, Y25, Y26, Y27, Y28, Y29, Y2a, Y2b, put_two]
    refine wCall.fx hpar fun n => ?_
    simp only [Y0, Y1, Y2, Y3, Y4, Y5, Y6, Y7, Y8, Y9, Ya, Yb, Yc, Yd, Ye, Yf, Yg, Yh, Yi, Yj, Yk, Yl, Ym, Yn, Yo, Yp, Yq, Yr, Ys, Yt, Yu, Yv, Yw, Yx, Yy, Yz, Y10, Y11, Y12, Y13, Y14, Y15, Y16, Y17, Y18, Y19, Y1a, Y1b, Y1c, Y1d, Y1e, Y1f, Y1g, Y1h, Y1i, Y1j, Y1k, Y1l, AV.cells?, Y1n, Y1o, Y1p, Y1q, Y1r, Y1s, Y1t, Nat.reduceAdd, Nat.reduceMul, Y1w, Y1x, Y1y, Y1z, Y20, Y21, Y22, Y23, Y24, Y25, Y26, Y27, Y28, Y29, Y2a, Y2b, decide_eq_false (show ¬ (e : Int) = 0 by omega)]
    refine wCall.fx (atAt_spec B.p B.at_ e p e p) fun n => ?_
    simp only [Y0, Y1, Y2, Y3, Y4, Y5, Y6, Y7, Y8, Y9, Ya, Yb, Yc, Yd, Ye, Yf, Yg, Yh, Yi, Yj, Yk, Yl, Ym, Yn, Yo, Yp, Yq, Yr, Ys, Yt, Yu, Yv, Yw, Yx, Yy, Yz, Y10, Y11, Y12, Y13, Y14, Y15, Y16, Y17, Y18, Y19, Y1a, Y1b, Y1c, Y1d, Y1e, Y1f, Y1g, Y1h, Y1i, Y1j, Y1k, Y1l, AV.cells?, Y1n, Y1o, Y1p, Y1q, Y1r, Y1s, Y1t, Nat.reduceAdd, Nat.reduceMul, Y1w, Y1x, Y1y, Y1z, Y20, Y21, Y22, Y23, Y24, Y25, Y26, Y27, Y28, Y29, Y2a, Y2b, show (decide ((e : Int) = e) && decide ((p : Int) = p)) = true from by simp, Bool.and_self, beq_self_eq_true]
  | ok x j =>
    obtain ⟨hw, hf⟩ := parseR_good hp
    rw [hp] at hpar
    simp only [Y0, Y1, Y2, Y3, Y4, Y5, Y6, Y7, Y8, Y9, Ya, Yb, Yc, Yd, Ye, Yf, Yg, Yh, Yi, Yj, Yk, Yl, Ym, Yn, Yo, Yp, Yq, Yr, Ys, Yt, Yu, Yv, Yw, Yx, Yy, Yz, Y10, Y11, Y12, Y13, Y14, Y15, Y16, Y17, Y18, Y19, Y1a, Y1b, Y1c, Y1d, Y1e, Y1f, Y1g, Y1h, Y1i, Y1j, Y1k, Y1l, AV.cells?, Y1n, Y1o, Y1p, Y1q, Y1r, Y1s, Y1t, Nat.reduceAdd, Nat.reduceMul, Y1w, Y1x, Y1y, Y1z, Y20, Y21, Y22, Y23, Y24, Y25, Y26, Y27, Y28, Y29, Y2a, Y2b]
    refine wNew.L (l := [Z 0, Z 0]) rfl ?_
    simp only [Y0, Y1, Y2, Y3, Y4, Y5, Y6, Y7, Y8, Y9, Ya, Yb, Yc, Yd, Ye, Yf, Yg, Yh, Yi, Yj, Yk, Yl, Ym, Yn, Yo, Yp, Yq, Yr, Ys, Yt, Yu, Yv, Yw, Yx, Yy, Yz, Y10, Y11, Y12, Y13, Y14, Y15, Y16, Y17, Y18, Y19, Y1a, Y1b, Y1c, Y1d, Y1e, Y1f, Y1g, Y1h, Y1i, Y1j, Y1k, Y1l, AV.cells?, Y1n, Y1o, Y1p, Y1q, Y1r, Y1s, Y1t, Nat.reduceAdd, Nat.reduceMul, Y1w, Y1x, Y1y, Y1z, Y20, Y21, Y22, Y23, Y24, Y25, Y26, Y27, Y28, Y29, Y2a, Y2b]
    rw [storeN_L (n := 2) (xs := [Z 0, Z (-1)]) rfl rfl]
    simp only [Y0, Y1, Y2, Y3, Y4, Y5, Y6, Y7, Y8, Y9, Ya, Yb, Yc, Yd, Ye, Yf, Yg, Yh, Yi, Yj, Yk, Yl, Ym, Yn, Yo, Yp, Yq, Yr, Ys, Yt, Yu, Yv, Yw, Yx, Yy, Yz, Y10, Y11, Y12, Y13, Y14, Y15, Y16, Y17, Y18, Y19, Y1a, Y1b, Y1c, Y1d, Y1e, Y1f, Y1g, Y1h, Y1i, Y1j, Y1k, Y1l, AV.cells?, Y1n, Y1o, Y1p, Y1q, Y1r, Y1s, Y1t, Nat.reduceAdd, Nat.reduceMul, Y1w, Y1x, Y1y, Y1z, Y20, Y21, Y22, Y23, Y24, Y25, Y26, Y27, Y28, Y29, Y2a, Y2b, put_two]
    refine wCall.fx hpar fun n => ?_
    simp only [Y0, Y1, Y2, Y3, Y4, Y5, Y6, Y7, Y8, Y9, Ya, Yb, Yc, Yd, Ye, Yf, Yg, Yh, Yi, Yj, Yk, Yl, Ym, Yn, Yo, Yp, Yq, Yr, Ys, Yt, Yu, Yv, Yw, Yx, Yy, Yz, Y10, Y11, Y12, Y13, Y14, Y15, Y16, Y17, Y18, Y19, Y1a, Y1b, Y1c, Y1d, Y1e, Y1f, Y1g, Y1h, Y1i, Y1j, Y1k, Y1l, AV.cells?, Y1n, Y1o, Y1p, Y1q, Y1r, Y1s, Y1t, Nat.reduceAdd, Nat.reduceMul, Y1w, Y1x, Y1y, Y1z, Y20, Y21, Y22, Y23, Y24, Y25, Y26, Y27, Y28, Y29, Y2a, Y2b, show decide ((0 : Int) = 0) = true from rfl, Ex.enc_nil]
    refine wCall.fx (Text_spec B.e.w x (by omega) hf) fun n => ?_
    simp only [Y0, Y1, Y2, Y3, Y4, Y5, Y6, Y7, Y8, Y9, Ya, Yb, Yc, Yd, Ye, Yf, Yg, Yh, Yi, Yj, Yk, Yl, Ym, Yn, Yo, Yp, Yq, Yr, Ys, Yt, Yu, Yv, Yw, Yx, Yy, Yz, Y10, Y11, Y12, Y13, Y14, Y15, Y16, Y17, Y18, Y19, Y1a, Y1b, Y1c, Y1d, Y1e, Y1f, Y1g, Y1h, Y1i, Y1j, Y1k, Y1l, AV.cells?, Y1n, Y1o, Y1p, Y1q, Y1r, Y1s, Y1t, Nat.reduceAdd, Nat.reduceMul, Y1w, Y1x, Y1y, Y1z, Y20, Y21, Y22, Y23, Y24, Y25, Y26, Y27, Y28, Y29, Y2a, Y2b]
    refine wCall.fx (refText_spec B.e.t _ x (Nat.lt_succ_self _) (by omega) hf) fun n => ?_
    simp only [Y0, Y1, Y2, Y3, Y4, Y5, Y6, Y7, Y8, Y9, Ya, Yb, Yc, Yd, Ye, Yf, Yg, Yh, Yi, Yj, Yk, Yl, Ym, Yn, Yo, Yp, Yq, Yr, Ys, Yt, Yu, Yv, Yw, Yx, Yy, Yz, Y10, Y11, Y12, Y13, Y14, Y15, Y16, Y17, Y18, Y19, Y1a, Y1b, Y1c, Y1d, Y1e, Y1f, Y1g, Y1h, Y1i, Y1j, Y1k, Y1l, AV.cells?, Y1n, Y1o, Y1p, Y1q, Y1r, Y1s, Y1t, Nat.reduceAdd, Nat.reduceMul, Y1w, Y1x, Y1y, Y1z, Y20, Y21, Y22, Y23, Y24, Y25, Y26, Y27, Y28, Y29, Y2a, Y2b, decide_eq_true (show Ex.wr 0 x = Ex.wr 0 x from rfl)]
end
end Go.Sc
namespace Go.Proofs.YtcfndjhmdfjhhaaDoor
open Go.RowKit Go.Extern.Stop Go.Stop Go.Extern

theorem Tryd.valueOfT (t : Addr) (w : World) : (ReflectliteValue.unpack (.iface 79 (.pointer (some t)))).run Tryd.prog w
    = .ok (.agg #[.pointer (some ⟨5, 79, none⟩), .pointer (some ⟨w.heap.size, 0, none⟩), .int .u64 150]) (w.alloc (.cells #[.pointer (some t)] 79)) := by kernel_rfl
theorem Tryd.typeT (a : Addr) (w : World) : (ReflectliteValue.methodAny (ReflectliteValue.valueError "reflectlite.Value.Type" 0) (fun t _ _ _ => ReflectliteType.toType t) #[.agg #[.pointer (some ⟨5, 79, none⟩), .pointer (some a), .int .u64 150]]).run Tryd.prog w
    = .ok (.iface 108 (.agg #[.pointer (some ⟨5, 79, none⟩)])) w := by kernel_rfl
theorem Tryd.methodKind (h : Value) (w : World) : (Go.method 269 108 (.agg #[h]) "Kind").run Tryd.prog w = .ok (83, h) w := by kernel_rfl
theorem Tryd.kindT (w : World) : ((ReflectliteType.abiMethod fun t => (fun a : Nat => Value.int IntKind.u8 (a : Int)) <$> Rtype.kind t) #[.pointer (some ⟨5, 79, none⟩)]).run Tryd.prog w = .ok (.int .u8 22) w := by kernel_rfl
theorem Tryd.kindX (w : World) : ((ReflectliteType.abiMethod fun t => (fun a : Nat => Value.int IntKind.u8 (a : Int)) <$> Rtype.kind t) #[.pointer (some ⟨5, 23, none⟩)]).run Tryd.prog w = .ok (.int .u8 2) w := by kernel_rfl
theorem rlm (z : Sem Value) (f : TypeId → Addr → Nat → Nat → Sem Value) (v : Value) :
    ReflectliteValue.method z f #[v] = (do match ← ReflectliteValue.parts v with | none => z | some (t, a, fl) => f t a fl (fl % 32)) := rfl
theorem Tryd.partsT (a : Addr) (w : World) : (ReflectliteValue.parts (.agg #[.pointer (some ⟨5, 79, none⟩), .pointer (some a), .int .u64 150])).run Tryd.prog w = .ok (some (79, a, 150)) w := by kernel_rfl
theorem Tryd.isNilT (a p : Addr) (W : World) (ha : W.cell? a = some (.pointer (some p))) :
    (ReflectliteValue.method (ReflectliteValue.valueError "reflectlite.Value.IsNil" 0) ReflectliteValue.isNil #[.agg #[.pointer (some ⟨5, 79, none⟩), .pointer (some a), .int .u64 150]]).run Tryd.prog W = .ok (.bool false) W := by
  rw [rlm]
  simp only [Sem.run_bind, Tryd.partsT, Result.andThen]
  simp [ReflectliteValue.isNil, loadVar, isAgg, underlying, Tryd.underlying79, ha, Result.andThen]
theorem Tryd.methodElem (h : Value) (w : World) : (Go.method 269 108 (.agg #[h]) "Elem").run Tryd.prog w = .ok (106, .agg #[h]) w := by kernel_rfl
theorem Tryd.methodImplements (h : Value) (w : World) : (Go.method 269 108 (.agg #[h]) "Implements").run Tryd.prog w = .ok (107, .agg #[h]) w := by kernel_rfl
theorem Tryd.methodAssignableTo (h : Value) (w : World) : (Go.method 269 108 (.agg #[h]) "AssignableTo").run Tryd.prog w = .ok (104, .agg #[h]) w := by kernel_rfl
theorem Tryd.elemT (w : World) : (ReflectliteType.method ReflectliteType.elem #[.agg #[.pointer (some ⟨5, 79, none⟩)]]).run Tryd.prog w = .ok (.iface 108 (.agg #[.pointer (some ⟨5, 23, none⟩)])) w := by kernel_rfl
theorem Tryd.implementsX (w : World) : (ReflectliteType.relation "Implements" ReflectliteType.implements_ #[.agg #[.pointer (some ⟨5, 23, none⟩)], .iface 108 (.agg #[.pointer (some ⟨5, 31, none⟩)])]).run Tryd.prog w = .ok (.bool true) w := by kernel_rfl
theorem Tryd.typeOfX (v : Value) (w : World) : (ReflectliteType.typeOf #[.iface 23 v]).run Tryd.prog w = .ok (.iface 108 (.agg #[.pointer (some ⟨5, 23, none⟩)])) w := by kernel_rfl
theorem Tryd.assignableX (w : World) : (ReflectliteType.relation "AssignableTo" ReflectliteType.assignableTo #[.agg #[.pointer (some ⟨5, 23, none⟩)], .iface 108 (.agg #[.pointer (some ⟨5, 23, none⟩)])]).run Tryd.prog w = .ok (.bool true) w := by kernel_rfl
theorem Tryd.typeOfAt (v : Value) (w : World) : (ReflectliteType.typeOf #[.iface 62 v]).run Tryd.prog w = .ok (.iface 108 (.agg #[.pointer (some ⟨5, 62, none⟩)])) w := by kernel_rfl
theorem Tryd.assignableAt (w : World) : (ReflectliteType.relation "AssignableTo" ReflectliteType.assignableTo #[.agg #[.pointer (some ⟨5, 62, none⟩)], .iface 108 (.agg #[.pointer (some ⟨5, 23, none⟩)])]).run Tryd.prog w = .ok (.bool false) w := by kernel_rfl
theorem Tryd.valueOfX (k : Int) (w : World) : (ReflectliteValue.unpack (.iface 23 (.int .i64 k))).run Tryd.prog w
    = .ok (.agg #[.pointer (some ⟨5, 23, none⟩), .pointer (some ⟨w.heap.size, 0, none⟩), .int .u64 130]) (w.alloc (.cells #[.int .i64 k] 23)) := by kernel_rfl
theorem Tryd.elemOfT (w : World) : (Rtype.elem? 79).run Tryd.prog w = .ok (some 23) w := by kernel_rfl
theorem Tryd.mkX (p : Addr) (w : World) : (ReflectliteValue.mk 23 p ReflectliteValue.flagAddr).run Tryd.prog w = .ok (.agg #[.pointer (some ⟨5, 23, none⟩), .pointer (some p), .int .u64 386]) w := by kernel_rfl
theorem Tryd.elemVT (a p : Addr) (W : World) (ha : W.cell? a = some (.pointer (some p))) :
    (ReflectliteValue.method (ReflectliteValue.valueError "reflectlite.Value.Elem" 0) ReflectliteValue.elem #[.agg #[.pointer (some ⟨5, 79, none⟩), .pointer (some a), .int .u64 150]]).run Tryd.prog W
      = .ok (.agg #[.pointer (some ⟨5, 23, none⟩), .pointer (some p), .int .u64 386]) W := by
  rw [rlm]
  simp only [Sem.run_bind, Tryd.partsT, Result.andThen]
  simp [ReflectliteValue.elem, loadVar, isAgg, underlying, Tryd.underlying79, ha, Result.andThen, Tryd.elemOfT, Tryd.mkX]
theorem rls (v x : Value) : ReflectliteValue.set #[v, x] = (do
    let (some (dst, a, fl), some (src, b, _)) := (← ReflectliteValue.parts v, ← ReflectliteValue.parts x)
      | unsupported (.noEntry "extern/(internal/reflectlite.Value).Set.zeroValue")
    if fl / ReflectliteValue.flagAddr % 2 == 0 then unsupported (.noEntry "extern/(internal/reflectlite.Value).Set.unaddressable")
    let val ← loadVar src b
    if ← Rtype.directlyAssignable dst src then storeVar dst a val
    else if ← Rtype.implements dst src then
      if (← Rtype.kind src) == 20 then
        match val with
        | .nilIface => unsupported (.noEntry "extern/reflectlite: a nil value of one interface type handed on as a value of another")
        | _ => storeVar dst a val
      else storeVar dst a (.iface src val)
    else panicString ("reflectlite.Set: value of type " ++ (← Rtype.spelt src) ++ " is not assignable to type " ++ (← Rtype.spelt dst))
    pure (.tuple #[])) := rfl
theorem Tryd.partsXa (a : Addr) (w : World) : (ReflectliteValue.parts (.agg #[.pointer (some ⟨5, 23, none⟩), .pointer (some a), .int .u64 386])).run Tryd.prog w = .ok (some (23, a, 386)) w := by kernel_rfl
theorem Tryd.partsX (a : Addr) (w : World) : (ReflectliteValue.parts (.agg #[.pointer (some ⟨5, 23, none⟩), .pointer (some a), .int .u64 130])).run Tryd.prog w = .ok (some (23, a, 130)) w := by kernel_rfl
theorem Tryd.directX (w : World) : (Rtype.directlyAssignable 23 23).run Tryd.prog w = .ok true w := by kernel_rfl
theorem Tryd.setX (ta b : Addr) (k : Int) (old : Value) (W : World) (hb : W.cell? b = some (.int .i64 k)) (ht : W.cell? ta = some old) (hf : W.frozen? ta = false) :
    (ReflectliteValue.set #[.agg #[.pointer (some ⟨5, 23, none⟩), .pointer (some ta), .int .u64 386], .agg #[.pointer (some ⟨5, 23, none⟩), .pointer (some b), .int .u64 130]]).run Tryd.prog W
      = .ok (.tuple #[]) (W.setCell ta (.int .i64 k)) := by
  rw [rls]
  simp only [Sem.run_bind, Tryd.partsXa, Tryd.partsX, Result.andThen]
  simp [ReflectliteValue.flagAddr, loadVar, isAgg, underlying, Tryd.underlying23, hb, Result.andThen, Tryd.directX, storeVar, Value.cells, storeCells, Addr.add]
  rw [run_store Tryd.prog W ta _ _ (by rfl)]
  simp [ht, hf]

set_option maxHeartbeats 4000000 in
theorem as_hit (k : Int) (t : Addr) (old : Value) (w : World) (hg : w.cell? ⟨1, 0, none⟩ = some (.iface 108 (.agg #[.pointer (some ⟨5, 31, none⟩)]))) (ht0 : w.cell? t = some old) (hf0 : w.frozen? t = false) :
    Calls Tryd.prog 31 #[.iface 23 (.int .i64 k), .iface 79 (.pointer (some t))] w fun ev w' => ev = .returned (.bool true) ∧ w' = ((((w.alloc (.cells #[.pointer (some t)] 79)).alloc (.cells #[.pointer (some ⟨5, 79, none⟩), .pointer (some ⟨w.heap.size, 0, none⟩), .int .u64 150] 93)).alloc (.cells #[.pointer (some ⟨5, 79, none⟩), .pointer (some ⟨w.heap.size, 0, none⟩), .int .u64 150] 93)).alloc (.cells #[.int .i64 k] 23)).setCell t (.int .i64 k) := by
  have h6 := @run_callFunc_extern Tryd.prog 37 _ (fun args => ReflectliteValue.unpack (args.getD 0 (.tuple #[]))) Tryd.func37 (by kernel_rfl) (by kernel_rfl) (by kernel_rfl) (by kernel_rfl)
  have h7 := @run_callFunc_extern Tryd.prog 38 _ (ReflectliteValue.methodAny (ReflectliteValue.valueError "reflectlite.Value.Type" 0) (fun t _ _ _ => ReflectliteType.toType t)) Tryd.func38 (by kernel_rfl) (by kernel_rfl) (by kernel_rfl) (by kernel_rfl)
  have h8 := @run_callFunc_extern Tryd.prog 39 _ (ReflectliteValue.method (ReflectliteValue.valueError "reflectlite.Value.IsNil" 0) ReflectliteValue.isNil) Tryd.func39 (by kernel_rfl) (by kernel_rfl) (by kernel_rfl) (by kernel_rfl)
  have h27 := @run_callFunc_extern Tryd.prog 83 _ (ReflectliteType.abiMethod fun t => do pure (.int .u8 (← Rtype.kind t))) Tryd.func83 (by kernel_rfl) (by kernel_rfl) (by kernel_rfl) (by kernel_rfl)
  have h37 := @run_callFunc_extern Tryd.prog 106 _ (ReflectliteType.method ReflectliteType.elem) Tryd.func106 (by kernel_rfl) (by kernel_rfl) (by kernel_rfl) (by kernel_rfl)
  have h38 := @run_callFunc_extern Tryd.prog 107 _ (ReflectliteType.relation "Implements" ReflectliteType.implements_) Tryd.func107 (by kernel_rfl) (by kernel_rfl) (by kernel_rfl) (by kernel_rfl)
  have h10 := @run_callFunc_extern Tryd.prog 46 _ ReflectliteType.typeOf Tryd.func46 (by kernel_rfl) (by kernel_rfl) (by kernel_rfl) (by kernel_rfl)
  have h35 := @run_callFunc_extern Tryd.prog 104 _ (ReflectliteType.relation "AssignableTo" ReflectliteType.assignableTo) Tryd.func104 (by kernel_rfl) (by kernel_rfl) (by kernel_rfl) (by kernel_rfl)
  have h11 := @run_callFunc_extern Tryd.prog 47 _ (ReflectliteValue.method (ReflectliteValue.valueError "reflectlite.Value.Elem" 0) ReflectliteValue.elem) Tryd.func47 (by kernel_rfl) (by kernel_rfl) (by kernel_rfl) (by kernel_rfl)
  have h12 := @run_callFunc_extern Tryd.prog 48 _ ReflectliteValue.set Tryd.func48 (by kernel_rfl) (by kernel_rfl) (by kernel_rfl) (by kernel_rfl)
  have tO := Tryd.typeOfX
  have mA := Tryd.methodAssignableTo
  have a25 := Tryd.assignableX
  have v25 := Tryd.valueOfX
  have f6 := Tryd.valueOfT
  have f7 := Tryd.typeT
  have mK := Tryd.methodKind
  have mE := Tryd.methodElem
  have mI := Tryd.methodImplements
  have k27 := Tryd.kindT
  have k25 := Tryd.kindX
  have e27 := Tryd.elemT
  have i25 := Tryd.implementsX
  have n8 := Tryd.isNilT ⟨w.heap.size, 0, none⟩ t ((w.alloc (.cells #[.pointer (some t)] 79)).alloc (.cells #[.pointer (some ⟨5, 79, none⟩), .pointer (some ⟨w.heap.size, 0, none⟩), .int .u64 150] 93)) (by simp)
  have hlt : 1 < w.heap.size := by
    rcases Nat.lt_or_ge 1 w.heap.size with h | h
    · exact h
    · simp [World.cell?, Array.getElem?_eq_none h] at hg
  have hg2 : ((w.alloc (.cells #[.pointer (some t)] 79)).alloc (.cells #[.pointer (some ⟨5, 79, none⟩), .pointer (some ⟨w.heap.size, 0, none⟩), .int .u64 150] 93)).cell? ⟨1, 0, none⟩ = some (.iface 108 (.agg #[.pointer (some ⟨5, 31, none⟩)])) := by
    rw [World.cell?_alloc_lt _ _ ⟨1, 0, none⟩ (by first | (simp; done) | (simp; omega)), World.cell?_alloc_lt _ _ ⟨1, 0, none⟩ hlt]; exact hg
  have htl : t.block < w.heap.size := by
    rcases Nat.lt_or_ge t.block w.heap.size with h | h
    · exact h
    · simp [World.cell?, Array.getElem?_eq_none h] at ht0
  have el := Tryd.elemVT ⟨w.heap.size, 0, none⟩ t (((w.alloc (.cells #[.pointer (some t)] 79)).alloc (.cells #[.pointer (some ⟨5, 79, none⟩), .pointer (some ⟨w.heap.size, 0, none⟩), .int .u64 150] 93)).alloc (.cells #[.pointer (some ⟨5, 79, none⟩), .pointer (some ⟨w.heap.size, 0, none⟩), .int .u64 150] 93)) (by rw [World.cell?_alloc_lt _ _ ⟨w.heap.size, 0, none⟩ (by simp; omega)]; simp)
  have st := Tryd.setX t ⟨w.heap.size + 1 + 1 + 1, 0, none⟩ k old ((((w.alloc (.cells #[.pointer (some t)] 79)).alloc (.cells #[.pointer (some ⟨5, 79, none⟩), .pointer (some ⟨w.heap.size, 0, none⟩), .int .u64 150] 93)).alloc (.cells #[.pointer (some ⟨5, 79, none⟩), .pointer (some ⟨w.heap.size, 0, none⟩), .int .u64 150] 93)).alloc (.cells #[.int .i64 k] 23))
    (by rw [World.cell?_alloc_at _ _ _ _ (by simp)]; rfl)
    (by rw [World.cell?_alloc_lt _ _ t (by simp; omega), World.cell?_alloc_lt _ _ t (by simp; omega), World.cell?_alloc_lt _ _ t (by simp; omega), World.cell?_alloc_lt _ _ t htl]; exact ht0)
    (by rw [World.frozen?_alloc_old _ _ t (by simp; omega), World.frozen?_alloc_old _ _ t (by simp; omega), World.frozen?_alloc_old _ _ t (by simp; omega), World.frozen?_alloc_old _ _ t (Nat.ne_of_lt htl)]; exact hf0)
  go_enter Tryd.func31, Tryd.ntmps31
  go_wp2
  refine wp_loop_rounds 1 ?_
  rw [rounds_succ]
  go_wp2
  go_ret
  exact ⟨rfl, rfl⟩
end Go.Proofs.YtcfndjhmdfjhhaaDoor
namespace Go.Proofs.YtcfndjhmdfjhhaaDoor
open Go.RowKit Go.Extern.Stop Go.Stop Go.Extern
theorem Tryd.assertAs (p : Addr) (w : World) : (Instr.typeAssert (.iface 62 (.pointer (some p))) 31 113 true).run Tryd.prog w = .ok (.tuple #[.nilIface, .bool false]) w := run_typeAssert_lacksB Tryd.underlying113 (by kernel_rfl) (by kernel_rfl) _ _ w
theorem Tryd.assertUnwrap (p : Addr) (w : World) : (Instr.typeAssert (.iface 62 (.pointer (some p))) 31 66 true).run Tryd.prog w = .ok (.tuple #[.iface 62 (.pointer (some p)), .bool true]) w := run_typeAssert_hasB Tryd.underlying66 (by kernel_rfl) _ _ w
theorem Tryd.methodUnwrap (p : Addr) (w : World) : (Go.method 269 62 (.pointer (some p)) "Unwrap").run Tryd.prog w = .ok (92, .pointer (some p)) w := by kernel_rfl
theorem unwrap (k : Int) (p : Addr) (w : World) (hp : w.cell? p = some (.int .i64 k)) : Calls Tryd.prog 92 #[.pointer (some p)] w fun e w' => e = .returned (.iface 23 (.int .i64 k)) ∧ w' = w := by
  go_enter Tryd.func92, Tryd.ntmps92
  go_wp2
  go_ret
  exact ⟨rfl, rfl⟩

set_option maxRecDepth 100000 in
set_option maxHeartbeats 4000000 in
theorem as_at (k : Int) (p t : Addr) (old : Value) (w : World) (hg : w.cell? ⟨1, 0, none⟩ = some (.iface 108 (.agg #[.pointer (some ⟨5, 31, none⟩)]))) (ht0 : w.cell? t = some old) (hf0 : w.frozen? t = false) (hp : w.cell? p = some (.int .i64 k)) :
    Calls Tryd.prog 31 #[.iface 62 (.pointer (some p)), .iface 79 (.pointer (some t))] w fun ev w' => ev = .returned (.bool true) ∧ w' = ((((w.alloc (.cells #[.pointer (some t)] 79)).alloc (.cells #[.pointer (some ⟨5, 79, none⟩), .pointer (some ⟨w.heap.size, 0, none⟩), .int .u64 150] 93)).alloc (.cells #[.pointer (some ⟨5, 79, none⟩), .pointer (some ⟨w.heap.size, 0, none⟩), .int .u64 150] 93)).alloc (.cells #[.int .i64 k] 23)).setCell t (.int .i64 k) := by
  have h6 := @run_callFunc_extern Tryd.prog 37 _ (fun args => ReflectliteValue.unpack (args.getD 0 (.tuple #[]))) Tryd.func37 (by kernel_rfl) (by kernel_rfl) (by kernel_rfl) (by kernel_rfl)
  have h7 := @run_callFunc_extern Tryd.prog 38 _ (ReflectliteValue.methodAny (ReflectliteValue.valueError "reflectlite.Value.Type" 0) (fun t _ _ _ => ReflectliteType.toType t)) Tryd.func38 (by kernel_rfl) (by kernel_rfl) (by kernel_rfl) (by kernel_rfl)
  have h8 := @run_callFunc_extern Tryd.prog 39 _ (ReflectliteValue.method (ReflectliteValue.valueError "reflectlite.Value.IsNil" 0) ReflectliteValue.isNil) Tryd.func39 (by kernel_rfl) (by kernel_rfl) (by kernel_rfl) (by kernel_rfl)
  have h27 := @run_callFunc_extern Tryd.prog 83 _ (ReflectliteType.abiMethod fun t => do pure (.int .u8 (← Rtype.kind t))) Tryd.func83 (by kernel_rfl) (by kernel_rfl) (by kernel_rfl) (by kernel_rfl)
  have h37 := @run_callFunc_extern Tryd.prog 106 _ (ReflectliteType.method ReflectliteType.elem) Tryd.func106 (by kernel_rfl) (by kernel_rfl) (by kernel_rfl) (by kernel_rfl)
  have h38 := @run_callFunc_extern Tryd.prog 107 _ (ReflectliteType.relation "Implements" ReflectliteType.implements_) Tryd.func107 (by kernel_rfl) (by kernel_rfl) (by kernel_rfl) (by kernel_rfl)
  have h10 := @run_callFunc_extern Tryd.prog 46 _ ReflectliteType.typeOf Tryd.func46 (by kernel_rfl) (by kernel_rfl) (by kernel_rfl) (by kernel_rfl)
  have h35 := @run_callFunc_extern Tryd.prog 104 _ (ReflectliteType.relation "AssignableTo" ReflectliteType.assignableTo) Tryd.func104 (by kernel_rfl) (by kernel_rfl) (by kernel_rfl) (by kernel_rfl)
  have h11 := @run_callFunc_extern Tryd.prog 47 _ (ReflectliteValue.method (ReflectliteValue.valueError "reflectlite.Value.Elem" 0) ReflectliteValue.elem) Tryd.func47 (by kernel_rfl) (by kernel_rfl) (by kernel_rfl) (by kernel_rfl)
  have h12 := @run_callFunc_extern Tryd.prog 48 _ ReflectliteValue.set Tryd.func48 (by kernel_rfl) (by kernel_rfl) (by kernel_rfl) (by kernel_rfl)
  have tO := Tryd.typeOfX
  have mA := Tryd.methodAssignableTo
  have a25 := Tryd.assignableX
  have tOa := Tryd.typeOfAt
  have ta1 := Tryd.assertAs p
  have ta2 := Tryd.assertUnwrap p
  have mU := Tryd.methodUnwrap p
  have a25a := Tryd.assignableAt
  have v25 := Tryd.valueOfX
  have f6 := Tryd.valueOfT
  have f7 := Tryd.typeT
  have mK := Tryd.methodKind
  have mE := Tryd.methodElem
  have mI := Tryd.methodImplements
  have k27 := Tryd.kindT
  have k25 := Tryd.kindX
  have e27 := Tryd.elemT
  have i25 := Tryd.implementsX
  have n8 := Tryd.isNilT ⟨w.heap.size, 0, none⟩ t ((w.alloc (.cells #[.pointer (some t)] 79)).alloc (.cells #[.pointer (some ⟨5, 79, none⟩), .pointer (some ⟨w.heap.size, 0, none⟩), .int .u64 150] 93)) (by simp)
  have hlt : 1 < w.heap.size := by
    rcases Nat.lt_or_ge 1 w.heap.size with h | h
    · exact h
    · simp [World.cell?, Array.getElem?_eq_none h] at hg
  have hg2 : ((w.alloc (.cells #[.pointer (some t)] 79)).alloc (.cells #[.pointer (some ⟨5, 79, none⟩), .pointer (some ⟨w.heap.size, 0, none⟩), .int .u64 150] 93)).cell? ⟨1, 0, none⟩ = some (.iface 108 (.agg #[.pointer (some ⟨5, 31, none⟩)])) := by
    rw [World.cell?_alloc_lt _ _ ⟨1, 0, none⟩ (by first | (simp; done) | (simp; omega)), World.cell?_alloc_lt _ _ ⟨1, 0, none⟩ hlt]; exact hg
  have htl : t.block < w.heap.size := by
    rcases Nat.lt_or_ge t.block w.heap.size with h | h
    · exact h
    · simp [World.cell?, Array.getElem?_eq_none h] at ht0
  have hpl : p.block < w.heap.size := by
    rcases Nat.lt_or_ge p.block w.heap.size with h | h
    · exact h
    · simp [World.cell?, Array.getElem?_eq_none h] at hp
  have hp3 : (((w.alloc (.cells #[.pointer (some t)] 79)).alloc (.cells #[.pointer (some ⟨5, 79, none⟩), .pointer (some ⟨w.heap.size, 0, none⟩), .int .u64 150] 93)).alloc (.cells #[.pointer (some ⟨5, 79, none⟩), .pointer (some ⟨w.heap.size, 0, none⟩), .int .u64 150] 93)).cell? p = some (.int .i64 k) := by
    rw [World.cell?_alloc_lt _ _ p (by simp; omega), World.cell?_alloc_lt _ _ p (by simp; omega), World.cell?_alloc_lt _ _ p hpl]; exact hp
  have el := Tryd.elemVT ⟨w.heap.size, 0, none⟩ t (((w.alloc (.cells #[.pointer (some t)] 79)).alloc (.cells #[.pointer (some ⟨5, 79, none⟩), .pointer (some ⟨w.heap.size, 0, none⟩), .int .u64 150] 93)).alloc (.cells #[.pointer (some ⟨5, 79, none⟩), .pointer (some ⟨w.heap.size, 0, none⟩), .int .u64 150] 93)) (by rw [World.cell?_alloc_lt _ _ ⟨w.heap.size, 0, none⟩ (by simp; omega)]; simp)
  have st := Tryd.setX t ⟨w.heap.size + 1 + 1 + 1, 0, none⟩ k old ((((w.alloc (.cells #[.pointer (some t)] 79)).alloc (.cells #[.pointer (some ⟨5, 79, none⟩), .pointer (some ⟨w.heap.size, 0, none⟩), .int .u64 150] 93)).alloc (.cells #[.pointer (some ⟨5, 79, none⟩), .pointer (some ⟨w.heap.size, 0, none⟩), .int .u64 150] 93)).alloc (.cells #[.int .i64 k] 23))
    (by rw [World.cell?_alloc_at _ _ _ _ (by simp)]; rfl)
    (by rw [World.cell?_alloc_lt _ _ t (by simp; omega), World.cell?_alloc_lt _ _ t (by simp; omega), World.cell?_alloc_lt _ _ t (by simp; omega), World.cell?_alloc_lt _ _ t htl]; exact ht0)
    (by rw [World.frozen?_alloc_old _ _ t (by simp; omega), World.frozen?_alloc_old _ _ t (by simp; omega), World.frozen?_alloc_old _ _ t (by simp; omega), World.frozen?_alloc_old _ _ t (Nat.ne_of_lt htl)]; exact hf0)
  go_enter Tryd.func31, Tryd.ntmps31
  go_wp2
  refine wp_loop_rounds 2 ?_
  rw [rounds_succ]
  go_wp2
  rw [rounds_succ]
  go_wp2
  go_ret
  exact ⟨rfl, rfl⟩
end Go.Proofs.YtcfndjhmdfjhhaaDoor
namespace Go.Proofs.YtcfndjhmdfjhhaaDoor
open Go.RowKit Go.Extern.Stop Go.Stop Go.Extern

theorem tell_nil (w : World) : Calls Tryd.prog 24 #[.nilIface] w fun e w' => e = .returned (.int .i64 0) ∧ Below w.heap.size w w' := by
  go_enter Tryd.func24, Tryd.ntmps24
  go_wp2
  go_ret
  exact ⟨rfl, Below.refl _ _⟩

set_option maxRecDepth 100000 in
set_option maxHeartbeats 4000000 in
theorem tell_hit (k : Int) (w : World) (hg : w.cell? ⟨1, 0, none⟩ = some (.iface 108 (.agg #[.pointer (some ⟨5, 31, none⟩)]))) : Calls Tryd.prog 24 #[.iface 23 (.int .i64 k)] w fun e w' => e = .returned (.int .i64 k) ∧ Below w.heap.size w w' := by
  have hlt : 1 < w.heap.size := by
    rcases Nat.lt_or_ge 1 w.heap.size with h | h
    · exact h
    · simp [World.cell?, Array.getElem?_eq_none h] at hg
  have hgA : (w.alloc (.cells #[.int .i64 0] 23)).cell? ⟨1, 0, none⟩ = some (.iface 108 (.agg #[.pointer (some ⟨5, 31, none⟩)])) := by
    rw [World.cell?_alloc_lt _ _ ⟨1, 0, none⟩ hlt]; exact hg
  have htA : (w.alloc (.cells #[.int .i64 0] 23)).cell? ⟨w.heap.size, 0, none⟩ = some (.int .i64 0) := by simp
  have hfA : (w.alloc (.cells #[.int .i64 0] 23)).frozen? ⟨w.heap.size, 0, none⟩ = false := by simp
  go_enter Tryd.func24, Tryd.ntmps24
  go_wp2_with (first | (go_at_call 31; refine (as_hit k _ (.int .i64 0) _ hgA htA hfA).mono ?_; rintro e w' ⟨rfl, rfl⟩))
  go_ret
  refine ⟨rfl, ?_⟩
  repeat (first | exact Below.refl _ _ | refine Below.alloc ?_ (by first | (simp; done) | (simp; omega)) _)
set_option maxRecDepth 100000 in
set_option maxHeartbeats 4000000 in
theorem tell_at (k : Int) (p : Addr) (w : World) (hg : w.cell? ⟨1, 0, none⟩ = some (.iface 108 (.agg #[.pointer (some ⟨5, 31, none⟩)]))) (hp : w.cell? p = some (.int .i64 k)) : Calls Tryd.prog 24 #[.iface 62 (.pointer (some p))] w fun e w' => e = .returned (.int .i64 k) ∧ Below w.heap.size w w' := by
  have hlt : 1 < w.heap.size := by
    rcases Nat.lt_or_ge 1 w.heap.size with h | h
    · exact h
    · simp [World.cell?, Array.getElem?_eq_none h] at hg
  have hgA : (w.alloc (.cells #[.int .i64 0] 23)).cell? ⟨1, 0, none⟩ = some (.iface 108 (.agg #[.pointer (some ⟨5, 31, none⟩)])) := by
    rw [World.cell?_alloc_lt _ _ ⟨1, 0, none⟩ hlt]; exact hg
  have htA : (w.alloc (.cells #[.int .i64 0] 23)).cell? ⟨w.heap.size, 0, none⟩ = some (.int .i64 0) := by simp
  have hfA : (w.alloc (.cells #[.int .i64 0] 23)).frozen? ⟨w.heap.size, 0, none⟩ = false := by simp
  have hpl : p.block < w.heap.size := by
    rcases Nat.lt_or_ge p.block w.heap.size with h | h
    · exact h
    · simp [World.cell?, Array.getElem?_eq_none h] at hp
  have hpA : (w.alloc (.cells #[.int .i64 0] 23)).cell? p = some (.int .i64 k) := by
    rw [World.cell?_alloc_lt _ _ p hpl]; exact hp
  go_enter Tryd.func24, Tryd.ntmps24
  go_wp2_with (first | (go_at_call 31; refine (as_at k p _ (.int .i64 0) _ hgA htA hfA hpA).mono ?_; rintro e w' ⟨rfl, rfl⟩))
  go_ret
  refine ⟨rfl, ?_⟩
  repeat (first | exact Below.refl _ _ | refine Below.alloc ?_ (by first | (simp; done) | (simp; omega)) _)
end Go.Proofs.YtcfndjhmdfjhhaaDoor
namespace Go.Sc.F
open Go Go.Sc
set_option linter.unusedVariables false

/-- signalbox/signalboxkeep.LassoPush -/
def keep_LassoPush (E : Env) (P : Program) (a0 a1 : AV) (H : AH) (R : Kt) : Prop :=
  wNew 2 (AV.cells? a0) H fun t2 H =>
  wGet (lenA a1) H fun t14 H =>
  wGet (binA .gtr t14 (.val (.int .i64 14))) H fun t15 H =>
  wGuard t15 false H (fun k => wGet (faddr 0 t2) H k) fun t17 H =>
  wGuard t15 false H (fun k => wGet (load1 t17 H) H k) fun t18 H =>
  wGuard t15 false H (fun k => wGet (lenA t18) H k) fun t19 H =>
  wGuard t15 false H (fun k => wGet (faddr 1 t2) H k) fun t20 H =>
  wGuard t15 false H (fun k => wGet (load1 t20 H) H k) fun t21 H =>
  wGuard t15 false H (fun k => wGet (lenA t21) H k) fun t22 H =>
  wGuard t15 false H (fun k => wGet (binA .add t19 t22) H k) fun t23 H =>
  wGuard t15 false H (fun k => wGet (binA .gtr t23 (.val (.int .i64 30))) H k) fun t24 H =>
  wGet (pickA t15 (.val (.bool true)) t24) H fun t25 H =>
  wIf t25 (
    R (.val (.bool true)) H) (
    wCall E P 26 [a1] H fun t27 H =>
    wCall E P 113 [t27] H fun t30 H =>
    wGet (extractA t30 0) H fun t31 H =>
    wGet (extractA t30 1) H fun t32 H =>
    wCall E P 28 [] H fun t33 H =>
    wGet (unA .not t33) H fun t34 H =>
    wGuard t34 false H (fun k => k t32 H) fun t36 H =>
    wGuard t34 false H (fun k => wBool (eqA .iface t36 (.val (.nilIface))) H true k) fun t37 H =>
    wGet (pickA t34 (.val (.bool true)) t37) H fun t38 H =>
    wGuard t38 false H (fun k => k t31 H) fun t40 H =>
    wGuard t38 false H (fun k => wCall E P 32 [t40] H k) fun t41 H =>
    wGuard t38 false H (fun k => wBool (eqA .iface t41 (.val (.nilIface))) H true k) fun t42 H =>
    wGet (pickA t38 (.val (.bool true)) t42) H fun t43 H =>
    wIf t43 (
      wCall E P 28 [] H fun t44 H =>
      wGuard t44 true H (fun k => k t32 H) fun t46 H =>
      wGuard t44 true H (fun k => wBool (eqA .iface t46 (.val (.nilIface))) H true k) fun t47 H =>
      wGuard t44 true H (fun k => k t47 H) fun t48 H =>
      wGuard t48 false H (fun k => k t31 H) fun t49 H =>
      wGuard t48 false H (fun k => wBool (eqA .ptr t49 (.val (.pointer none))) H true k) fun t50 H =>
      wGuard t44 true H (fun k => wGet (pickA t48 (.val (.bool true)) t50) H k) fun t51 H =>
      wGet (pickA t44 t51 (.val (.bool false))) H fun t52 H =>
      R t52 H) (
      wGet (loadN 2 t2 H) H fun t54 H =>
      wCall E P 27 [t54, t27] H fun t56 H =>
      wGet (extractA t56 0) H fun t57 H =>
      wGet (extractA t56 1) H fun t58 H =>
      wGet (loadN 2 t2 H) H fun t60 H =>
      wCall E P 27 [t60, t31] H fun t62 H =>
      wGet (extractA t62 0) H fun t63 H =>
      wGet (extractA t62 1) H fun t64 H =>
      wBool (eqA .iface t58 (.val (.nilIface))) H true fun t66 H =>
      wGuard t66 false H (fun k => k t64 H) fun t68 H =>
      wGuard t66 false H (fun k => wBool (eqA .iface t68 (.val (.nilIface))) H true k) fun t69 H =>
      wGet (pickA t66 (.val (.bool true)) t69) H fun t70 H =>
      wIf t70 (
        wBool (eqA .iface t58 (.val (.nilIface))) H true fun t72 H =>
        wGuard t72 true H (fun k => k t64 H) fun t74 H =>
        wGuard t72 true H (fun k => wBool (eqA .iface t74 (.val (.nilIface))) H true k) fun t75 H =>
        wGet (pickA t72 t75 (.val (.bool false))) H fun t76 H =>
        R t76 H) (
        wCall E P 113 [t31] H fun t79 H =>
        wGet (extractA t79 0) H fun t80 H =>
        wGet (extractA t79 1) H fun t81 H =>
        wCall E P 34 [t57, t63] H fun t84 H =>
        wGuard t84 true H (fun k => k t81 H) fun t86 H =>
        wGuard t84 true H (fun k => wBool (eqA .iface t86 (.val (.nilIface))) H false k) fun t87 H =>
        wGet (pickA t84 t87 (.val (.bool false))) H fun t88 H =>
        wGuard t88 true H (fun k => k t80 H) fun t90 H =>
        wGuard t88 true H (fun k => wCall E P 114 [t90] H k) fun t91 H =>
        wGuard t88 true H (fun k => k t31 H) fun t92 H =>
        wGuard t88 true H (fun k => wCall E P 114 [t92] H k) fun t93 H =>
        wGuard t88 true H (fun k => wGet (binA .eql t91 t93) H k) fun t94 H =>
        wGet (pickA t88 t94 (.val (.bool false))) H fun t95 H =>
        R t95 H)))

/-- signalbox/lasso.Push -/
def lasso_Push (E : Env) (P : Program) (a0 : AV) (H : AH) (R : Kt) : Prop :=
  wCall E P 32 [a0] H fun t6 H =>
  wBool (eqA .iface t6 (.val (.nilIface))) H true fun t8 H =>
  wIf t8 (
    R (.tup [(.val (.pointer none)), t6]) H) (
    wCall E P 116 [a0, (.val (.bool false))] H fun t11 H =>
    R (.tup [t11, (.val (.nilIface))]) H)

/-- signalbox/lasso.Text -/
def lasso_Text (E : Env) (P : Program) (a0 : AV) (H : AH) (R : Kt) : Prop :=
  wCall E P 32 [a0] H fun t4 H =>
  wBool (eqA .iface t4 (.val (.nilIface))) H true fun t5 H =>
  wIf t5 (
    R (.val (.string ⟨#[]⟩)) H) (
    wCall E P 117 [a0] H fun t7 H =>
    R t7 H)

/-- signalbox/lasso.push -/
def lasso_push (E : Env) (P : Program) (a0 a1 : AV) (H : AH) (R : Kt) : Prop :=
  wGet (nilA a0) H fun t12 H =>
  wGet (faddr 0 t12) H fun t13 H =>
  wGet (load1 t13 H) H fun t14 H =>
  wGet (nilA a0) H fun t16 H =>
  wGet (faddr 2 t16) H fun t17 H =>
  wGet (load1 t17 H) H fun t18 H =>
  wJoin 2 (fun J1 =>
    wGet (binA .eql t14 (.val (.int .i64 3))) H fun t21 H =>
    wIf t21 (
      wGet (iaddr 1 t18 (.val (.int .i64 0))) H fun t23 H =>
      wGet (load1 t23 H) H fun t24 H =>
      wGet (unA .not a1) H fun t26 H =>
      wCall E P 116 [t24, t26] H fun t27 H =>
      R t27 H) (
      wJoin 1 (fun J2 =>
        wGet (binA .eql t14 (.val (.int .i64 1))) H fun t29 H =>
        wIf t29 (
          J2 t29 H) (
          wGet (binA .eql t14 (.val (.int .i64 2))) H fun t30 H =>
          J2 t30 H)) fun t28 H =>
        wIf t28 (
          wGet (nilA a0) H fun t33 H =>
          wGet (faddr 1 t33) H fun t34 H =>
          wGet (load1 t34 H) H fun t35 H =>
          wAgg (fillA [(.val (.int .i64 0)), (.val (.string ⟨#[]⟩)), (.val (.slice none 0 0))] [(0, 1, t14), (1, 1, t35)]) H fun t36 H =>
          wNew 3 (AV.cells? t36) H fun t37 H =>
          wIf a1 (
            wNewS 1 1 (fillA (List.replicate 1 [(.val (.pointer none))]).flatten [(0, 1, t37)]) H fun t40 H =>
            wAgg (fillA [(.val (.int .i64 0)), (.val (.string ⟨#[]⟩)), (.val (.slice none 0 0))] [(0, 1, (.val (.int .i64 3))), (2, 1, t40)]) H fun t41 H =>
            wNew 3 (AV.cells? t41) H fun t42 H =>
            R t42 H) (
            R t37 H)) (
          wGet (binA .eql t14 (.val (.int .i64 9))) H fun t45 H =>
          wIf t45 (
            wAgg (fillA [(.val (.int .i64 0)), (.val (.string ⟨#[]⟩)), (.val (.slice none 0 0))] [(0, 1, (.val (.int .i64 2)))]) H fun t46 H =>
            wGet (iaddr 1 t18 (.val (.int .i64 0))) H fun t49 H =>
            wGet (load1 t49 H) H fun t50 H =>
            (
              wNew 3 (AV.cells? t46) H fun t47 H =>
              (wGet (load1 t49 H) H (fun y H2 => y = t50 ∧ H2 = H)) ∧
              (
                wNewS 1 2 (fillA (List.replicate 2 [(.val (.pointer none))]).flatten [(0, 1, t47), (1, 1, t50)]) H fun t51 H =>
                (wGet (load1 t49 H) H (fun y H2 => y = t50 ∧ H2 = H)) ∧
                J1 (.val (.int .i64 7)) t51 H) ∧
              (
                (wGet (load1 t49 H) H (fun y H2 => y = t50 ∧ H2 = H)) ∧
                wNewS 1 2 (fillA (List.replicate 2 [(.val (.pointer none))]).flatten [(0, 1, t47), (1, 1, t50)]) H fun t51_1 H =>
                J1 (.val (.int .i64 7)) t51_1 H)) ∧
            (
              (wGet (load1 t49 H) H (fun y H2 => y = t50 ∧ H2 = H)) ∧
              wNew 3 (AV.cells? t46) H fun t47_1 H =>
              (wGet (load1 t49 H) H (fun y H2 => y = t50 ∧ H2 = H)) ∧
              wNewS 1 2 (fillA (List.replicate 2 [(.val (.pointer none))]).flatten [(0, 1, t47_1), (1, 1, t50)]) H fun t51_2 H =>
              J1 (.val (.int .i64 7)) t51_2 H)) (
            wGet (binA .eql t14 (.val (.int .i64 10))) H fun t53 H =>
            wIf t53 (
              wAgg (fillA [(.val (.int .i64 0)), (.val (.string ⟨#[]⟩)), (.val (.slice none 0 0))] [(0, 1, (.val (.int .i64 2)))]) H fun t54 H =>
              wGet (iaddr 1 t18 (.val (.int .i64 0))) H fun t60 H =>
              wGet (load1 t60 H) H fun t61 H =>
              (
                wNew 3 (AV.cells? t54) H fun t55 H =>
                (wGet (load1 t60 H) H (fun y H2 => y = t61 ∧ H2 = H)) ∧
                (
                  wNewS 1 1 (fillA (List.replicate 1 [(.val (.pointer none))]).flatten [(0, 1, t55)]) H fun t56 H =>
                  (wGet (load1 t60 H) H (fun y H2 => y = t61 ∧ H2 = H)) ∧
                  wAgg (fillA [(.val (.int .i64 0)), (.val (.string ⟨#[]⟩)), (.val (.slice none 0 0))] [(0, 1, (.val (.int .i64 3))), (2, 1, t56)]) H fun t57 H =>
                  (
                    wNew 3 (AV.cells? t57) H fun t58 H =>
                    (wGet (load1 t60 H) H (fun y H2 => y = t61 ∧ H2 = H)) ∧
                    (
                      wNewS 1 2 (fillA (List.replicate 2 [(.val (.pointer none))]).flatten [(0, 1, t58), (1, 1, t61)]) H fun t62 H =>
                      (wGet (load1 t60 H) H (fun y H2 => y = t61 ∧ H2 = H)) ∧
                      J1 (.val (.int .i64 8)) t62 H) ∧
                    (
                      (wGet (load1 t60 H) H (fun y H2 => y = t61 ∧ H2 = H)) ∧
                      wNewS 1 2 (fillA (List.replicate 2 [(.val (.pointer none))]).flatten [(0, 1, t58), (1, 1, t61)]) H fun t62_1 H =>
                      J1 (.val (.int .i64 8)) t62_1 H)) ∧
                  (
                    (wGet (load1 t60 H) H (fun y H2 => y = t61 ∧ H2 = H)) ∧
                    wNew 3 (AV.cells? t57) H fun t58_1 H =>
                    (wGet (load1 t60 H) H (fun y H2 => y = t61 ∧ H2 = H)) ∧
                    wNewS 1 2 (fillA (List.replicate 2 [(.val (.pointer none))]).flatten [(0, 1, t58_1), (1, 1, t61)]) H fun t62_2 H =>
                    J1 (.val (.int .i64 8)) t62_2 H)) ∧
                (
                  (wGet (load1 t60 H) H (fun y H2 => y = t61 ∧ H2 = H)) ∧
                  wNewS 1 1 (fillA (List.replicate 1 [(.val (.pointer none))]).flatten [(0, 1, t55)]) H fun t56_1 H =>
                  (wGet (load1 t60 H) H (fun y H2 => y = t61 ∧ H2 = H)) ∧
                  wAgg (fillA [(.val (.int .i64 0)), (.val (.string ⟨#[]⟩)), (.val (.slice none 0 0))] [(0, 1, (.val (.int .i64 3))), (2, 1, t56_1)]) H fun t57_1 H =>
                  wNew 3 (AV.cells? t57_1) H fun t58_2 H =>
                  (wGet (load1 t60 H) H (fun y H2 => y = t61 ∧ H2 = H)) ∧
                  wNewS 1 2 (fillA (List.replicate 2 [(.val (.pointer none))]).flatten [(0, 1, t58_2), (1, 1, t61)]) H fun t62_3 H =>
                  J1 (.val (.int .i64 8)) t62_3 H)) ∧
              (
                (wGet (load1 t60 H) H (fun y H2 => y = t61 ∧ H2 = H)) ∧
                wNew 3 (AV.cells? t54) H fun t55_1 H =>
                (wGet (load1 t60 H) H (fun y H2 => y = t61 ∧ H2 = H)) ∧
                wNewS 1 1 (fillA (List.replicate 1 [(.val (.pointer none))]).flatten [(0, 1, t55_1)]) H fun t56_2 H =>
                (wGet (load1 t60 H) H (fun y H2 => y = t61 ∧ H2 = H)) ∧
                wAgg (fillA [(.val (.int .i64 0)), (.val (.string ⟨#[]⟩)), (.val (.slice none 0 0))] [(0, 1, (.val (.int .i64 3))), (2, 1, t56_2)]) H fun t57_2 H =>
                wNew 3 (AV.cells? t57_2) H fun t58_3 H =>
                (wGet (load1 t60 H) H (fun y H2 => y = t61 ∧ H2 = H)) ∧
                wNewS 1 2 (fillA (List.replicate 2 [(.val (.pointer none))]).flatten [(0, 1, t58_3), (1, 1, t61)]) H fun t62_4 H =>
                J1 (.val (.int .i64 8)) t62_4 H)) (
              J1 t14 t18 H))))) fun t5 t6 H =>
    wJoin 1 (fun J3 =>
      wIf a1 (
        wMapN H fun t64 H =>
        wPut (insertA (.int .i64) t64 (.val (.int .i64 4)) (.val (.int .i64 5)) H) fun _u H =>
        wPut (insertA (.int .i64) t64 (.val (.int .i64 5)) (.val (.int .i64 4)) H) fun _u H =>
        wPut (insertA (.int .i64) t64 (.val (.int .i64 6)) (.val (.int .i64 6)) H) fun _u H =>
        wPut (insertA (.int .i64) t64 (.val (.int .i64 7)) (.val (.int .i64 8)) H) fun _u H =>
        wPut (insertA (.int .i64) t64 (.val (.int .i64 8)) (.val (.int .i64 7)) H) fun _u H =>
        wGet (lookupA (.int .i64) (.val (.int .i64 0)) false t64 t5 H) H fun t67 H =>
        J3 t67 H) (
        J3 t5 H)) fun t5_1 H =>
      wAgg (fillA [(.val (.int .i64 0)), (.val (.string ⟨#[]⟩)), (.val (.slice none 0 0))] [(0, 1, t5_1)]) H fun t69 H =>
      wNew 3 (AV.cells? t69) H fun t70 H =>
      wGet (lenA t6) H fun t72 H =>
      wLoop 1 (fun I4 => I4 (.val (.int .i64 0)) H) fun I4 t73 H =>
        wGet (binA .lss t73 t72) H fun t74 H =>
        wIf t74 (
          wGet (iaddr 1 t6 t73) H fun t75 H =>
          wGet (load1 t75 H) H fun t76 H =>
          wGet (nilA t70) H fun t79 H =>
          wGet (faddr 2 t79) H fun t80 H =>
          wGet (load1 t80 H) H fun t81 H =>
          wCall E P 116 [t76, a1] H fun t84 H =>
          (wGet (load1 t80 H) H (fun y H2 => y = t81 ∧ H2 = H)) ∧
          wNewS 1 1 (fillA (List.replicate 1 [(.val (.pointer none))]).flatten [(0, 1, t84)]) H fun t85 H =>
          (wGet (load1 t80 H) H (fun y H2 => y = t81 ∧ H2 = H)) ∧
          wApp 1 8 t81 t85 H fun t86 H =>
          wGet (nilA t70) H fun t87 H =>
          wGet (faddr 2 t87) H fun t88 H =>
          wPut (store1 t88 t86 H) fun _u H =>
          wGet (binA .add t73 (.val (.int .i64 1))) H fun t89 H =>
          I4 t89 H) (
          R t70 H)

/-- signalbox/lasso.text -/
def lasso_text (E : Env) (P : Program) (a0 : AV) (H : AH) (R : Kt) : Prop :=
  wGet (nilA a0) H fun t7 H =>
  wGet (faddr 2 t7) H fun t8 H =>
  wGet (load1 t8 H) H fun t9 H =>
  wGet (lenA t9) H fun t10 H =>
  wLoop 2 (fun I1 => I1 (.val (.slice none 0 0)) (.val (.int .i64 0)) H) fun I1 t3 t11 H =>
    wGet (binA .lss t11 t10) H fun t12 H =>
    wIf t12 (
      wGet (iaddr 1 t9 t11) H fun t13 H =>
      wGet (load1 t13 H) H fun t14 H =>
      wCall E P 117 [t14] H fun t17 H =>
      wNewS 1 1 (fillA (List.replicate 1 [(.val (.string ⟨#[]⟩))]).flatten [(0, 1, t17)]) H fun t18 H =>
      wApp 1 16 t3 t18 H fun t19 H =>
      wGet (binA .add t11 (.val (.int .i64 1))) H fun t20 H =>
      I1 t19 t20 H) (
      wGet (nilA a0) H fun t22 H =>
      wGet (faddr 0 t22) H fun t23 H =>
      wGet (load1 t23 H) H fun t24 H =>
      wGet (binA .eql t24 (.val (.int .i64 1))) H fun t26 H =>
      wIf t26 (
        wGet (nilA a0) H fun t28 H =>
        wGet (faddr 1 t28) H fun t29 H =>
        wGet (load1 t29 H) H fun t30 H =>
        R t30 H) (
        wGet (binA .eql t24 (.val (.int .i64 2))) H fun t32 H =>
        wIf t32 (
          R (.val (.string ⟨#[116, 114, 117, 101]⟩)) H) (
          wGet (binA .eql t24 (.val (.int .i64 3))) H fun t34 H =>
          wIf t34 (
            wCall E P 118 [t3, (.val (.string ⟨#[]⟩))] H fun t36 H =>
            wGet (binA .add (.val (.string ⟨#[33]⟩)) t36) H fun t37 H =>
            R t37 H) (
            wGet (binA .eql t24 (.val (.int .i64 6))) H fun t39 H =>
            wIf t39 (
              wCall E P 118 [t3, (.val (.string ⟨#[]⟩))] H fun t41 H =>
              wGet (binA .add (.val (.string ⟨#[88, 32]⟩)) t41) H fun t42 H =>
              R t42 H) (
              wGet (binA .eql t24 (.val (.int .i64 9))) H fun t44 H =>
              wIf t44 (
                wCall E P 118 [t3, (.val (.string ⟨#[]⟩))] H fun t46 H =>
                wGet (binA .add (.val (.string ⟨#[70, 32]⟩)) t46) H fun t47 H =>
                R t47 H) (
                wGet (binA .eql t24 (.val (.int .i64 10))) H fun t49 H =>
                wIf t49 (
                  wCall E P 118 [t3, (.val (.string ⟨#[]⟩))] H fun t51 H =>
                  wGet (binA .add (.val (.string ⟨#[71, 32]⟩)) t51) H fun t52 H =>
                  R t52 H) (
                  wGet (binA .eql t24 (.val (.int .i64 4))) H fun t54 H =>
                  wIf t54 (
                    wCall E P 118 [t3, (.val (.string ⟨#[32, 38, 32]⟩))] H fun t56 H =>
                    wGet (binA .add (.val (.string ⟨#[40]⟩)) t56) H fun t57 H =>
                    wGet (binA .add t57 (.val (.string ⟨#[41]⟩))) H fun t58 H =>
                    R t58 H) (
                    wGet (binA .eql t24 (.val (.int .i64 5))) H fun t60 H =>
                    wIf t60 (
                      wCall E P 118 [t3, (.val (.string ⟨#[32, 124, 32]⟩))] H fun t62 H =>
                      wGet (binA .add (.val (.string ⟨#[40]⟩)) t62) H fun t63 H =>
                      wGet (binA .add t63 (.val (.string ⟨#[41]⟩))) H fun t64 H =>
                      R t64 H) (
                      wGet (binA .eql t24 (.val (.int .i64 7))) H fun t66 H =>
                      wIf t66 (
                        wCall E P 118 [t3, (.val (.string ⟨#[32, 85, 32]⟩))] H fun t68 H =>
                        wGet (binA .add (.val (.string ⟨#[40]⟩)) t68) H fun t69 H =>
                        wGet (binA .add t69 (.val (.string ⟨#[41]⟩))) H fun t70 H =>
                        R t70 H) (
                        wGet (binA .eql t24 (.val (.int .i64 8))) H fun t72 H =>
                        wIf t72 (
                          wCall E P 118 [t3, (.val (.string ⟨#[32, 82, 32]⟩))] H fun t74 H =>
                          wGet (binA .add (.val (.string ⟨#[40]⟩)) t74) H fun t75 H =>
                          wGet (binA .add t75 (.val (.string ⟨#[41]⟩))) H fun t76 H =>
                          R t76 H) (
                          R (.val (.string ⟨#[]⟩)) H)))))))))))

/-- strings.Join -/
def strings_Join (E : Env) (P : Program) (a0 a1 : AV) (H : AH) (R : Kt) : Prop :=
  wGet (lenA a0) H fun t12 H =>
  wGet (binA .eql t12 (.val (.int .i64 0))) H fun t14 H =>
  wIf t14 (
    R (.val (.string ⟨#[]⟩)) H) (
    wGet (binA .eql t12 (.val (.int .i64 1))) H fun t16 H =>
    wIf t16 (
      wGet (iaddr 1 a0 (.val (.int .i64 0))) H fun t18 H =>
      wGet (load1 t18 H) H fun t19 H =>
      R t19 H) (
      wJoin 1 (fun J1 =>
        wGet (lenS a1) H fun t21 H =>
        wGet (binA .gtr t21 (.val (.int .i64 0))) H fun t22 H =>
        wIf t22 (
          wJoin 0 (fun J2 =>
            wGet (lenS a1) H fun t24 H =>
            wGet (lenA a0) H fun t26 H =>
            wGet (binA .sub t26 (.val (.int .i64 1))) H fun t27 H =>
            wGet (binA .quo (.val (.int .i64 9223372036854775807)) t27) H fun t28 H =>
            wGet (binA .geq t24 t28) H fun t29 H =>
            wIf t29 (
              False) (
              J2 H)) fun H =>
            wGet (lenS a1) H fun t33 H =>
            wGet (lenA a0) H fun t35 H =>
            wGet (binA .sub t35 (.val (.int .i64 1))) H fun t36 H =>
            wGet (binA .mul t33 t36) H fun t37 H =>
            wGet (binA .add (.val (.int .i64 0)) t37) H fun t38 H =>
            J1 t38 H) (
          J1 (.val (.int .i64 0)) H)) fun t5 H =>
        wGet (lenA a0) H fun t40 H =>
        wLoop 2 (fun I3 => I3 t5 (.val (.int .i64 0)) H) fun I3 t5_1 t41 H =>
          wGet (binA .lss t41 t40) H fun t42 H =>
          wIf t42 (
            wGet (iaddr 1 a0 t41) H fun t43 H =>
            wGet (load1 t43 H) H fun t44 H =>
            wJoin 0 (fun J4 =>
              wGet (lenS t44) H fun t46 H =>
              wGet (binA .sub (.val (.int .i64 9223372036854775807)) t5_1) H fun t48 H =>
              wGet (binA .gtr t46 t48) H fun t49 H =>
              wIf t49 (
                False) (
                J4 H)) fun H =>
              wGet (lenS t44) H fun t53 H =>
              wGet (binA .add t5_1 t53) H fun t54 H =>
              wGet (binA .add t41 (.val (.int .i64 1))) H fun t55 H =>
              I3 t54 t55 H) (
            wNew 2 (some [(.val (.pointer none)), (.val (.slice none 0 0))]) H fun t8 H =>
            wCall E P 119 [t8, t5_1] H fun t57 H =>
            wGet (iaddr 1 a0 (.val (.int .i64 0))) H fun t59 H =>
            wGet (load1 t59 H) H fun t60 H =>
            wCall E P 120 [t8, t60] H fun t61 H =>
            wGet (sliceA 1 a0 (some (.val (.int .i64 1))) none H) H fun t63 H =>
            wGet (lenA t63) H fun t64 H =>
            wLoop 1 (fun I5 => I5 (.val (.int .i64 0)) H) fun I5 t65 H =>
              wGet (binA .lss t65 t64) H fun t66 H =>
              wIf t66 (
                wGet (iaddr 1 t63 t65) H fun t67 H =>
                wGet (load1 t67 H) H fun t68 H =>
                wCall E P 120 [t8, a1] H fun t70 H =>
                wCall E P 120 [t8, t68] H fun t72 H =>
                wGet (binA .add t65 (.val (.int .i64 1))) H fun t73 H =>
                I5 t73 H) (
                wCall E P 121 [t8] H fun t74 H =>
                R t74 H))))

/-- (*strings.Builder).Grow -/
def pstrings_Builder_Grow (E : Env) (P : Program) (a0 a1 : AV) (H : AH) (R : Kt) : Prop :=
  wCall E P 122 [a0] H fun t5 H =>
  wJoin 0 (fun J1 =>
    wGet (binA .lss a1 (.val (.int .i64 0))) H fun t7 H =>
    wIf t7 (
      False) (
      J1 H)) fun H =>
    wGet (nilA a0) H fun t10 H =>
    wGet (faddr 1 t10) H fun t11 H =>
    wGet (load1 t11 H) H fun t12 H =>
    wGet (nilA a0) H fun t15 H =>
    wGet (faddr 1 t15) H fun t16 H =>
    wGet (load1 t16 H) H fun t17 H =>
    wGet (lenA t17) H fun t18 H =>
    False

/-- (*strings.Builder).WriteString -/
def pstrings_Builder_WriteString (E : Env) (P : Program) (a0 a1 : AV) (H : AH) (R : Kt) : Prop :=
  wCall E P 122 [a0] H fun t7 H =>
  wGet (nilA a0) H fun t10 H =>
  wGet (faddr 1 t10) H fun t11 H =>
  wGet (load1 t11 H) H fun t12 H =>
  wApp 1 1 t12 a1 H fun t14 H =>
  wGet (nilA a0) H fun t15 H =>
  wGet (faddr 1 t15) H fun t16 H =>
  wPut (store1 t16 t14 H) fun _u H =>
  wGet (lenS a1) H fun t18 H =>
  R (.tup [t18, (.val (.nilIface))]) H

/-- (*strings.Builder).String -/
def pstrings_Builder_String (E : Env) (P : Program) (a0 : AV) (H : AH) (R : Kt) : Prop :=
  wGet (nilA a0) H fun t4 H =>
  wGet (faddr 1 t4) H fun t5 H =>
  wGet (load1 t5 H) H fun t6 H =>
  wGet (nilA a0) H fun t9 H =>
  wGet (faddr 1 t9) H fun t10 H =>
  wGet (load1 t10 H) H fun t11 H =>
  wGet (lenA t11) H fun t12 H =>
  False

/-- (*strings.Builder).copyCheck -/
def pstrings_Builder_copyCheck (E : Env) (P : Program) (a0 : AV) (H : AH) (R : Kt) : Prop :=
  wGet (nilA a0) H fun t3 H =>
  wGet (faddr 0 t3) H fun t4 H =>
  wGet (load1 t4 H) H fun t5 H =>
  wBool (eqA .ptr t5 (.val (.pointer none))) H false fun t6 H =>
  wIf t6 (
    wGet (convA .unsafePointer a0) H fun t9 H =>
    wCall E P 123 [t9] H fun t10 H =>
    wGet (convA (.pointer 0) t10) H fun t11 H =>
    wGet (nilA a0) H fun t12 H =>
    wGet (faddr 0 t12) H fun t13 H =>
    wPut (store1 t13 t11 H) fun _u H =>
    R (.tup []) H) (
    wGet (nilA a0) H fun t15 H =>
    wGet (faddr 0 t15) H fun t16 H =>
    wGet (load1 t16 H) H fun t17 H =>
    wBool (eqA .ptr t17 a0) H true fun t19 H =>
    wIf t19 (
      False) (
      R (.tup []) H))

/-- (*strings.Builder).grow -/
def pstrings_Builder_grow (E : Env) (P : Program) (a0 a1 : AV) (H : AH) (R : Kt) : Prop :=
  wGet (nilA a0) H fun t6 H =>
  wGet (faddr 1 t6) H fun t7 H =>
  wGet (load1 t7 H) H fun t8 H =>
  wGet (nilA a0) H fun t15 H =>
  wGet (faddr 1 t15) H fun t16 H =>
  wGet (load1 t16 H) H fun t17 H =>
  wGet (lenA t17) H fun t18 H =>
  False

end Go.Sc.F
