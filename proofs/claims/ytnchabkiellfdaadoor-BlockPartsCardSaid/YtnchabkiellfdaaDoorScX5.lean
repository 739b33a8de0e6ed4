/-
  THE LAW BlockParts, out of the contracts.
-/
import Derived.Test.YtnchabkiellfdaaDoorScP15
namespace Go.Sc
open Go
set_option linter.unusedSimpArgs false
set_option linter.unusedVariables false
set_option linter.unnecessarySimpa false

structure PartsBodies (E : Env) (P : Program) : Prop where
  b : BlockBodies E P
  t : TabBodies E P
  apart : Body1 E P 85 F.ref_Table_apart
  part : Body3 E P 52 F.block_Part
  part1 : Body3 E P 60 F.block_Part_c1
  tell : Body3 E P 50 F.block_Tell
  tell1 : Body2 E P 58 F.block_Tell_c1
  rPart : Body3 E P 88 F.ref_Table_Part
  bare : Body2 E P 89 F.law_bare
section
variable {E : Env} {P : Program}
theorem Er_2 : Er 2 = .ifc 1 (Z 2) := rfl
theorem Er_8 : Er 8 = .ifc 1 (Z 8) := rfl
set_option maxHeartbeats 1000000 in
theorem BlockParts_body (B : PartsBodies E P) (t : Table) (hs : t.sized) (a b : Int) (l : List Int) (n : Nat) : F.law_BlockParts E P (Tb t) (Z a) (Z b) (LI l) ⟨[], n⟩ (fun r _ => r = Bo true) := by
  have hTb : Tb t = .agg [LLI t.next, LLI t.tells] := rfl
  unfold F.law_BlockParts
  rw [hTb]
  refine wNew.F' (l := [LLI t.next, LLI t.tells]) rfl ?_
  simp only [Y0, Y1, Y2, Y3, Y4, Y5, Y6, Y7, Y8, Y9, Ya, Yb, Yc, Yd, Ye, Yf, Yg, Yh, Yi, Yj, Yk, Yl, Ym, Yn, Yo, Yp, Yq, Yr, Ys, Yt, Yu, Yv, Yw, Yx, Yy, Yz, Y10, Y11, Y12, Y13, Y14, Y15, Y16, Y17, Y18, Y19, Y1a, Y1b, Y1c, Y1d, Y1e, Y1f, Y1g, Y1h, Y1i, Y1j, Y1k, Y1l, AV.cells?, Y1n, Y1o, Y1p, Y1q, Y1r, Y1s, Y1t, Nat.reduceAdd, Nat.reduceMul, Y1w, Y1x, Y1y, Y1z, Y20, Y21, Y22, Y23, Y24, Y25, Y26, Y27, Y28, Y29, Y2a, Y2b]
  refine wCall.fx (tables_spec B.t t hs) fun n1 => ?_
  unfold tabA
  simp only [Y0, Y1, Y2, Y3, Y4, Y5, Y6, Y7, Y8, Y9, Ya, Yb, Yc, Yd, Ye, Yf, Yg, Yh, Yi, Yj, Yk, Yl, Ym, Yn, Yo, Yp, Yq, Yr, Ys, Yt, Yu, Yv, Yw, Yx, Yy, Yz, Y10, Y11, Y12, Y13, Y14, Y15, Y16, Y17, Y18, Y19, Y1a, Y1b, Y1c, Y1d, Y1e, Y1f, Y1g, Y1h, Y1i, Y1j, Y1k, Y1l, AV.cells?, Y1n, Y1o, Y1p, Y1q, Y1r, Y1s, Y1t, Nat.reduceAdd, Nat.reduceMul, Y1w, Y1x, Y1y, Y1z, Y20, Y21, Y22, Y23, Y24, Y25, Y26, Y27, Y28, Y29, Y2a, Y2b]
  refine wNew.L (l := [nilS, nilS]) rfl ?_
  refine wNew.L (l := [Z 0, Z 0]) rfl ?_
  rw [hTb, storeN_L (n := 2) (xs := [LLI t.next, LLI t.tells]) rfl rfl]
  simp only [Y0, Y1, Y2, Y3, Y4, Y5, Y6, Y7, Y8, Y9, Ya, Yb, Yc, Yd, Ye, Yf, Yg, Yh, Yi, Yj, Yk, Yl, Ym, Yn, Yo, Yp, Yq, Yr, Ys, Yt, Yu, Yv, Yw, Yx, Yy, Yz, Y10, Y11, Y12, Y13, Y14, Y15, Y16, Y17, Y18, Y19, Y1a, Y1b, Y1c, Y1d, Y1e, Y1f, Y1g, Y1h, Y1i, Y1j, Y1k, Y1l, AV.cells?, Y1n, Y1o, Y1p, Y1q, Y1r, Y1s, Y1t, Nat.reduceAdd, Nat.reduceMul, Y1w, Y1x, Y1y, Y1z, Y20, Y21, Y22, Y23, Y24, Y25, Y26, Y27, Y28, Y29, Y2a, Y2b, put_22]
  cases hok : okTab t with
  | false =>
    have : ∀ e : Err, ∃ a b, failA e = .agg [Z a, Z b] := fun e => by
      rcases e with _ | ⟨k, _ | s⟩
      · exact ⟨_, _, rfl⟩
      · exact ⟨_, _, rfl⟩
      · exact ⟨_, _, rfl⟩
    obtain ⟨a, b, hf⟩ := this (if t.next.length > 510 ∨ t.tells.length > 510 then none else check t)
    rw [hf, storeN_L (n := 2) (xs := [Z a, Z b]) rfl rfl]
    simp only [Y0, Y1, Y2, Y3, Y4, Y5, Y6, Y7, Y8, Y9, Ya, Yb, Yc, Yd, Ye, Yf, Yg, Yh, Yi, Yj, Yk, Yl, Ym, Yn, Yo, Yp, Yq, Yr, Ys, Yt, Yu, Yv, Yw, Yx, Yy, Yz, Y10, Y11, Y12, Y13, Y14, Y15, Y16, Y17, Y18, Y19, Y1a, Y1b, Y1c, Y1d, Y1e, Y1f, Y1g, Y1h, Y1i, Y1j, Y1k, Y1l, AV.cells?, Y1n, Y1o, Y1p, Y1q, Y1r, Y1s, Y1t, Nat.reduceAdd, Nat.reduceMul, Y1w, Y1x, Y1y, Y1z, Y20, Y21, Y22, Y23, Y24, Y25, Y26, Y27, Y28, Y29, Y2a, Y2b, put_22]
  | true =>
  have c1 : ¬ (t.next.length > 510 ∨ t.tells.length > 510) := by
    intro h; simp [okTab, h] at hok
  rw [if_neg c1]
  by_cases h60 : (60 : Int) < l.length
  · have : ∀ e : Err, ∃ a b, failA e = .agg [Z a, Z b] := fun e => by
      rcases e with _ | ⟨k, _ | s⟩
      · exact ⟨_, _, rfl⟩
      · exact ⟨_, _, rfl⟩
      · exact ⟨_, _, rfl⟩
    obtain ⟨a, b, hf⟩ := this (check t)
    rw [hf, storeN_L (n := 2) (xs := [Z a, Z b]) rfl rfl]
    simp only [Y0, Y1, Y2, Y3, Y4, Y5, Y6, Y7, Y8, Y9, Ya, Yb, Yc, Yd, Ye, Yf, Yg, Yh, Yi, Yj, Yk, Yl, Ym, Yn, Yo, Yp, Yq, Yr, Ys, Yt, Yu, Yv, Yw, Yx, Yy, Yz, Y10, Y11, Y12, Y13, Y14, Y15, Y16, Y17, Y18, Y19, Y1a, Y1b, Y1c, Y1d, Y1e, Y1f, Y1g, Y1h, Y1i, Y1j, Y1k, Y1l, AV.cells?, Y1n, Y1o, Y1p, Y1q, Y1r, Y1s, Y1t, Nat.reduceAdd, Nat.reduceMul, Y1w, Y1x, Y1y, Y1z, Y20, Y21, Y22, Y23, Y24, Y25, Y26, Y27, Y28, Y29, Y2a, Y2b, put_22, lenA_LI, decide_eq_true h60]
  have hl60 : l.length ≤ 60 := by omega
  by_cases hc : check t = none
  case neg =>
    obtain ⟨k, p, hf, hk⟩ := failA_some hc
    obtain ⟨k2, a2, he⟩ := errA_some hc
    have hat := at_check B.t t
    rw [he, hf] at hat
    rw [hf, storeN_L (n := 2) (xs := [Z k, Z p]) rfl rfl]
    simp only [Y0, Y1, Y2, Y3, Y4, Y5, Y6, Y7, Y8, Y9, Ya, Yb, Yc, Yd, Ye, Yf, Yg, Yh, Yi, Yj, Yk, Yl, Ym, Yn, Yo, Yp, Yq, Yr, Ys, Yt, Yu, Yv, Yw, Yx, Yy, Yz, Y10, Y11, Y12, Y13, Y14, Y15, Y16, Y17, Y18, Y19, Y1a, Y1b, Y1c, Y1d, Y1e, Y1f, Y1g, Y1h, Y1i, Y1j, Y1k, Y1l, AV.cells?, Y1n, Y1o, Y1p, Y1q, Y1r, Y1s, Y1t, Nat.reduceAdd, Nat.reduceMul, Y1w, Y1x, Y1y, Y1z, Y20, Y21, Y22, Y23, Y24, Y25, Y26, Y27, Y28, Y29, Y2a, Y2b, put_22, lenA_LI, decide_eq_false h60]
    refine wCall.fx (Part_spec B.b B.part B.part1 t hs a b) fun n2 => ?_
    rw [show PartA t a b = .tup [LI [], .ifc k2 a2] by simp [PartA, hc, he]]
    simp only [Y0, Y1, Y2, Y3, Y4, Y5, Y6, Y7, Y8, Y9, Ya, Yb, Yc, Yd, Ye, Yf, Yg, Yh, Yi, Yj, Yk, Yl, Ym, Yn, Yo, Yp, Yq, Yr, Ys, Yt, Yu, Yv, Yw, Yx, Yy, Yz, Y10, Y11, Y12, Y13, Y14, Y15, Y16, Y17, Y18, Y19, Y1a, Y1b, Y1c, Y1d, Y1e, Y1f, Y1g, Y1h, Y1i, Y1j, Y1k, Y1l, AV.cells?, Y1n, Y1o, Y1p, Y1q, Y1r, Y1s, Y1t, Nat.reduceAdd, Nat.reduceMul, Y1w, Y1x, Y1y, Y1z, Y20, Y21, Y22, Y23, Y24, Y25, Y26, Y27, Y28, Y29, Y2a, Y2b]
    refine wCall.fx (Tell_spec B.b B.tell B.tell1 t hs a l (by omega)) fun n3 => ?_
    rw [show TellA t a l = .tup [LI [], .ifc k2 a2] by simp [TellA, hc, he]]
    simp only [Y0, Y1, Y2, Y3, Y4, Y5, Y6, Y7, Y8, Y9, Ya, Yb, Yc, Yd, Ye, Yf, Yg, Yh, Yi, Yj, Yk, Yl, Ym, Yn, Yo, Yp, Yq, Yr, Ys, Yt, Yu, Yv, Yw, Yx, Yy, Yz, Y10, Y11, Y12, Y13, Y14, Y15, Y16, Y17, Y18, Y19, Y1a, Y1b, Y1c, Y1d, Y1e, Y1f, Y1g, Y1h, Y1i, Y1j, Y1k, Y1l, AV.cells?, Y1n, Y1o, Y1p, Y1q, Y1r, Y1s, Y1t, Nat.reduceAdd, Nat.reduceMul, Y1w, Y1x, Y1y, Y1z, Y20, Y21, Y22, Y23, Y24, Y25, Y26, Y27, Y28, Y29, Y2a, Y2b, decide_eq_false (show ¬ ((k : Int) = 0) by omega)]
    refine wCall.fx hat fun n5 => ?_
    simp only [Y0, Y1, Y2, Y3, Y4, Y5, Y6, Y7, Y8, Y9, Ya, Yb, Yc, Yd, Ye, Yf, Yg, Yh, Yi, Yj, Yk, Yl, Ym, Yn, Yo, Yp, Yq, Yr, Ys, Yt, Yu, Yv, Yw, Yx, Yy, Yz, Y10, Y11, Y12, Y13, Y14, Y15, Y16, Y17, Y18, Y19, Y1a, Y1b, Y1c, Y1d, Y1e, Y1f, Y1g, Y1h, Y1i, Y1j, Y1k, Y1l, AV.cells?, Y1n, Y1o, Y1p, Y1q, Y1r, Y1s, Y1t, Nat.reduceAdd, Nat.reduceMul, Y1w, Y1x, Y1y, Y1z, Y20, Y21, Y22, Y23, Y24, Y25, Y26, Y27, Y28, Y29, Y2a, Y2b]
    refine wCall.fx hat fun n6 => ?_
    simp only [Y0, Y1, Y2, Y3, Y4, Y5, Y6, Y7, Y8, Y9, Ya, Yb, Yc, Yd, Ye, Yf, Yg, Yh, Yi, Yj, Yk, Yl, Ym, Yn, Yo, Yp, Yq, Yr, Ys, Yt, Yu, Yv, Yw, Yx, Yy, Yz, Y10, Y11, Y12, Y13, Y14, Y15, Y16, Y17, Y18, Y19, Y1a, Y1b, Y1c, Y1d, Y1e, Y1f, Y1g, Y1h, Y1i, Y1j, Y1k, Y1l, AV.cells?, Y1n, Y1o, Y1p, Y1q, Y1r, Y1s, Y1t, Nat.reduceAdd, Nat.reduceMul, Y1w, Y1x, Y1y, Y1z, Y20, Y21, Y22, Y23, Y24, Y25, Y26, Y27, Y28, Y29, Y2a, Y2b, lenA_LI]
    simp only [Y0, Y1, Y2, Y3, Y4, Y5, Y6, Y7, Y8, Y9, Ya, Yb, Yc, Yd, Ye, Yf, Yg, Yh, Yi, Yj, Yk, Yl, Ym, Yn, Yo, Yp, Yq, Yr, Ys, Yt, Yu, Yv, Yw, Yx, Yy, Yz, Y10, Y11, Y12, Y13, Y14, Y15, Y16, Y17, Y18, Y19, Y1a, Y1b, Y1c, Y1d, Y1e, Y1f, Y1g, Y1h, Y1i, Y1j, Y1k, Y1l, AV.cells?, Y1n, Y1o, Y1p, Y1q, Y1r, Y1s, Y1t, Nat.reduceAdd, Nat.reduceMul, Y1w, Y1x, Y1y, Y1z, Y20, Y21, Y22, Y23, Y24, Y25, Y26, Y27, Y28, Y29, Y2a, Y2b, show ((0 : Nat) : Int) = 0 from rfl, show binA .add (Z 0) (Z 0) = some (Z 0) from rfl]
  have hg := good_iff.1 hc
  have g1 := hg.pos; have g2 := hg.few; have g3 := hg.wide; have g4 := hg.tells
  have hpos : 0 < t.next.length := by omega
  rw [hc]
  simp only [failA]
  rw [storeN_L (n := 2) (xs := [Z 0, Z (-1)]) rfl rfl]
  simp only [Y0, Y1, Y2, Y3, Y4, Y5, Y6, Y7, Y8, Y9, Ya, Yb, Yc, Yd, Ye, Yf, Yg, Yh, Yi, Yj, Yk, Yl, Ym, Yn, Yo, Yp, Yq, Yr, Ys, Yt, Yu, Yv, Yw, Yx, Yy, Yz, Y10, Y11, Y12, Y13, Y14, Y15, Y16, Y17, Y18, Y19, Y1a, Y1b, Y1c, Y1d, Y1e, Y1f, Y1g, Y1h, Y1i, Y1j, Y1k, Y1l, AV.cells?, Y1n, Y1o, Y1p, Y1q, Y1r, Y1s, Y1t, Nat.reduceAdd, Nat.reduceMul, Y1w, Y1x, Y1y, Y1z, Y20, Y21, Y22, Y23, Y24, Y25, Y26, Y27, Y28, Y29, Y2a, Y2b, put_22, lenA_LI, decide_eq_false h60]
  refine wCall.fx (Part_spec B.b B.part B.part1 t hs a b) fun n2 => ?_
  have hPA : ∃ ev p, PartA t a b = .tup [LI p, Er ev] ∧ p.length < 4611686018427387904 := by
    by_cases hin : 0 ≤ a ∧ a < t.next.length ∧ 0 ≤ b ∧ b < t.next.length
    · rw [PartA_is hc hin]
      by_cases h0 : pk t a.toNat b.toNat = 0
      · rw [if_pos h0]; exact ⟨8, [], rfl, by simp⟩
      · rw [if_neg h0]
        obtain ⟨_, hd, hp⟩ := mk_first (t := t) (a := a.toNat) (b := b.toNat) (by omega) (by omega) (show mk t (finK t) a.toNat b.toNat = pk t a.toNat b.toNat from rfl) (by omega)
        obtain ⟨part, hpl, hpf, _⟩ := part_tells hg (pk t a.toNat b.toNat) a.toNat b.toNat [] (by omega) (by omega) hd hp
        refine ⟨0, _, rfl, ?_⟩
        rw [hpf, List.nil_append, hpl]
        have := mk_le t a.toNat b.toNat (finK t)
        have := (finK_spec hg).1
        unfold pk; omega
    · exact ⟨2, [], by simp only [PartA, hc, if_true]; rw [if_neg hin]; rfl, by simp⟩
  obtain ⟨ev, p, hPe, hpl⟩ := hPA
  have hTA : ∃ ev2 q, TellA t a l = .tup [LI q, Er ev2] ∧ q.length < 1000 := by
    by_cases hto : TellOk t a l
    · exact ⟨0, tellFrom t a l, TellA_ok hc hto, by rw [tellFrom_len]; omega⟩
    · exact ⟨2, [], by simp only [TellA, hc, if_true]; rw [if_neg hto]; rfl, by simp⟩
  obtain ⟨ev2, q, hTe, hql⟩ := hTA
  rw [hPe]
  simp only [Y0, Y1, Y2, Y3, Y4, Y5, Y6, Y7, Y8, Y9, Ya, Yb, Yc, Yd, Ye, Yf, Yg, Yh, Yi, Yj, Yk, Yl, Ym, Yn, Yo, Yp, Yq, Yr, Ys, Yt, Yu, Yv, Yw, Yx, Yy, Yz, Y10, Y11, Y12, Y13, Y14, Y15, Y16, Y17, Y18, Y19, Y1a, Y1b, Y1c, Y1d, Y1e, Y1f, Y1g, Y1h, Y1i, Y1j, Y1k, Y1l, AV.cells?, Y1n, Y1o, Y1p, Y1q, Y1r, Y1s, Y1t, Nat.reduceAdd, Nat.reduceMul, Y1w, Y1x, Y1y, Y1z, Y20, Y21, Y22, Y23, Y24, Y25, Y26, Y27, Y28, Y29, Y2a, Y2b]
  refine wCall.fx (Tell_spec B.b B.tell B.tell1 t hs a l (by omega)) fun n3 => ?_
  rw [hTe]
  simp only [Y0, Y1, Y2, Y3, Y4, Y5, Y6, Y7, Y8, Y9, Ya, Yb, Yc, Yd, Ye, Yf, Yg, Yh, Yi, Yj, Yk, Yl, Ym, Yn, Yo, Yp, Yq, Yr, Ys, Yt, Yu, Yv, Yw, Yx, Yy, Yz, Y10, Y11, Y12, Y13, Y14, Y15, Y16, Y17, Y18, Y19, Y1a, Y1b, Y1c, Y1d, Y1e, Y1f, Y1g, Y1h, Y1i, Y1j, Y1k, Y1l, AV.cells?, Y1n, Y1o, Y1p, Y1q, Y1r, Y1s, Y1t, Nat.reduceAdd, Nat.reduceMul, Y1w, Y1x, Y1y, Y1z, Y20, Y21, Y22, Y23, Y24, Y25, Y26, Y27, Y28, Y29, Y2a, Y2b, show decide ((0 : Int) = 0) = true from rfl, lenA_LLI]
  refine wJoin.two (fun e w H => e = Z ev ∧ w = LI p ∧ ∃ c, H = ⟨[.cells n1 2 [LLI t.next, LLI t.tells], .cells (n1 + 1) 2 [Z 0, Z (-1)]], c⟩) ?_ ?_
  · have hout : ∀ c, ¬ (0 ≤ a ∧ a < t.next.length ∧ 0 ≤ b ∧ b < t.next.length) → gh2 (fun e w H => e = Z ev ∧ w = LI p ∧ ∃ c, H = ⟨[.cells n1 2 [LLI t.next, LLI t.tells], .cells (n1 + 1) 2 [Z 0, Z (-1)]], c⟩) (Z 2) nilS ⟨[.cells n1 2 [LLI t.next, LLI t.tells], .cells (n1 + 1) 2 [Z 0, Z (-1)]], c⟩ := by
      intro c hin
      have h2 : PartA t a b = .tup [LI [], Er 2] := by simp only [PartA, hc, if_true]; rw [if_neg hin]; rfl
      rw [hPe] at h2
      injection h2 with h2
      injection h2 with h3 h2
      injection h2 with h4 _
      have he : ev = 2 := by
        by_cases h0 : ev = 0
        · subst h0; rw [Er_zero, Er_2] at h4; cases h4
        · rw [Er_ne h0, Er_2] at h4
          injection h4 with _ h4; injection h4 with h4; injection h4
      refine gh2.of (ghost_sub (.cons (.refl _) (.one .nil))) ⟨by rw [he], h3.symm, _, rfl⟩
    by_cases d1 : a < 0
    · simp only [Y0, Y1, Y2, Y3, Y4, Y5, Y6, Y7, Y8, Y9, Ya, Yb, Yc, Yd, Ye, Yf, Yg, Yh, Yi, Yj, Yk, Yl, Ym, Yn, Yo, Yp, Yq, Yr, Ys, Yt, Yu, Yv, Yw, Yx, Yy, Yz, Y10, Y11, Y12, Y13, Y14, Y15, Y16, Y17, Y18, Y19, Y1a, Y1b, Y1c, Y1d, Y1e, Y1f, Y1g, Y1h, Y1i, Y1j, Y1k, Y1l, AV.cells?, Y1n, Y1o, Y1p, Y1q, Y1r, Y1s, Y1t, Nat.reduceAdd, Nat.reduceMul, Y1w, Y1x, Y1y, Y1z, Y20, Y21, Y22, Y23, Y24, Y25, Y26, Y27, Y28, Y29, Y2a, Y2b, decide_eq_true d1]
      exact hout _ (by omega)
    simp only [Y0, Y1, Y2, Y3, Y4, Y5, Y6, Y7, Y8, Y9, Ya, Yb, Yc, Yd, Ye, Yf, Yg, Yh, Yi, Yj, Yk, Yl, Ym, Yn, Yo, Yp, Yq, Yr, Ys, Yt, Yu, Yv, Yw, Yx, Yy, Yz, Y10, Y11, Y12, Y13, Y14, Y15, Y16, Y17, Y18, Y19, Y1a, Y1b, Y1c, Y1d, Y1e, Y1f, Y1g, Y1h, Y1i, Y1j, Y1k, Y1l, AV.cells?, Y1n, Y1o, Y1p, Y1q, Y1r, Y1s, Y1t, Nat.reduceAdd, Nat.reduceMul, Y1w, Y1x, Y1y, Y1z, Y20, Y21, Y22, Y23, Y24, Y25, Y26, Y27, Y28, Y29, Y2a, Y2b, decide_eq_false d1]
    by_cases d2 : (t.next.length : Int) ≤ a
    · simp only [Y0, Y1, Y2, Y3, Y4, Y5, Y6, Y7, Y8, Y9, Ya, Yb, Yc, Yd, Ye, Yf, Yg, Yh, Yi, Yj, Yk, Yl, Ym, Yn, Yo, Yp, Yq, Yr, Ys, Yt, Yu, Yv, Yw, Yx, Yy, Yz, Y10, Y11, Y12, Y13, Y14, Y15, Y16, Y17, Y18, Y19, Y1a, Y1b, Y1c, Y1d, Y1e, Y1f, Y1g, Y1h, Y1i, Y1j, Y1k, Y1l, AV.cells?, Y1n, Y1o, Y1p, Y1q, Y1r, Y1s, Y1t, Nat.reduceAdd, Nat.reduceMul, Y1w, Y1x, Y1y, Y1z, Y20, Y21, Y22, Y23, Y24, Y25, Y26, Y27, Y28, Y29, Y2a, Y2b, decide_eq_true d2]
      exact hout _ (by omega)
    simp only [Y0, Y1, Y2, Y3, Y4, Y5, Y6, Y7, Y8, Y9, Ya, Yb, Yc, Yd, Ye, Yf, Yg, Yh, Yi, Yj, Yk, Yl, Ym, Yn, Yo, Yp, Yq, Yr, Ys, Yt, Yu, Yv, Yw, Yx, Yy, Yz, Y10, Y11, Y12, Y13, Y14, Y15, Y16, Y17, Y18, Y19, Y1a, Y1b, Y1c, Y1d, Y1e, Y1f, Y1g, Y1h, Y1i, Y1j, Y1k, Y1l, AV.cells?, Y1n, Y1o, Y1p, Y1q, Y1r, Y1s, Y1t, Nat.reduceAdd, Nat.reduceMul, Y1w, Y1x, Y1y, Y1z, Y20, Y21, Y22, Y23, Y24, Y25, Y26, Y27, Y28, Y29, Y2a, Y2b, decide_eq_false d2]
    by_cases d3 : b < 0
    · simp only [Y0, Y1, Y2, Y3, Y4, Y5, Y6, Y7, Y8, Y9, Ya, Yb, Yc, Yd, Ye, Yf, Yg, Yh, Yi, Yj, Yk, Yl, Ym, Yn, Yo, Yp, Yq, Yr, Ys, Yt, Yu, Yv, Yw, Yx, Yy, Yz, Y10, Y11, Y12, Y13, Y14, Y15, Y16, Y17, Y18, Y19, Y1a, Y1b, Y1c, Y1d, Y1e, Y1f, Y1g, Y1h, Y1i, Y1j, Y1k, Y1l, AV.cells?, Y1n, Y1o, Y1p, Y1q, Y1r, Y1s, Y1t, Nat.reduceAdd, Nat.reduceMul, Y1w, Y1x, Y1y, Y1z, Y20, Y21, Y22, Y23, Y24, Y25, Y26, Y27, Y28, Y29, Y2a, Y2b, decide_eq_true d3]
      exact hout _ (by omega)
    simp only [Y0, Y1, Y2, Y3, Y4, Y5, Y6, Y7, Y8, Y9, Ya, Yb, Yc, Yd, Ye, Yf, Yg, Yh, Yi, Yj, Yk, Yl, Ym, Yn, Yo, Yp, Yq, Yr, Ys, Yt, Yu, Yv, Yw, Yx, Yy, Yz, Y10, Y11, Y12, Y13, Y14, Y15, Y16, Y17, Y18, Y19, Y1a, Y1b, Y1c, Y1d, Y1e, Y1f, Y1g, Y1h, Y1i, Y1j, Y1k, Y1l, AV.cells?, Y1n, Y1o, Y1p, Y1q, Y1r, Y1s, Y1t, Nat.reduceAdd, Nat.reduceMul, Y1w, Y1x, Y1y, Y1z, Y20, Y21, Y22, Y23, Y24, Y25, Y26, Y27, Y28, Y29, Y2a, Y2b, decide_eq_false d3]
    by_cases d4 : (t.next.length : Int) ≤ b
    · simp only [Y0, Y1, Y2, Y3, Y4, Y5, Y6, Y7, Y8, Y9, Ya, Yb, Yc, Yd, Ye, Yf, Yg, Yh, Yi, Yj, Yk, Yl, Ym, Yn, Yo, Yp, Yq, Yr, Ys, Yt, Yu, Yv, Yw, Yx, Yy, Yz, Y10, Y11, Y12, Y13, Y14, Y15, Y16, Y17, Y18, Y19, Y1a, Y1b, Y1c, Y1d, Y1e, Y1f, Y1g, Y1h, Y1i, Y1j, Y1k, Y1l, AV.cells?, Y1n, Y1o, Y1p, Y1q, Y1r, Y1s, Y1t, Nat.reduceAdd, Nat.reduceMul, Y1w, Y1x, Y1y, Y1z, Y20, Y21, Y22, Y23, Y24, Y25, Y26, Y27, Y28, Y29, Y2a, Y2b, decide_eq_true d4]
      exact hout _ (by omega)
    simp only [Y0, Y1, Y2, Y3, Y4, Y5, Y6, Y7, Y8, Y9, Ya, Yb, Yc, Yd, Ye, Yf, Yg, Yh, Yi, Yj, Yk, Yl, Ym, Yn, Yo, Yp, Yq, Yr, Ys, Yt, Yu, Yv, Yw, Yx, Yy, Yz, Y10, Y11, Y12, Y13, Y14, Y15, Y16, Y17, Y18, Y19, Y1a, Y1b, Y1c, Y1d, Y1e, Y1f, Y1g, Y1h, Y1i, Y1j, Y1k, Y1l, AV.cells?, Y1n, Y1o, Y1p, Y1q, Y1r, Y1s, Y1t, Nat.reduceAdd, Nat.reduceMul, Y1w, Y1x, Y1y, Y1z, Y20, Y21, Y22, Y23, Y24, Y25, Y26, Y27, Y28, Y29, Y2a, Y2b, decide_eq_false d4]
    have hin : 0 ≤ a ∧ a < t.next.length ∧ 0 ≤ b ∧ b < t.next.length := by omega
    have ea : ((a.toNat : Nat) : Int) = a := by omega
    have eb : ((b.toNat : Nat) : Int) = b := by omega
    have hP2 := PartA_is hc hin
    have hrp := rPart_spec B.apart B.rPart t hg a.toNat b.toNat (by omega) (by omega)
    rw [ea, eb] at hrp
    rw [hPe] at hP2
    refine wCall.fx hrp fun n4 => ?_
    unfold rPartA
    by_cases h0 : pk t a.toNat b.toNat = 0
    · rw [if_pos h0] at hP2 ⊢
      simp only [Y0, Y1, Y2, Y3, Y4, Y5, Y6, Y7, Y8, Y9, Ya, Yb, Yc, Yd, Ye, Yf, Yg, Yh, Yi, Yj, Yk, Yl, Ym, Yn, Yo, Yp, Yq, Yr, Ys, Yt, Yu, Yv, Yw, Yx, Yy, Yz, Y10, Y11, Y12, Y13, Y14, Y15, Y16, Y17, Y18, Y19, Y1a, Y1b, Y1c, Y1d, Y1e, Y1f, Y1g, Y1h, Y1i, Y1j, Y1k, Y1l, AV.cells?, Y1n, Y1o, Y1p, Y1q, Y1r, Y1s, Y1t, Nat.reduceAdd, Nat.reduceMul, Y1w, Y1x, Y1y, Y1z, Y20, Y21, Y22, Y23, Y24, Y25, Y26, Y27, Y28, Y29, Y2a, Y2b]
      injection hP2 with h2
      injection h2 with h3 h2
      injection h2 with h4 _
      have he : ev = 8 := by
        by_cases h0 : ev = 0
        · subst h0; rw [Er_zero] at h4; cases h4
        · rw [Er_ne h0] at h4
          injection h4 with _ h4; injection h4 with h4; injection h4
      exact gh2.mk ⟨by rw [he], h3.symm, _, rfl⟩
    · rw [if_neg h0] at hP2 ⊢
      simp only [Y0, Y1, Y2, Y3, Y4, Y5, Y6, Y7, Y8, Y9, Ya, Yb, Yc, Yd, Ye, Yf, Yg, Yh, Yi, Yj, Yk, Yl, Ym, Yn, Yo, Yp, Yq, Yr, Ys, Yt, Yu, Yv, Yw, Yx, Yy, Yz, Y10, Y11, Y12, Y13, Y14, Y15, Y16, Y17, Y18, Y19, Y1a, Y1b, Y1c, Y1d, Y1e, Y1f, Y1g, Y1h, Y1i, Y1j, Y1k, Y1l, AV.cells?, Y1n, Y1o, Y1p, Y1q, Y1r, Y1s, Y1t, Nat.reduceAdd, Nat.reduceMul, Y1w, Y1x, Y1y, Y1z, Y20, Y21, Y22, Y23, Y24, Y25, Y26, Y27, Y28, Y29, Y2a, Y2b]
      injection hP2 with h2
      injection h2 with h3 h2
      injection h2 with h4 _
      have he : ev = 0 := by
        by_cases h0 : ev = 0
        · exact h0
        · rw [Er_ne h0] at h4; cases h4
      exact gh2.mk ⟨by rw [he], h3.symm, _, rfl⟩
  rintro e w H ⟨rfl, rfl, c, rfl⟩
  refine wCall.fx (bare_spec B.t.p B.t.at_ B.t.bare B.bare ev ev) fun n5 => ?_
  simp only [Y0, Y1, Y2, Y3, Y4, Y5, Y6, Y7, Y8, Y9, Ya, Yb, Yc, Yd, Ye, Yf, Yg, Yh, Yi, Yj, Yk, Yl, Ym, Yn, Yo, Yp, Yq, Yr, Ys, Yt, Yu, Yv, Yw, Yx, Yy, Yz, Y10, Y11, Y12, Y13, Y14, Y15, Y16, Y17, Y18, Y19, Y1a, Y1b, Y1c, Y1d, Y1e, Y1f, Y1g, Y1h, Y1i, Y1j, Y1k, Y1l, AV.cells?, Y1n, Y1o, Y1p, Y1q, Y1r, Y1s, Y1t, Nat.reduceAdd, Nat.reduceMul, Y1w, Y1x, Y1y, Y1z, Y20, Y21, Y22, Y23, Y24, Y25, Y26, Y27, Y28, Y29, Y2a, Y2b]
  refine wCall.fx (lawInts_spec B.t.sameInts p p hpl) fun n6 => ?_
  simp only [Y0, Y1, Y2, Y3, Y4, Y5, Y6, Y7, Y8, Y9, Ya, Yb, Yc, Yd, Ye, Yf, Yg, Yh, Yi, Yj, Yk, Yl, Ym, Yn, Yo, Yp, Yq, Yr, Ys, Yt, Yu, Yv, Yw, Yx, Yy, Yz, Y10, Y11, Y12, Y13, Y14, Y15, Y16, Y17, Y18, Y19, Y1a, Y1b, Y1c, Y1d, Y1e, Y1f, Y1g, Y1h, Y1i, Y1j, Y1k, Y1l, AV.cells?, Y1n, Y1o, Y1p, Y1q, Y1r, Y1s, Y1t, Nat.reduceAdd, Nat.reduceMul, Y1w, Y1x, Y1y, Y1z, Y20, Y21, Y22, Y23, Y24, Y25, Y26, Y27, Y28, Y29, Y2a, Y2b]
  refine wJoin.one (fun e H => (e = Z 2 ∧ (a < 0 ∨ (t.next.length : Int) ≤ a) ∨ e = Z 0 ∧ 0 ≤ a ∧ a < t.next.length) ∧ ∃ c, H = ⟨[.cells n1 2 [LLI t.next, LLI t.tells], .cells (n1 + 1) 2 [Z 0, Z (-1)]], c⟩) ?_ ?_
  · by_cases d1 : a < 0
    · simp only [Y0, Y1, Y2, Y3, Y4, Y5, Y6, Y7, Y8, Y9, Ya, Yb, Yc, Yd, Ye, Yf, Yg, Yh, Yi, Yj, Yk, Yl, Ym, Yn, Yo, Yp, Yq, Yr, Ys, Yt, Yu, Yv, Yw, Yx, Yy, Yz, Y10, Y11, Y12, Y13, Y14, Y15, Y16, Y17, Y18, Y19, Y1a, Y1b, Y1c, Y1d, Y1e, Y1f, Y1g, Y1h, Y1i, Y1j, Y1k, Y1l, AV.cells?, Y1n, Y1o, Y1p, Y1q, Y1r, Y1s, Y1t, Nat.reduceAdd, Nat.reduceMul, Y1w, Y1x, Y1y, Y1z, Y20, Y21, Y22, Y23, Y24, Y25, Y26, Y27, Y28, Y29, Y2a, Y2b, decide_eq_true d1]
      exact gh1.mk ⟨.inl ⟨rfl, .inl d1⟩, _, rfl⟩
    simp only [Y0, Y1, Y2, Y3, Y4, Y5, Y6, Y7, Y8, Y9, Ya, Yb, Yc, Yd, Ye, Yf, Yg, Yh, Yi, Yj, Yk, Yl, Ym, Yn, Yo, Yp, Yq, Yr, Ys, Yt, Yu, Yv, Yw, Yx, Yy, Yz, Y10, Y11, Y12, Y13, Y14, Y15, Y16, Y17, Y18, Y19, Y1a, Y1b, Y1c, Y1d, Y1e, Y1f, Y1g, Y1h, Y1i, Y1j, Y1k, Y1l, AV.cells?, Y1n, Y1o, Y1p, Y1q, Y1r, Y1s, Y1t, Nat.reduceAdd, Nat.reduceMul, Y1w, Y1x, Y1y, Y1z, Y20, Y21, Y22, Y23, Y24, Y25, Y26, Y27, Y28, Y29, Y2a, Y2b, decide_eq_false d1]
    by_cases d2 : (t.next.length : Int) ≤ a
    · simp only [Y0, Y1, Y2, Y3, Y4, Y5, Y6, Y7, Y8, Y9, Ya, Yb, Yc, Yd, Ye, Yf, Yg, Yh, Yi, Yj, Yk, Yl, Ym, Yn, Yo, Yp, Yq, Yr, Ys, Yt, Yu, Yv, Yw, Yx, Yy, Yz, Y10, Y11, Y12, Y13, Y14, Y15, Y16, Y17, Y18, Y19, Y1a, Y1b, Y1c, Y1d, Y1e, Y1f, Y1g, Y1h, Y1i, Y1j, Y1k, Y1l, AV.cells?, Y1n, Y1o, Y1p, Y1q, Y1r, Y1s, Y1t, Nat.reduceAdd, Nat.reduceMul, Y1w, Y1x, Y1y, Y1z, Y20, Y21, Y22, Y23, Y24, Y25, Y26, Y27, Y28, Y29, Y2a, Y2b, decide_eq_true d2]
      exact gh1.mk ⟨.inl ⟨rfl, .inr d2⟩, _, rfl⟩
    simp only [Y0, Y1, Y2, Y3, Y4, Y5, Y6, Y7, Y8, Y9, Ya, Yb, Yc, Yd, Ye, Yf, Yg, Yh, Yi, Yj, Yk, Yl, Ym, Yn, Yo, Yp, Yq, Yr, Ys, Yt, Yu, Yv, Yw, Yx, Yy, Yz, Y10, Y11, Y12, Y13, Y14, Y15, Y16, Y17, Y18, Y19, Y1a, Y1b, Y1c, Y1d, Y1e, Y1f, Y1g, Y1h, Y1i, Y1j, Y1k, Y1l, AV.cells?, Y1n, Y1o, Y1p, Y1q, Y1r, Y1s, Y1t, Nat.reduceAdd, Nat.reduceMul, Y1w, Y1x, Y1y, Y1z, Y20, Y21, Y22, Y23, Y24, Y25, Y26, Y27, Y28, Y29, Y2a, Y2b, decide_eq_false d2]
    exact gh1.mk ⟨.inr ⟨rfl, by omega, by omega⟩, _, rfl⟩
  rintro e H ⟨he, c, rfl⟩
  have hbad : ¬ TellOk t a l → ev2 = 2 ∧ q = [] := fun hto => by
    have h2 : TellA t a l = .tup [LI [], Er 2] := by simp only [TellA, hc, if_true]; rw [if_neg hto]; rfl
    rw [hTe] at h2
    injection h2 with h2
    injection h2 with h3 h2
    injection h2 with h4 _
    constructor
    · by_cases h0 : ev2 = 0
      · subst h0; rw [Er_zero, Er_2] at h4; cases h4
      · rw [Er_ne h0, Er_2] at h4
        injection h4 with _ h4; injection h4 with h4; injection h4
    · unfold LI Lm at h3
      injection h3 with _ h3
      simpa using h3
  refine wJoin.two (fun e w H => e = Z ev2 ∧ w = LI q) ?_ ?_
  case refine_2 =>
    rintro e w H ⟨rfl, rfl⟩
    refine wCall.fx (bare_spec B.t.p B.t.at_ B.t.bare B.bare ev2 ev2) fun n7 => ?_
    simp only [Y0, Y1, Y2, Y3, Y4, Y5, Y6, Y7, Y8, Y9, Ya, Yb, Yc, Yd, Ye, Yf, Yg, Yh, Yi, Yj, Yk, Yl, Ym, Yn, Yo, Yp, Yq, Yr, Ys, Yt, Yu, Yv, Yw, Yx, Yy, Yz, Y10, Y11, Y12, Y13, Y14, Y15, Y16, Y17, Y18, Y19, Y1a, Y1b, Y1c, Y1d, Y1e, Y1f, Y1g, Y1h, Y1i, Y1j, Y1k, Y1l, AV.cells?, Y1n, Y1o, Y1p, Y1q, Y1r, Y1s, Y1t, Nat.reduceAdd, Nat.reduceMul, Y1w, Y1x, Y1y, Y1z, Y20, Y21, Y22, Y23, Y24, Y25, Y26, Y27, Y28, Y29, Y2a, Y2b]
    refine wCall.fx (lawInts_spec B.t.sameInts q q (by omega)) fun n8 => ?_
    simp only [Y0, Y1, Y2, Y3, Y4, Y5, Y6, Y7, Y8, Y9, Ya, Yb, Yc, Yd, Ye, Yf, Yg, Yh, Yi, Yj, Yk, Yl, Ym, Yn, Yo, Yp, Yq, Yr, Ys, Yt, Yu, Yv, Yw, Yx, Yy, Yz, Y10, Y11, Y12, Y13, Y14, Y15, Y16, Y17, Y18, Y19, Y1a, Y1b, Y1c, Y1d, Y1e, Y1f, Y1g, Y1h, Y1i, Y1j, Y1k, Y1l, AV.cells?, Y1n, Y1o, Y1p, Y1q, Y1r, Y1s, Y1t, Nat.reduceAdd, Nat.reduceMul, Y1w, Y1x, Y1y, Y1z, Y20, Y21, Y22, Y23, Y24, Y25, Y26, Y27, Y28, Y29, Y2a, Y2b]
  refine wLoop.four (fun m x w i s H => ∃ (pre rest : List Int) (z : Blk) (c : Nat), l = pre ++ rest ∧ m = rest.length ∧ i = Z pre.length ∧ x = e ∧ H = ⟨[.cells n1 2 [LLI t.next, LLI t.tells], .cells (n1 + 1) 2 [Z 0, Z (-1)], z], c⟩ ∧
      ((e = Z 2 ∧ (a < 0 ∨ (t.next.length : Int) ≤ a) ∧ w = nilS) ∨ (e = Z 0 ∧ 0 ≤ a ∧ a < t.next.length ∧ (∀ i ∈ pre, 0 ≤ i ∧ i < (row t.next 0).length) ∧ s = Z (goTo t a pre) ∧ (0 ≤ goTo t a pre ∧ goTo t a pre < t.next.length) ∧ Gr 1 z 2 w ((tellFrom t a pre).map fun z => Z z) pre.length))) l.length
    (gh4.of (ghost_room [.dead] (by simp)) ⟨[], l, .dead, c, rfl, rfl, rfl, rfl, rfl, ?_⟩) ?_
  · rcases he with ⟨rfl, h⟩ | ⟨rfl, h⟩
    · exact .inl ⟨rfl, h, rfl⟩
    · exact .inr ⟨rfl, h.1, h.2, by simp, by simp [goTo], by simpa [goTo] using h, .nil⟩
  rintro m x w i s H ⟨pre, rest, z, c2, hle, rfl, rfl, rfl, rfl, hst⟩
  rcases hst with ⟨rfl, hr, rfl⟩ | ⟨rfl, ha0, ha1, hin, rfl, hgo, hw⟩
  · have hto : ¬ TellOk t a l := fun h => by have := h.1; have := h.2.1; omega
    obtain ⟨rfl, rfl⟩ := hbad hto
    have fin : ∀ c, gh2 (fun e w (H : AH) => e = Z 2 ∧ w = LI []) (Z 2) nilS ⟨[.cells n1 2 [LLI t.next, LLI t.tells], .cells (n1 + 1) 2 [Z 0, Z (-1)], z], c⟩ := fun c => gh2.of (ghost_sub (.cons (.refl _) (.one .nil))) ⟨rfl, rfl⟩
    by_cases hlt : (pre.length : Int) < (l.length : Int)
    · simp only [Y0, Y1, Y2, Y3, Y4, Y5, Y6, Y7, Y8, Y9, Ya, Yb, Yc, Yd, Ye, Yf, Yg, Yh, Yi, Yj, Yk, Yl, Ym, Yn, Yo, Yp, Yq, Yr, Ys, Yt, Yu, Yv, Yw, Yx, Yy, Yz, Y10, Y11, Y12, Y13, Y14, Y15, Y16, Y17, Y18, Y19, Y1a, Y1b, Y1c, Y1d, Y1e, Y1f, Y1g, Y1h, Y1i, Y1j, Y1k, Y1l, AV.cells?, Y1n, Y1o, Y1p, Y1q, Y1r, Y1s, Y1t, Nat.reduceAdd, Nat.reduceMul, Y1w, Y1x, Y1y, Y1z, Y20, Y21, Y22, Y23, Y24, Y25, Y26, Y27, Y28, Y29, Y2a, Y2b, lenA_LI, decide_eq_true hlt, show decide ((2 : Int) = 0) = false from rfl]
      exact fin _
    · simp only [Y0, Y1, Y2, Y3, Y4, Y5, Y6, Y7, Y8, Y9, Ya, Yb, Yc, Yd, Ye, Yf, Yg, Yh, Yi, Yj, Yk, Yl, Ym, Yn, Yo, Yp, Yq, Yr, Ys, Yt, Yu, Yv, Yw, Yx, Yy, Yz, Y10, Y11, Y12, Y13, Y14, Y15, Y16, Y17, Y18, Y19, Y1a, Y1b, Y1c, Y1d, Y1e, Y1f, Y1g, Y1h, Y1i, Y1j, Y1k, Y1l, AV.cells?, Y1n, Y1o, Y1p, Y1q, Y1r, Y1s, Y1t, Nat.reduceAdd, Nat.reduceMul, Y1w, Y1x, Y1y, Y1z, Y20, Y21, Y22, Y23, Y24, Y25, Y26, Y27, Y28, Y29, Y2a, Y2b, lenA_LI, decide_eq_false hlt]
      exact fin _
  cases rest with
  | nil =>
    rw [List.append_nil] at hle
    subst hle
    simp only [Y0, Y1, Y2, Y3, Y4, Y5, Y6, Y7, Y8, Y9, Ya, Yb, Yc, Yd, Ye, Yf, Yg, Yh, Yi, Yj, Yk, Yl, Ym, Yn, Yo, Yp, Yq, Yr, Ys, Yt, Yu, Yv, Yw, Yx, Yy, Yz, Y10, Y11, Y12, Y13, Y14, Y15, Y16, Y17, Y18, Y19, Y1a, Y1b, Y1c, Y1d, Y1e, Y1f, Y1g, Y1h, Y1i, Y1j, Y1k, Y1l, AV.cells?, Y1n, Y1o, Y1p, Y1q, Y1r, Y1s, Y1t, Nat.reduceAdd, Nat.reduceMul, Y1w, Y1x, Y1y, Y1z, Y20, Y21, Y22, Y23, Y24, Y25, Y26, Y27, Y28, Y29, Y2a, Y2b, lenA_LI, Int.lt_irrefl]
    have hto : TellOk t a l := ⟨ha0, ha1, hin⟩
    have h2 := TellA_ok hc hto
    rw [hTe] at h2
    injection h2 with h2
    injection h2 with h3 h2
    injection h2 with h4 _
    have he2 : ev2 = 0 := by
      by_cases h0 : ev2 = 0
      · exact h0
      · rw [Er_ne h0] at h4; cases h4
    refine gh2.of (ghost_sub (.cons (.refl _) (.one ?_))) ⟨by rw [he2], rfl⟩
    rw [h3]
    have := hw.sub
    unfold LI Lm
    rw [tellFrom_len]
    exact this
  | cons y rest =>
    subst hle
    simp only [Y0, Y1, Y2, Y3, Y4, Y5, Y6, Y7, Y8, Y9, Ya, Yb, Yc, Yd, Ye, Yf, Yg, Yh, Yi, Yj, Yk, Yl, Ym, Yn, Yo, Yp, Yq, Yr, Ys, Yt, Yu, Yv, Yw, Yx, Yy, Yz, Y10, Y11, Y12, Y13, Y14, Y15, Y16, Y17, Y18, Y19, Y1a, Y1b, Y1c, Y1d, Y1e, Y1f, Y1g, Y1h, Y1i, Y1j, Y1k, Y1l, AV.cells?, Y1n, Y1o, Y1p, Y1q, Y1r, Y1s, Y1t, Nat.reduceAdd, Nat.reduceMul, Y1w, Y1x, Y1y, Y1z, Y20, Y21, Y22, Y23, Y24, Y25, Y26, Y27, Y28, Y29, Y2a, Y2b, lenA_LI, decide_eq_true (show (pre.length : Int) < ((pre ++ y :: rest).length : Int) by simp; omega), show decide ((0 : Int) = 0) = true from rfl]
    rw [iaddr_LI lt_mid]
    simp only [Y0, Y1, Y2, Y3, Y4, Y5, Y6, Y7, Y8, Y9, Ya, Yb, Yc, Yd, Ye, Yf, Yg, Yh, Yi, Yj, Yk, Yl, Ym, Yn, Yo, Yp, Yq, Yr, Ys, Yt, Yu, Yv, Yw, Yx, Yy, Yz, Y10, Y11, Y12, Y13, Y14, Y15, Y16, Y17, Y18, Y19, Y1a, Y1b, Y1c, Y1d, Y1e, Y1f, Y1g, Y1h, Y1i, Y1j, Y1k, Y1l, AV.cells?, Y1n, Y1o, Y1p, Y1q, Y1r, Y1s, Y1t, Nat.reduceAdd, Nat.reduceMul, Y1w, Y1x, Y1y, Y1z, Y20, Y21, Y22, Y23, Y24, Y25, Y26, Y27, Y28, Y29, Y2a, Y2b, at_mid]
    have hr1 := hg.rows (goTo t a pre).toNat (by omega)
    have hout : ∀ c, ¬ (0 ≤ y ∧ y < (row t.next 0).length) → gh2 (fun e w (H : AH) => e = Z ev2 ∧ w = LI q) (Z 2) nilS ⟨[.cells n1 2 [LLI t.next, LLI t.tells], .cells (n1 + 1) 2 [Z 0, Z (-1)], z], c⟩ := fun c hy => by
      have hto : ¬ TellOk t a (pre ++ y :: rest) := fun h => hy (h.2.2 y (by simp))
      obtain ⟨rfl, rfl⟩ := hbad hto
      exact gh2.of (ghost_sub (.cons (.refl _) (.one .nil))) ⟨rfl, rfl⟩
    by_cases d1 : y < 0
    · simp only [Y0, Y1, Y2, Y3, Y4, Y5, Y6, Y7, Y8, Y9, Ya, Yb, Yc, Yd, Ye, Yf, Yg, Yh, Yi, Yj, Yk, Yl, Ym, Yn, Yo, Yp, Yq, Yr, Ys, Yt, Yu, Yv, Yw, Yx, Yy, Yz, Y10, Y11, Y12, Y13, Y14, Y15, Y16, Y17, Y18, Y19, Y1a, Y1b, Y1c, Y1d, Y1e, Y1f, Y1g, Y1h, Y1i, Y1j, Y1k, Y1l, AV.cells?, Y1n, Y1o, Y1p, Y1q, Y1r, Y1s, Y1t, Nat.reduceAdd, Nat.reduceMul, Y1w, Y1x, Y1y, Y1z, Y20, Y21, Y22, Y23, Y24, Y25, Y26, Y27, Y28, Y29, Y2a, Y2b, decide_eq_true d1]
      exact hout _ (by omega)
    simp only [Y0, Y1, Y2, Y3, Y4, Y5, Y6, Y7, Y8, Y9, Ya, Yb, Yc, Yd, Ye, Yf, Yg, Yh, Yi, Yj, Yk, Yl, Ym, Yn, Yo, Yp, Yq, Yr, Ys, Yt, Yu, Yv, Yw, Yx, Yy, Yz, Y10, Y11, Y12, Y13, Y14, Y15, Y16, Y17, Y18, Y19, Y1a, Y1b, Y1c, Y1d, Y1e, Y1f, Y1g, Y1h, Y1i, Y1j, Y1k, Y1l, AV.cells?, Y1n, Y1o, Y1p, Y1q, Y1r, Y1s, Y1t, Nat.reduceAdd, Nat.reduceMul, Y1w, Y1x, Y1y, Y1z, Y20, Y21, Y22, Y23, Y24, Y25, Y26, Y27, Y28, Y29, Y2a, Y2b, decide_eq_false d1]
    rw [iaddr_LI lt_mid]
    simp only [Y0, Y1, Y2, Y3, Y4, Y5, Y6, Y7, Y8, Y9, Ya, Yb, Yc, Yd, Ye, Yf, Yg, Yh, Yi, Yj, Yk, Yl, Ym, Yn, Yo, Yp, Yq, Yr, Ys, Yt, Yu, Yv, Yw, Yx, Yy, Yz, Y10, Y11, Y12, Y13, Y14, Y15, Y16, Y17, Y18, Y19, Y1a, Y1b, Y1c, Y1d, Y1e, Y1f, Y1g, Y1h, Y1i, Y1j, Y1k, Y1l, AV.cells?, Y1n, Y1o, Y1p, Y1q, Y1r, Y1s, Y1t, Nat.reduceAdd, Nat.reduceMul, Y1w, Y1x, Y1y, Y1z, Y20, Y21, Y22, Y23, Y24, Y25, Y26, Y27, Y28, Y29, Y2a, Y2b, at_mid, iaddr_LLI0 hpos, row_get hpos, lenA_LI]
    by_cases d2 : ((row t.next 0).length : Int) ≤ y
    · simp only [Y0, Y1, Y2, Y3, Y4, Y5, Y6, Y7, Y8, Y9, Ya, Yb, Yc, Yd, Ye, Yf, Yg, Yh, Yi, Yj, Yk, Yl, Ym, Yn, Yo, Yp, Yq, Yr, Ys, Yt, Yu, Yv, Yw, Yx, Yy, Yz, Y10, Y11, Y12, Y13, Y14, Y15, Y16, Y17, Y18, Y19, Y1a, Y1b, Y1c, Y1d, Y1e, Y1f, Y1g, Y1h, Y1i, Y1j, Y1k, Y1l, AV.cells?, Y1n, Y1o, Y1p, Y1q, Y1r, Y1s, Y1t, Nat.reduceAdd, Nat.reduceMul, Y1w, Y1x, Y1y, Y1z, Y20, Y21, Y22, Y23, Y24, Y25, Y26, Y27, Y28, Y29, Y2a, Y2b, decide_eq_true d2]
      exact hout _ (by omega)
    simp only [Y0, Y1, Y2, Y3, Y4, Y5, Y6, Y7, Y8, Y9, Ya, Yb, Yc, Yd, Ye, Yf, Yg, Yh, Yi, Yj, Yk, Yl, Ym, Yn, Yo, Yp, Yq, Yr, Ys, Yt, Yu, Yv, Yw, Yx, Yy, Yz, Y10, Y11, Y12, Y13, Y14, Y15, Y16, Y17, Y18, Y19, Y1a, Y1b, Y1c, Y1d, Y1e, Y1f, Y1g, Y1h, Y1i, Y1j, Y1k, Y1l, AV.cells?, Y1n, Y1o, Y1p, Y1q, Y1r, Y1s, Y1t, Nat.reduceAdd, Nat.reduceMul, Y1w, Y1x, Y1y, Y1z, Y20, Y21, Y22, Y23, Y24, Y25, Y26, Y27, Y28, Y29, Y2a, Y2b, decide_eq_false d2]
    rw [iaddr_LLIz hgo.1 (by omega)]
    simp only [Y0, Y1, Y2, Y3, Y4, Y5, Y6, Y7, Y8, Y9, Ya, Yb, Yc, Yd, Ye, Yf, Yg, Yh, Yi, Yj, Yk, Yl, Ym, Yn, Yo, Yp, Yq, Yr, Ys, Yt, Yu, Yv, Yw, Yx, Yy, Yz, Y10, Y11, Y12, Y13, Y14, Y15, Y16, Y17, Y18, Y19, Y1a, Y1b, Y1c, Y1d, Y1e, Y1f, Y1g, Y1h, Y1i, Y1j, Y1k, Y1l, AV.cells?, Y1n, Y1o, Y1p, Y1q, Y1r, Y1s, Y1t, Nat.reduceAdd, Nat.reduceMul, Y1w, Y1x, Y1y, Y1z, Y20, Y21, Y22, Y23, Y24, Y25, Y26, Y27, Y28, Y29, Y2a, Y2b, row_get (show (goTo t a pre).toNat < t.tells.length by omega)]
    rw [iaddr_LIz (by omega) (by omega)]
    simp only [Y0, Y1, Y2, Y3, Y4, Y5, Y6, Y7, Y8, Y9, Ya, Yb, Yc, Yd, Ye, Yf, Yg, Yh, Yi, Yj, Yk, Yl, Ym, Yn, Yo, Yp, Yq, Yr, Ys, Yt, Yu, Yv, Yw, Yx, Yy, Yz, Y10, Y11, Y12, Y13, Y14, Y15, Y16, Y17, Y18, Y19, Y1a, Y1b, Y1c, Y1d, Y1e, Y1f, Y1g, Y1h, Y1i, Y1j, Y1k, Y1l, AV.cells?, Y1n, Y1o, Y1p, Y1q, Y1r, Y1s, Y1t, Nat.reduceAdd, Nat.reduceMul, Y1w, Y1x, Y1y, Y1z, Y20, Y21, Y22, Y23, Y24, Y25, Y26, Y27, Y28, Y29, Y2a, Y2b, cell_at (show y.toNat < (row t.tells (goTo t a pre).toNat).length by omega)]
    refine wNewS.F' (l := [Z (cell (row t.tells (goTo t a pre).toNat) y.toNat)]) rfl rfl ?_
    have hpl2 : pre.length < 100 := by simp at hl60; omega
    refine wApp.one (bytes := 8) hw rfl (by simp [tellFrom_len]) (.refl _) rfl (by simp [mostBytes]; omega) fun z' x' c' hg' => ?_
    simp only [Y0, Y1, Y2, Y3, Y4, Y5, Y6, Y7, Y8, Y9, Ya, Yb, Yc, Yd, Ye, Yf, Yg, Yh, Yi, Yj, Yk, Yl, Ym, Yn, Yo, Yp, Yq, Yr, Ys, Yt, Yu, Yv, Yw, Yx, Yy, Yz, Y10, Y11, Y12, Y13, Y14, Y15, Y16, Y17, Y18, Y19, Y1a, Y1b, Y1c, Y1d, Y1e, Y1f, Y1g, Y1h, Y1i, Y1j, Y1k, Y1l, AV.cells?, Y1n, Y1o, Y1p, Y1q, Y1r, Y1s, Y1t, Nat.reduceAdd, Nat.reduceMul, Y1w, Y1x, Y1y, Y1z, Y20, Y21, Y22, Y23, Y24, Y25, Y26, Y27, Y28, Y29, Y2a, Y2b]
    rw [iaddr_LLIz hgo.1 (by omega)]
    simp only [Y0, Y1, Y2, Y3, Y4, Y5, Y6, Y7, Y8, Y9, Ya, Yb, Yc, Yd, Ye, Yf, Yg, Yh, Yi, Yj, Yk, Yl, Ym, Yn, Yo, Yp, Yq, Yr, Ys, Yt, Yu, Yv, Yw, Yx, Yy, Yz, Y10, Y11, Y12, Y13, Y14, Y15, Y16, Y17, Y18, Y19, Y1a, Y1b, Y1c, Y1d, Y1e, Y1f, Y1g, Y1h, Y1i, Y1j, Y1k, Y1l, AV.cells?, Y1n, Y1o, Y1p, Y1q, Y1r, Y1s, Y1t, Nat.reduceAdd, Nat.reduceMul, Y1w, Y1x, Y1y, Y1z, Y20, Y21, Y22, Y23, Y24, Y25, Y26, Y27, Y28, Y29, Y2a, Y2b, row_get (show (goTo t a pre).toNat < t.next.length by omega)]
    rw [iaddr_LIz (by omega) (by omega)]
    simp only [Y0, Y1, Y2, Y3, Y4, Y5, Y6, Y7, Y8, Y9, Ya, Yb, Yc, Yd, Ye, Yf, Yg, Yh, Yi, Yj, Yk, Yl, Ym, Yn, Yo, Yp, Yq, Yr, Ys, Yt, Yu, Yv, Yw, Yx, Yy, Yz, Y10, Y11, Y12, Y13, Y14, Y15, Y16, Y17, Y18, Y19, Y1a, Y1b, Y1c, Y1d, Y1e, Y1f, Y1g, Y1h, Y1i, Y1j, Y1k, Y1l, AV.cells?, Y1n, Y1o, Y1p, Y1q, Y1r, Y1s, Y1t, Nat.reduceAdd, Nat.reduceMul, Y1w, Y1x, Y1y, Y1z, Y20, Y21, Y22, Y23, Y24, Y25, Y26, Y27, Y28, Y29, Y2a, Y2b, cell_at (show y.toNat < (row t.next (goTo t a pre).toNat).length by omega)]
    rw [binA_succ (by omega)]
    simp only [Y0, Y1, Y2, Y3, Y4, Y5, Y6, Y7, Y8, Y9, Ya, Yb, Yc, Yd, Ye, Yf, Yg, Yh, Yi, Yj, Yk, Yl, Ym, Yn, Yo, Yp, Yq, Yr, Ys, Yt, Yu, Yv, Yw, Yx, Yy, Yz, Y10, Y11, Y12, Y13, Y14, Y15, Y16, Y17, Y18, Y19, Y1a, Y1b, Y1c, Y1d, Y1e, Y1f, Y1g, Y1h, Y1i, Y1j, Y1k, Y1l, AV.cells?, Y1n, Y1o, Y1p, Y1q, Y1r, Y1s, Y1t, Nat.reduceAdd, Nat.reduceMul, Y1w, Y1x, Y1y, Y1z, Y20, Y21, Y22, Y23, Y24, Y25, Y26, Y27, Y28, Y29, Y2a, Y2b]
    have hgo2 : goTo t a (pre ++ [y]) = cell (row t.next (goTo t a pre).toNat) y.toNat := goTo_snoc t a pre y
    refine back4.mk rest.length (by simp) ⟨pre ++ [y], rest, z', c', by simp, rfl, by simp, rfl, rfl, .inr ⟨trivial, ha0, ha1, ?_, by rw [hgo2], by rw [hgo2]; exact hg.next_in (by omega) (by omega), ?_⟩⟩
    · intro i hi
      rcases List.mem_append.1 hi with hi | hi
      · exact hin i hi
      · simp at hi; subst hi; omega
    · rw [tellFrom_snoc]
      simpa [goTo] using hg'
end
end Go.Sc
