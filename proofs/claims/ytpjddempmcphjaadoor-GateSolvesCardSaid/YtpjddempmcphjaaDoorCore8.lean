/- CONTRACTS: package gate: search, Check, Solve; the reference's GateCheck. A CONTRACT OUT OF A WALK OF THE KIT's OWN: a call that leaves all old memory as it was, and answers without memory. CONTRACTS: errors taken apart: plain.Place. CONTRACTS: bare. (of the seat YtpjddempmcphjaaDoor) -/
import Derived.Test.YtpjddempmcphjaaDoorCore7
namespace Go.Sc
open Go
set_option linter.unusedSimpArgs false
set_option linter.unusedVariables false
set_option linter.unnecessarySimpa false

section
variable {E : Env} {P : Program} {ga gs V : Nat} {all : List (List Int)}
theorem IndexI_spec (hB : Body2 E P 110 F.slices_Index_Lint_int) (l : List Int) (s : Int) (hl : l.length < 1099511627776) : FX E P 110 [LI l, Z s] (Z (idx l s)) := by
  refine FX.of' ⟨LI_closed l, trivial, trivial⟩ trivial fun n R hR => hB _ _ _ _ ?_
  unfold F.slices_Index_Lint_int LI Lm
  simp only [Y0, Y1, Y2, Y3, Y4, Y5, Y6, Y7, Y8, Y9, Ya, Yb, Yc, Yd, Ye, Yf, Yg, Yh, Yi, Yj, Yk, Yl, Ym, Yn, Yo, Yp, Yq, Yr, Ys, Yt, Yu, Yv, Yw, Yx, Yy, Yz, Y10, Y11, Y12, Y13, Y14, Y15, Y16, Y17, Y18, Y19, Y1a, Y1b, Y1c, Y1d, Y1e, Y1f, Y1g, Y1h, Y1i, Y1j, Y1k, Y1l, AV.cells?, Y1n, Y1o, Y1p, Y1q, Y1r, Y1s, Y1t, Nat.reduceAdd, Nat.reduceMul, Y1w, Y1x, Y1y, Y1z, Y20, Y21, Y22, Y23, Y24, Y25, Y26, Y27, Y28, Y29, Y2a, Y2b]
  refine wLoop.one (fun m t H => ∃ pre rest, l = pre ++ rest ∧ m = rest.length ∧ t = Z pre.length ∧ s ∉ pre) l.length (gh1.mk ⟨[], l, rfl, rfl, rfl, by simp⟩) ?_
  rintro m t H ⟨pre, rest, rfl, rfl, rfl, hs⟩
  cases rest with
  | nil =>
    simp only [Y0, Y1, Y2, Y3, Y4, Y5, Y6, Y7, Y8, Y9, Ya, Yb, Yc, Yd, Ye, Yf, Yg, Yh, Yi, Yj, Yk, Yl, Ym, Yn, Yo, Yp, Yq, Yr, Ys, Yt, Yu, Yv, Yw, Yx, Yy, Yz, Y10, Y11, Y12, Y13, Y14, Y15, Y16, Y17, Y18, Y19, Y1a, Y1b, Y1c, Y1d, Y1e, Y1f, Y1g, Y1h, Y1i, Y1j, Y1k, Y1l, AV.cells?, Y1n, Y1o, Y1p, Y1q, Y1r, Y1s, Y1t, Nat.reduceAdd, Nat.reduceMul, Y1w, Y1x, Y1y, Y1z, Y20, Y21, Y22, Y23, Y24, Y25, Y26, Y27, Y28, Y29, Y2a, Y2b, List.append_nil, Int.lt_irrefl]
    exact hR _ _ (by rw [idx, if_neg (by simpa using hs)])
  | cons x rest =>
    simp only [Y0, Y1, Y2, Y3, Y4, Y5, Y6, Y7, Y8, Y9, Ya, Yb, Yc, Yd, Ye, Yf, Yg, Yh, Yi, Yj, Yk, Yl, Ym, Yn, Yo, Yp, Yq, Yr, Ys, Yt, Yu, Yv, Yw, Yx, Yy, Yz, Y10, Y11, Y12, Y13, Y14, Y15, Y16, Y17, Y18, Y19, Y1a, Y1b, Y1c, Y1d, Y1e, Y1f, Y1g, Y1h, Y1i, Y1j, Y1k, Y1l, AV.cells?, Y1n, Y1o, Y1p, Y1q, Y1r, Y1s, Y1t, Nat.reduceAdd, Nat.reduceMul, Y1w, Y1x, Y1y, Y1z, Y20, Y21, Y22, Y23, Y24, Y25, Y26, Y27, Y28, Y29, Y2a, Y2b, decide_eq_true (show ((pre.length : Int) < ((pre ++ x :: rest).length : Int)) by simp; omega)]
    rw [iaddr_Nn (by simp)]
    simp only [Y0, Y1, Y2, Y3, Y4, Y5, Y6, Y7, Y8, Y9, Ya, Yb, Yc, Yd, Ye, Yf, Yg, Yh, Yi, Yj, Yk, Yl, Ym, Yn, Yo, Yp, Yq, Yr, Ys, Yt, Yu, Yv, Yw, Yx, Yy, Yz, Y10, Y11, Y12, Y13, Y14, Y15, Y16, Y17, Y18, Y19, Y1a, Y1b, Y1c, Y1d, Y1e, Y1f, Y1g, Y1h, Y1i, Y1j, Y1k, Y1l, AV.cells?, Y1n, Y1o, Y1p, Y1q, Y1r, Y1s, Y1t, Nat.reduceAdd, Nat.reduceMul, Y1w, Y1x, Y1y, Y1z, Y20, Y21, Y22, Y23, Y24, Y25, Y26, Y27, Y28, Y29, Y2a, Y2b, at_mid]
    by_cases hx : s = x
    · subst hx
      simp only [Y0, Y1, Y2, Y3, Y4, Y5, Y6, Y7, Y8, Y9, Ya, Yb, Yc, Yd, Ye, Yf, Yg, Yh, Yi, Yj, Yk, Yl, Ym, Yn, Yo, Yp, Yq, Yr, Ys, Yt, Yu, Yv, Yw, Yx, Yy, Yz, Y10, Y11, Y12, Y13, Y14, Y15, Y16, Y17, Y18, Y19, Y1a, Y1b, Y1c, Y1d, Y1e, Y1f, Y1g, Y1h, Y1i, Y1j, Y1k, Y1l, AV.cells?, Y1n, Y1o, Y1p, Y1q, Y1r, Y1s, Y1t, Nat.reduceAdd, Nat.reduceMul, Y1w, Y1x, Y1y, Y1z, Y20, Y21, Y22, Y23, Y24, Y25, Y26, Y27, Y28, Y29, Y2a, Y2b, decide_eq_true (rfl : s = s)]
      exact hR _ _ (by rw [idx_app hs])
    · simp only [Y0, Y1, Y2, Y3, Y4, Y5, Y6, Y7, Y8, Y9, Ya, Yb, Yc, Yd, Ye, Yf, Yg, Yh, Yi, Yj, Yk, Yl, Ym, Yn, Yo, Yp, Yq, Yr, Ys, Yt, Yu, Yv, Yw, Yx, Yy, Yz, Y10, Y11, Y12, Y13, Y14, Y15, Y16, Y17, Y18, Y19, Y1a, Y1b, Y1c, Y1d, Y1e, Y1f, Y1g, Y1h, Y1i, Y1j, Y1k, Y1l, AV.cells?, Y1n, Y1o, Y1p, Y1q, Y1r, Y1s, Y1t, Nat.reduceAdd, Nat.reduceMul, Y1w, Y1x, Y1y, Y1z, Y20, Y21, Y22, Y23, Y24, Y25, Y26, Y27, Y28, Y29, Y2a, Y2b, decide_eq_false hx]
      rw [binA_succ (by simp at hl; omega)]
      simp only [Y0, Y1, Y2, Y3, Y4, Y5, Y6, Y7, Y8, Y9, Ya, Yb, Yc, Yd, Ye, Yf, Yg, Yh, Yi, Yj, Yk, Yl, Ym, Yn, Yo, Yp, Yq, Yr, Ys, Yt, Yu, Yv, Yw, Yx, Yy, Yz, Y10, Y11, Y12, Y13, Y14, Y15, Y16, Y17, Y18, Y19, Y1a, Y1b, Y1c, Y1d, Y1e, Y1f, Y1g, Y1h, Y1i, Y1j, Y1k, Y1l, AV.cells?, Y1n, Y1o, Y1p, Y1q, Y1r, Y1s, Y1t, Nat.reduceAdd, Nat.reduceMul, Y1w, Y1x, Y1y, Y1z, Y20, Y21, Y22, Y23, Y24, Y25, Y26, Y27, Y28, Y29, Y2a, Y2b]
      exact back1.mk rest.length (by simp) ⟨pre ++ [x], rest, by simp, rfl, by simp, by simp [hs, hx]⟩
theorem idxOf_first (x : Int) : ∀ (l : List Int) (i : Nat), i < l.idxOf x → l[i]? ≠ some x
  | [], i, h => by simp
  | y :: l, i, h => by
    by_cases hy : y = x
    · subst hy; simp at h
    · rw [List.idxOf_cons] at h
      have hyb : (y == x) = false := by simpa using hy
      rw [hyb] at h
      cases i with
      | zero => simpa using hy
      | succ i => simpa using idxOf_first x l i (by simpa using h)
theorem first_open {o : List Int} (hs : Sol V o) : (∃ v : Nat, 1 ≤ v ∧ v ≤ V ∧ idx (o.drop 1) 0 + 1 = (v : Int) ∧ cell o v = 0 ∧ ∀ i, 1 ≤ i → i < v → cell o i ≠ 0) ∨ (idx (o.drop 1) 0 + 1 = 0 ∧ ∀ i, 1 ≤ i → i ≤ V → cell o i ≠ 0) := by
  have hl := hs.len
  have hd : ∀ i, i < V → (o.drop 1)[i]? = some (cell o (i + 1)) := fun i hi => by
    rw [List.getElem?_drop]; simp [cell, List.getElem?_eq_getElem (show 1 + i < o.length by omega), show i + 1 = 1 + i by omega]
  by_cases h : (0 : Int) ∈ o.drop 1
  · have hlt := List.idxOf_lt_length_of_mem h
    have hlt' : (o.drop 1).idxOf 0 < V := by simpa [hl] using hlt
    refine .inl ⟨(o.drop 1).idxOf 0 + 1, by omega, by omega, by rw [idx, if_pos h]; omega, ?_, fun i h1 h2 => ?_⟩
    · have := hd _ hlt'
      rw [List.getElem?_eq_getElem hlt, List.getElem_idxOf] at this
      simpa using this.symm
    · intro h0
      have := hd (i - 1) (by omega)
      rw [show i - 1 + 1 = i by omega, h0] at this
      exact idxOf_first 0 _ (i - 1) (by omega) this
  · refine .inr ⟨by rw [idx, if_neg h]; rfl, fun i h1 h2 h0 => h ?_⟩
    have := hd (i - 1) (by omega)
    rw [show i - 1 + 1 = i by omega, h0] at this
    exact List.mem_of_getElem? this
set_option maxHeartbeats 2000000 in
theorem search_spec (B : SolverBodies E P) (hV : V ≤ 1000) (hall : ∀ c ∈ all, ∀ x ∈ c, okLit V x) (hn1 : all.length ≤ 4000) (hn2 : ∀ c ∈ all, c.length ≤ 1000) : ∀ (k : Nat) (of tr : List Int) (st : Int) (H : AH), Sol V of → (∀ t ∈ tr, 1 ≤ t ∧ t ≤ V) → tr.length + opens V of ≤ V → opens V of ≤ k → 0 ≤ st → st + 2 ^ (k + 1) ≤ 20001 → GH ga gs V all of tr st H →
    ACalls E P 105 [.ptrL 1 0 gs] H fun r H' => ∃ st' : Int, st ≤ st' ∧ st' + 1 ≤ st + 2 ^ (k + 1) ∧ ((∃ of' tr', r = .tup [Bo true, nilE] ∧ Sol V of' ∧ SearchT V all of of' ∧ GH ga gs V all of' tr' st' H') ∨ (r = .tup [Bo false, nilE] ∧ SearchF V all of ∧ GH ga gs V all of tr st' H')) := by
  intro k
  induction k using Nat.strongRecOn with
  | ind k ih =>
  intro of tr st H hs htr hb hk hst0 hst hH
  have hp2 : (2 : Int) ^ (k + 1) = 2 ^ k * 2 := Int.pow_succ ..
  have hp : (1 : Int) ≤ 2 ^ k := Int.pow_pos (by decide)
  obtain ⟨xx, tb, c, rfl, ht⟩ := hH
  refine B.search _ _ _ ?_
  unfold F.pgate_solver_search gH
  simp only [Y0, Y1, Y2, Y3, Y4, Y5, Y6, Y7, Y8, Y9, Ya, Yb, Yc, Yd, Ye, Yf, Yg, Yh, Yi, Yj, Yk, Yl, Ym, Yn, Yo, Yp, Yq, Yr, Ys, Yt, Yu, Yv, Yw, Yx, Yy, Yz, Y10, Y11, Y12, Y13, Y14, Y15, Y16, Y17, Y18, Y19, Y1a, Y1b, Y1c, Y1d, Y1e, Y1f, Y1g, Y1h, Y1i, Y1j, Y1k, Y1l, AV.cells?, Y1n, Y1o, Y1p, Y1q, Y1r, Y1s, Y1t, Nat.reduceAdd, Nat.reduceMul, Y1w, Y1x, Y1y, Y1z, Y20, Y21, Y22, Y23, Y24, Y25, Y26, Y27, Y28, Y29, Y2a, Y2b]
  rw [binA_add (by omega)]
  simp only [Y0, Y1, Y2, Y3, Y4, Y5, Y6, Y7, Y8, Y9, Ya, Yb, Yc, Yd, Ye, Yf, Yg, Yh, Yi, Yj, Yk, Yl, Ym, Yn, Yo, Yp, Yq, Yr, Ys, Yt, Yu, Yv, Yw, Yx, Yy, Yz, Y10, Y11, Y12, Y13, Y14, Y15, Y16, Y17, Y18, Y19, Y1a, Y1b, Y1c, Y1d, Y1e, Y1f, Y1g, Y1h, Y1i, Y1j, Y1k, Y1l, AV.cells?, Y1n, Y1o, Y1p, Y1q, Y1r, Y1s, Y1t, Nat.reduceAdd, Nat.reduceMul, Y1w, Y1x, Y1y, Y1z, Y20, Y21, Y22, Y23, Y24, Y25, Y26, Y27, Y28, Y29, Y2a, Y2b]
  rw [store1_L rfl]
  simp only [Y0, Y1, Y2, Y3, Y4, Y5, Y6, Y7, Y8, Y9, Ya, Yb, Yc, Yd, Ye, Yf, Yg, Yh, Yi, Yj, Yk, Yl, Ym, Yn, Yo, Yp, Yq, Yr, Ys, Yt, Yu, Yv, Yw, Yx, Yy, Yz, Y10, Y11, Y12, Y13, Y14, Y15, Y16, Y17, Y18, Y19, Y1a, Y1b, Y1c, Y1d, Y1e, Y1f, Y1g, Y1h, Y1i, Y1j, Y1k, Y1l, AV.cells?, Y1n, Y1o, Y1p, Y1q, Y1r, Y1s, Y1t, Nat.reduceAdd, Nat.reduceMul, Y1w, Y1x, Y1y, Y1z, Y20, Y21, Y22, Y23, Y24, Y25, Y26, Y27, Y28, Y29, Y2a, Y2b, Nat.reduceLT, decide_eq_false (show ¬ (20000 : Int) < st + 1 by omega), ht.len]
  refine ⟨_, spread_spec (ga := ga) (gs := gs) B hV hall hn1 hn2 hs hb ⟨xx, tb, c, rfl, ht⟩, ?_⟩
  rintro r H1 ⟨b, o, u, rfl, hso, hgo, hsp, hbo, hH1⟩
  have htu := tr_grow hgo htr
  have hlu : tr.length ≤ u.length := by obtain ⟨n, rfl, _⟩ := hgo; simp
  have restore : ∀ (st1 : Int) (H : AH) (K : Kt), GH ga gs V all o u st1 H → (∀ H', GH ga gs V all of tr st1 H' → K (.tup []) H') → wCall E P 109 [.ptrL 1 0 gs, Z (tr.length : Int)] H K := by
    intro st1 H K h hK
    refine ⟨_, back_spec B hso.len hV htu (by omega) hlu h, ?_⟩
    rintro r H' ⟨rfl, h'⟩
    obtain ⟨e1, e2⟩ := hgo.back hs hso
    rw [e1, e2] at h'
    exact hK H' h'
  cases b with
  | false =>
    simp only [Y0, Y1, Y2, Y3, Y4, Y5, Y6, Y7, Y8, Y9, Ya, Yb, Yc, Yd, Ye, Yf, Yg, Yh, Yi, Yj, Yk, Yl, Ym, Yn, Yo, Yp, Yq, Yr, Ys, Yt, Yu, Yv, Yw, Yx, Yy, Yz, Y10, Y11, Y12, Y13, Y14, Y15, Y16, Y17, Y18, Y19, Y1a, Y1b, Y1c, Y1d, Y1e, Y1f, Y1g, Y1h, Y1i, Y1j, Y1k, Y1l, AV.cells?, Y1n, Y1o, Y1p, Y1q, Y1r, Y1s, Y1t, Nat.reduceAdd, Nat.reduceMul, Y1w, Y1x, Y1y, Y1z, Y20, Y21, Y22, Y23, Y24, Y25, Y26, Y27, Y28, Y29, Y2a, Y2b]
    refine restore _ _ _ hH1 fun H' h' => ?_
    exact ⟨st + 1, by omega, by omega, .inr ⟨trivial, hsp.2.1 rfl, h'⟩⟩
  | true =>
  have hol := hso.len
  obtain ⟨xx2, tb2, c2, rfl, ht2⟩ := hH1
  unfold gH
  simp only [Y0, Y1, Y2, Y3, Y4, Y5, Y6, Y7, Y8, Y9, Ya, Yb, Yc, Yd, Ye, Yf, Yg, Yh, Yi, Yj, Yk, Yl, Ym, Yn, Yo, Yp, Yq, Yr, Ys, Yt, Yu, Yv, Yw, Yx, Yy, Yz, Y10, Y11, Y12, Y13, Y14, Y15, Y16, Y17, Y18, Y19, Y1a, Y1b, Y1c, Y1d, Y1e, Y1f, Y1g, Y1h, Y1i, Y1j, Y1k, Y1l, AV.cells?, Y1n, Y1o, Y1p, Y1q, Y1r, Y1s, Y1t, Nat.reduceAdd, Nat.reduceMul, Y1w, Y1x, Y1y, Y1z, Y20, Y21, Y22, Y23, Y24, Y25, Y26, Y27, Y28, Y29, Y2a, Y2b]
  have hsl : ∀ H : AH, H.esz 0 ga = some 1 → sliceA 1 (.slL 0 0 (V + 1) ga) (some (.val (.int .i64 1))) none H = some (.slL 0 1 V ga) := fun H hH => by
    simp only [sliceA, bnd, Option.bind_some, hH, true_and]
    rw [if_pos (by omega)]
    simp
  rw [hsl _ (by simp [AH.esz])]
  simp only [Y0, Y1, Y2, Y3, Y4, Y5, Y6, Y7, Y8, Y9, Ya, Yb, Yc, Yd, Ye, Yf, Yg, Yh, Yi, Yj, Yk, Yl, Ym, Yn, Yo, Yp, Yq, Yr, Ys, Yt, Yu, Yv, Yw, Yx, Yy, Yz, Y10, Y11, Y12, Y13, Y14, Y15, Y16, Y17, Y18, Y19, Y1a, Y1b, Y1c, Y1d, Y1e, Y1f, Y1g, Y1h, Y1i, Y1j, Y1k, Y1l, AV.cells?, Y1n, Y1o, Y1p, Y1q, Y1r, Y1s, Y1t, Nat.reduceAdd, Nat.reduceMul, Y1w, Y1x, Y1y, Y1z, Y20, Y21, Y22, Y23, Y24, Y25, Y26, Y27, Y28, Y29, Y2a, Y2b]
  have hfk : FkL ⟨.cells ga 1 (o.map fun z => Z z) :: .cells gs 5 [Z V, LLI all, .slL 0 0 (V + 1) ga, xx2, Z (st + 1)] :: tb2, c2⟩ S0 [.slL 0 1 V ga, .val (.int .i64 0)] [LI (o.drop 1), Z 0] := by
    refine .cons ((Fk.slF (ys := (o.drop 1).map fun z => Z z) V rfl rfl ?_).then ?_) (.cons (.same _) .nil)
    · rw [← List.map_drop, ← List.map_take, List.take_of_length_le (by simp; omega)]
      exact FkL.same _
    · have : V = (o.drop 1).length := by simp; omega
      unfold LI Lm
      rw [← this]
      exact .F (.refl _)
  refine wCall.bo (IndexI_spec B.index (o.drop 1) 0 (by simp; omega)) (by simp [AV.flat]) hfk fun n2 => ?_
  rcases first_open hso with ⟨v, hv1, hv2, hv3, hv0, hvf⟩ | ⟨hv3, htot⟩
  case inr =>
    rw [binA_add (by omega), hv3]
    simp only [Y0, Y1, Y2, Y3, Y4, Y5, Y6, Y7, Y8, Y9, Ya, Yb, Yc, Yd, Ye, Yf, Yg, Yh, Yi, Yj, Yk, Yl, Ym, Yn, Yo, Yp, Yq, Yr, Ys, Yt, Yu, Yv, Yw, Yx, Yy, Yz, Y10, Y11, Y12, Y13, Y14, Y15, Y16, Y17, Y18, Y19, Y1a, Y1b, Y1c, Y1d, Y1e, Y1f, Y1g, Y1h, Y1i, Y1j, Y1k, Y1l, AV.cells?, Y1n, Y1o, Y1p, Y1q, Y1r, Y1s, Y1t, Nat.reduceAdd, Nat.reduceMul, Y1w, Y1x, Y1y, Y1z, Y20, Y21, Y22, Y23, Y24, Y25, Y26, Y27, Y28, Y29, Y2a, Y2b, show decide ((0 : Int) = 0) = true from rfl]
    exact ⟨st + 1, by omega, by omega, .inl ⟨o, u, trivial, hso, search_leaf hso hall hgo hsp htot, xx2, tb2, n2, rfl, ht2⟩⟩
  rw [binA_add (by omega), hv3]
  simp only [Y0, Y1, Y2, Y3, Y4, Y5, Y6, Y7, Y8, Y9, Ya, Yb, Yc, Yd, Ye, Yf, Yg, Yh, Yi, Yj, Yk, Yl, Ym, Yn, Yo, Yp, Yq, Yr, Ys, Yt, Yu, Yv, Yw, Yx, Yy, Yz, Y10, Y11, Y12, Y13, Y14, Y15, Y16, Y17, Y18, Y19, Y1a, Y1b, Y1c, Y1d, Y1e, Y1f, Y1g, Y1h, Y1i, Y1j, Y1k, Y1l, AV.cells?, Y1n, Y1o, Y1p, Y1q, Y1r, Y1s, Y1t, Nat.reduceAdd, Nat.reduceMul, Y1w, Y1x, Y1y, Y1z, Y20, Y21, Y22, Y23, Y24, Y25, Y26, Y27, Y28, Y29, Y2a, Y2b, decide_eq_false (show ¬ (v : Int) = 0 by omega)]
  rw [neg_Z (by omega)]
  simp only [Y0, Y1, Y2, Y3, Y4, Y5, Y6, Y7, Y8, Y9, Ya, Yb, Yc, Yd, Ye, Yf, Yg, Yh, Yi, Yj, Yk, Yl, Ym, Yn, Yo, Yp, Yq, Yr, Ys, Yt, Yu, Yv, Yw, Yx, Yy, Yz, Y10, Y11, Y12, Y13, Y14, Y15, Y16, Y17, Y18, Y19, Y1a, Y1b, Y1c, Y1d, Y1e, Y1f, Y1g, Y1h, Y1i, Y1j, Y1k, Y1l, AV.cells?, Y1n, Y1o, Y1p, Y1q, Y1r, Y1s, Y1t, Nat.reduceAdd, Nat.reduceMul, Y1w, Y1x, Y1y, Y1z, Y20, Y21, Y22, Y23, Y24, Y25, Y26, Y27, Y28, Y29, Y2a, Y2b]
  refine wNewS.F' (l := [Z (v : Int), Z (-(v : Int))]) rfl rfl ?_
  simp only [Y0, Y1, Y2, Y3, Y4, Y5, Y6, Y7, Y8, Y9, Ya, Yb, Yc, Yd, Ye, Yf, Yg, Yh, Yi, Yj, Yk, Yl, Ym, Yn, Yo, Yp, Yq, Yr, Ys, Yt, Yu, Yv, Yw, Yx, Yy, Yz, Y10, Y11, Y12, Y13, Y14, Y15, Y16, Y17, Y18, Y19, Y1a, Y1b, Y1c, Y1d, Y1e, Y1f, Y1g, Y1h, Y1i, Y1j, Y1k, Y1l, AV.cells?, Y1n, Y1o, Y1p, Y1q, Y1r, Y1s, Y1t, Nat.reduceAdd, Nat.reduceMul, Y1w, Y1x, Y1y, Y1z, Y20, Y21, Y22, Y23, Y24, Y25, Y26, Y27, Y28, Y29, Y2a, Y2b]
  have hx1 : okLit V (v : Int) := by unfold okLit; omega
  have hx2 : okLit V (-(v : Int)) := by unfold okLit; omega
  have hz1 : lv o (v : Int) = 0 := by rw [lv_vr (by omega)]; simpa [vr] using hv0
  have hz2 : lv o (-(v : Int)) = 0 := by rw [lv_vr (by omega)]; simpa [vr] using hv0
  have hog := opens_le_grow hgo
  have hop := opens_pos hv1 hv2 hv0
  obtain ⟨k', rfl⟩ : ∃ k', k = k' + 1 := ⟨k - 1, by omega⟩
  have hq2 : (2 : Int) ^ (k' + 1) = 2 ^ k' * 2 := Int.pow_succ ..
  have hq : (1 : Int) ≤ 2 ^ k' := Int.pow_pos (by decide)
  -- one of the two ways
  have way : ∀ (x : Int) (st1 : Int) (H : AH) (K : Kt), okLit V x → lv o x = 0 → 0 ≤ st1 → st1 + 2 ^ (k' + 1) ≤ 20001 → GH ga gs V all o u st1 H →
      (∀ (st2 : Int) of' tr' H', st1 ≤ st2 → st2 + 1 ≤ st1 + 2 ^ (k' + 1) → Sol V of' → SearchT V all (litSet o x) of' → GH ga gs V all of' tr' st2 H' → K (.tup [Bo true, nilE]) H') →
      (∀ (st2 : Int) H', st1 ≤ st2 → st2 + 1 ≤ st1 + 2 ^ (k' + 1) → SearchF V all (litSet o x) → (∀ K : Kt, (∀ H'', GH ga gs V all o u st2 H'' → K (.tup []) H'') → wCall E P 109 [.ptrL 1 0 gs, Z (u.length : Int)] H' K) → K (.tup [Bo false, nilE]) H') →
      wCall E P 111 [.ptrL 1 0 gs, Z x] H fun t60 H => wCall E P 105 [.ptrL 1 0 gs] H K := by
    intro x st1 H K hx hz h0 h1 hH hT hF
    refine ⟨_, set_spec B hso hV hx (by omega) hH, ?_⟩
    rintro r H2 ⟨rfl, hH2⟩
    have hol := opens_lt hso hx hz
    have hgx := Grow.set (tr := u) hso hx hz
    refine ⟨_, ih k' (by omega) (litSet o x) (u ++ [(vr x : Int)]) st1 H2 (hso.set hx) (tr_grow hgx htu) (by simp; omega) (by omega) h0 h1 hH2, ?_⟩
    rintro r H3 ⟨st2, s1, s2, ⟨of', tr', rfl, t1, t2, t3⟩ | ⟨rfl, t1, t2⟩⟩
    · exact hT st2 of' tr' H3 s1 s2 t1 t2 t3
    · refine hF st2 H3 s1 s2 t1 fun K hK => ?_
      refine ⟨_, back_spec B (hso.set hx).len hV (tr_grow hgx htu) (by simp; omega) (show u.length ≤ (u ++ [(vr x : Int)]).length by simp) t2, ?_⟩
      rintro r H' ⟨rfl, h'⟩
      obtain ⟨e1, e2⟩ := hgx.back hso (hso.set hx)
      rw [e1, e2] at h'
      exact hK H' h'
  refine wLoop.one (fun m i H => ∃ (q : Nat) (st1 : Int), q + m = 2 ∧ i = Z q ∧ st + 1 ≤ st1 ∧ st1 + q ≤ st + 1 + q * 2 ^ (k' + 1) ∧ GH ga gs V all o u st1 H ∧ (0 < q → SearchF V all (litSet o (v : Int))) ∧ (1 < q → SearchF V all (litSet o (-(v : Int))))) 2
    (gh1.mk ⟨0, st + 1, by omega, rfl, by omega, by omega, ⟨xx2, tb2, n2, rfl, ht2⟩, by simp, by simp⟩) ?_
  rintro m i H ⟨q, st1, hqm, rfl, hs1, hs2, hH, hF1, hF2⟩
  have hcase : q = 0 ∨ q = 1 ∨ q = 2 := by omega
  rcases hcase with rfl | rfl | rfl
  case inr.inr =>
    simp only [Y0, Y1, Y2, Y3, Y4, Y5, Y6, Y7, Y8, Y9, Ya, Yb, Yc, Yd, Ye, Yf, Yg, Yh, Yi, Yj, Yk, Yl, Ym, Yn, Yo, Yp, Yq, Yr, Ys, Yt, Yu, Yv, Yw, Yx, Yy, Yz, Y10, Y11, Y12, Y13, Y14, Y15, Y16, Y17, Y18, Y19, Y1a, Y1b, Y1c, Y1d, Y1e, Y1f, Y1g, Y1h, Y1i, Y1j, Y1k, Y1l, AV.cells?, Y1n, Y1o, Y1p, Y1q, Y1r, Y1s, Y1t, Nat.reduceAdd, Nat.reduceMul, Y1w, Y1x, Y1y, Y1z, Y20, Y21, Y22, Y23, Y24, Y25, Y26, Y27, Y28, Y29, Y2a, Y2b, show decide (((2 : Nat) : Int) < ((2 : Nat) : Int)) = false from rfl]
    refine restore _ _ _ hH fun H' h' => ?_
    exact ⟨st1, by omega, by omega, .inr ⟨trivial, search_none hso hsp hv1 hv2 (hF1 (by omega)) (hF2 (by omega)), h'⟩⟩
  · simp only [Y0, Y1, Y2, Y3, Y4, Y5, Y6, Y7, Y8, Y9, Ya, Yb, Yc, Yd, Ye, Yf, Yg, Yh, Yi, Yj, Yk, Yl, Ym, Yn, Yo, Yp, Yq, Yr, Ys, Yt, Yu, Yv, Yw, Yx, Yy, Yz, Y10, Y11, Y12, Y13, Y14, Y15, Y16, Y17, Y18, Y19, Y1a, Y1b, Y1c, Y1d, Y1e, Y1f, Y1g, Y1h, Y1i, Y1j, Y1k, Y1l, AV.cells?, Y1n, Y1o, Y1p, Y1q, Y1r, Y1s, Y1t, Nat.reduceAdd, Nat.reduceMul, Y1w, Y1x, Y1y, Y1z, Y20, Y21, Y22, Y23, Y24, Y25, Y26, Y27, Y28, Y29, Y2a, Y2b, show decide (((0 : Nat) : Int) < ((2 : Nat) : Int)) = true from rfl]
    rw [iaddr_Nn (by omega)]
    obtain ⟨xx3, tb3, c3, hHe, ht3⟩ := id hH
    have hbs : H.bs[1]? = some (.cells gs 5 [Z V, LLI all, .slL 0 0 (V + 1) ga, xx3, Z st1]) := by rw [hHe]; rfl
    simp only [Y0, Y1, Y2, Y3, Y4, Y5, Y6, Y7, Y8, Y9, Ya, Yb, Yc, Yd, Ye, Yf, Yg, Yh, Yi, Yj, Yk, Yl, Ym, Yn, Yo, Yp, Yq, Yr, Ys, Yt, Yu, Yv, Yw, Yx, Yy, Yz, Y10, Y11, Y12, Y13, Y14, Y15, Y16, Y17, Y18, Y19, Y1a, Y1b, Y1c, Y1d, Y1e, Y1f, Y1g, Y1h, Y1i, Y1j, Y1k, Y1l, AV.cells?, Y1n, Y1o, Y1p, Y1q, Y1r, Y1s, Y1t, Nat.reduceAdd, Nat.reduceMul, Y1w, Y1x, Y1y, Y1z, Y20, Y21, Y22, Y23, Y24, Y25, Y26, Y27, Y28, Y29, Y2a, Y2b, hbs, ht3.len]
    refine way _ st1 H _ hx1 hz1 (by omega) (by omega) hH (fun st2 of' tr' H' a1 a2 a3 a4 a5 => ?_) (fun st2 H' a1 a2 a3 a4 => ?_)
    · simp only [Y0, Y1, Y2, Y3, Y4, Y5, Y6, Y7, Y8, Y9, Ya, Yb, Yc, Yd, Ye, Yf, Yg, Yh, Yi, Yj, Yk, Yl, Ym, Yn, Yo, Yp, Yq, Yr, Ys, Yt, Yu, Yv, Yw, Yx, Yy, Yz, Y10, Y11, Y12, Y13, Y14, Y15, Y16, Y17, Y18, Y19, Y1a, Y1b, Y1c, Y1d, Y1e, Y1f, Y1g, Y1h, Y1i, Y1j, Y1k, Y1l, AV.cells?, Y1n, Y1o, Y1p, Y1q, Y1r, Y1s, Y1t, Nat.reduceAdd, Nat.reduceMul, Y1w, Y1x, Y1y, Y1z, Y20, Y21, Y22, Y23, Y24, Y25, Y26, Y27, Y28, Y29, Y2a, Y2b]
      exact ⟨st2, by omega, by omega, .inl ⟨of', tr', trivial, a3, search_yes hso hgo hsp hv1 hv2 hv0 hvf a4, a5⟩⟩
    · simp only [Y0, Y1, Y2, Y3, Y4, Y5, Y6, Y7, Y8, Y9, Ya, Yb, Yc, Yd, Ye, Yf, Yg, Yh, Yi, Yj, Yk, Yl, Ym, Yn, Yo, Yp, Yq, Yr, Ys, Yt, Yu, Yv, Yw, Yx, Yy, Yz, Y10, Y11, Y12, Y13, Y14, Y15, Y16, Y17, Y18, Y19, Y1a, Y1b, Y1c, Y1d, Y1e, Y1f, Y1g, Y1h, Y1i, Y1j, Y1k, Y1l, AV.cells?, Y1n, Y1o, Y1p, Y1q, Y1r, Y1s, Y1t, Nat.reduceAdd, Nat.reduceMul, Y1w, Y1x, Y1y, Y1z, Y20, Y21, Y22, Y23, Y24, Y25, Y26, Y27, Y28, Y29, Y2a, Y2b]
      refine a4 _ fun H'' h'' => ?_
      rw [binA_succ (by omega)]
      simp only [Y0, Y1, Y2, Y3, Y4, Y5, Y6, Y7, Y8, Y9, Ya, Yb, Yc, Yd, Ye, Yf, Yg, Yh, Yi, Yj, Yk, Yl, Ym, Yn, Yo, Yp, Yq, Yr, Ys, Yt, Yu, Yv, Yw, Yx, Yy, Yz, Y10, Y11, Y12, Y13, Y14, Y15, Y16, Y17, Y18, Y19, Y1a, Y1b, Y1c, Y1d, Y1e, Y1f, Y1g, Y1h, Y1i, Y1j, Y1k, Y1l, AV.cells?, Y1n, Y1o, Y1p, Y1q, Y1r, Y1s, Y1t, Nat.reduceAdd, Nat.reduceMul, Y1w, Y1x, Y1y, Y1z, Y20, Y21, Y22, Y23, Y24, Y25, Y26, Y27, Y28, Y29, Y2a, Y2b]
      exact back1.mk 1 (by omega) ⟨1, st2, by omega, rfl, by omega, by omega, h'', fun _ => a3, by omega⟩
  · simp only [Y0, Y1, Y2, Y3, Y4, Y5, Y6, Y7, Y8, Y9, Ya, Yb, Yc, Yd, Ye, Yf, Yg, Yh, Yi, Yj, Yk, Yl, Ym, Yn, Yo, Yp, Yq, Yr, Ys, Yt, Yu, Yv, Yw, Yx, Yy, Yz, Y10, Y11, Y12, Y13, Y14, Y15, Y16, Y17, Y18, Y19, Y1a, Y1b, Y1c, Y1d, Y1e, Y1f, Y1g, Y1h, Y1i, Y1j, Y1k, Y1l, AV.cells?, Y1n, Y1o, Y1p, Y1q, Y1r, Y1s, Y1t, Nat.reduceAdd, Nat.reduceMul, Y1w, Y1x, Y1y, Y1z, Y20, Y21, Y22, Y23, Y24, Y25, Y26, Y27, Y28, Y29, Y2a, Y2b, show decide (((1 : Nat) : Int) < ((2 : Nat) : Int)) = true from rfl]
    rw [iaddr_Nn (by omega)]
    obtain ⟨xx3, tb3, c3, hHe, ht3⟩ := id hH
    have hbs : H.bs[1]? = some (.cells gs 5 [Z V, LLI all, .slL 0 0 (V + 1) ga, xx3, Z st1]) := by rw [hHe]; rfl
    simp only [Y0, Y1, Y2, Y3, Y4, Y5, Y6, Y7, Y8, Y9, Ya, Yb, Yc, Yd, Ye, Yf, Yg, Yh, Yi, Yj, Yk, Yl, Ym, Yn, Yo, Yp, Yq, Yr, Ys, Yt, Yu, Yv, Yw, Yx, Yy, Yz, Y10, Y11, Y12, Y13, Y14, Y15, Y16, Y17, Y18, Y19, Y1a, Y1b, Y1c, Y1d, Y1e, Y1f, Y1g, Y1h, Y1i, Y1j, Y1k, Y1l, AV.cells?, Y1n, Y1o, Y1p, Y1q, Y1r, Y1s, Y1t, Nat.reduceAdd, Nat.reduceMul, Y1w, Y1x, Y1y, Y1z, Y20, Y21, Y22, Y23, Y24, Y25, Y26, Y27, Y28, Y29, Y2a, Y2b, hbs, ht3.len]
    refine way _ st1 H _ hx2 hz2 (by omega) (by omega) hH (fun st2 of' tr' H' a1 a2 a3 a4 a5 => ?_) (fun st2 H' a1 a2 a3 a4 => ?_)
    · simp only [Y0, Y1, Y2, Y3, Y4, Y5, Y6, Y7, Y8, Y9, Ya, Yb, Yc, Yd, Ye, Yf, Yg, Yh, Yi, Yj, Yk, Yl, Ym, Yn, Yo, Yp, Yq, Yr, Ys, Yt, Yu, Yv, Yw, Yx, Yy, Yz, Y10, Y11, Y12, Y13, Y14, Y15, Y16, Y17, Y18, Y19, Y1a, Y1b, Y1c, Y1d, Y1e, Y1f, Y1g, Y1h, Y1i, Y1j, Y1k, Y1l, AV.cells?, Y1n, Y1o, Y1p, Y1q, Y1r, Y1s, Y1t, Nat.reduceAdd, Nat.reduceMul, Y1w, Y1x, Y1y, Y1z, Y20, Y21, Y22, Y23, Y24, Y25, Y26, Y27, Y28, Y29, Y2a, Y2b]
      exact ⟨st2, by omega, by omega, .inl ⟨of', tr', trivial, a3, search_no hso hgo hsp hv1 hv2 hv0 (hF1 (by omega)) a4, a5⟩⟩
    · simp only [Y0, Y1, Y2, Y3, Y4, Y5, Y6, Y7, Y8, Y9, Ya, Yb, Yc, Yd, Ye, Yf, Yg, Yh, Yi, Yj, Yk, Yl, Ym, Yn, Yo, Yp, Yq, Yr, Ys, Yt, Yu, Yv, Yw, Yx, Yy, Yz, Y10, Y11, Y12, Y13, Y14, Y15, Y16, Y17, Y18, Y19, Y1a, Y1b, Y1c, Y1d, Y1e, Y1f, Y1g, Y1h, Y1i, Y1j, Y1k, Y1l, AV.cells?, Y1n, Y1o, Y1p, Y1q, Y1r, Y1s, Y1t, Nat.reduceAdd, Nat.reduceMul, Y1w, Y1x, Y1y, Y1z, Y20, Y21, Y22, Y23, Y24, Y25, Y26, Y27, Y28, Y29, Y2a, Y2b]
      refine a4 _ fun H'' h'' => ?_
      rw [binA_succ (by omega)]
      simp only [Y0, Y1, Y2, Y3, Y4, Y5, Y6, Y7, Y8, Y9, Ya, Yb, Yc, Yd, Ye, Yf, Yg, Yh, Yi, Yj, Yk, Yl, Ym, Yn, Yo, Yp, Yq, Yr, Ys, Yt, Yu, Yv, Yw, Yx, Yy, Yz, Y10, Y11, Y12, Y13, Y14, Y15, Y16, Y17, Y18, Y19, Y1a, Y1b, Y1c, Y1d, Y1e, Y1f, Y1g, Y1h, Y1i, Y1j, Y1k, Y1l, AV.cells?, Y1n, Y1o, Y1p, Y1q, Y1r, Y1s, Y1t, Nat.reduceAdd, Nat.reduceMul, Y1w, Y1x, Y1y, Y1z, Y20, Y21, Y22, Y23, Y24, Y25, Y26, Y27, Y28, Y29, Y2a, Y2b]
      exact back1.mk 0 (by omega) ⟨2, st2, by omega, rfl, by omega, by omega, h'', fun _ => hF1 (by omega), fun _ => a3⟩
end
end Go.Sc
namespace Go.Sc
open Go Go.RowKit
section
variable {E : Env} {P : Program}
theorem FX.ofCalls {k : Nat} {fn : Func} {args : List AV} {r : AV} (hf : P.funcs[E.fn k]? = some fn) (hn : (fn.name == "runtime.NumGoroutine") = false) (hb : fn.body.isNone = false) (ca : AV.closedL args) (hfl : r.flat) (hcl : r.closed)
    (h : ∀ (c : Cx) (vs : List Value), (∀ b, c.fz b → b < c.w.heap.size) → (∀ g cs, E.gl g = some cs → CRel E c cs (E.gn g) 0) → LRel E c args vs →
      Calls P (E.fn k) vs.toArray c.w fun e w' => ∃ v, e = .returned v ∧ Below c.w.heap.size c.w w' ∧ VRel E c r v) : FX E P k args r where
  ca := ca
  cr := hcl
  ok := by
    intro n c vs hH hv o a next Q hnext
    have hrun : (callFunc (E.fn k) vs.toArray).run P c.w = .ok (.enter (E.fn k) vs.toArray) c.w := by
      have hn' : ¬ ((fn.name == "runtime.NumGoroutine") = true) := by rw [hn]; simp
      have hb' : ¬ (fn.body.isNone = true) := by rw [hb]; simp
      simp only [callFunc, Sem.run_bind, run_program, Result.andThen_ok, hf, if_neg hn', if_neg hb', Sem.run_pure]
    rw [hrun]
    simp only [Oper.upon]
    have hgen : ∀ b, c.gen b = none := fun b => hH.out b (by simp)
    refine (h c vs hH.fzlt (fun g cs e => (hH.glob g cs e).2) hv).mono ?_
    rintro e w' ⟨v, rfl, bel, hrv⟩
    have hle : c.le { c with w := w' } := ⟨Nat.le_refl _, fun b hb => ⟨hb, bel.block b (hH.fzlt b hb)⟩, fun b o hb => ⟨.inr hb, cell_of_heap (bel.block b (hH.fclt b o hb)) _ _⟩, fun _ _ _ e => ⟨e, rfl, rfl, rfl, rfl⟩, fun _ _ _ _ _ h => h⟩
    have hL : Later c { c with w := w' } := {
      le := hle
      os := bel.os
      tape := bel.tape
      output := bel.output
      size := bel.size
      keep := fun i hi _ => bel.block i hi
      own := fun b hb => .inl ⟨b, hb, rfl⟩
      fz := fun i hi => .inl hi
      fc := fun i j hi => .inl hi }
    refine hnext v w' ⟨r, { c with w := w' }, ⟨[], n⟩, rfl, rfl, ⟨hH.ctr, hH.out, by simp, fun b hb => absurd (hgen b) hb, by simp, fun b _ hb => absurd (hgen b) hb, fun b hb => absurd (hgen b) hb, fun b hb => Nat.lt_of_lt_of_le (hH.fzlt b hb) bel.size, fun b j hb => Nat.lt_of_lt_of_le (hH.fclt b j hb) bel.size, hH.globLe hle⟩, VRel.ofFlat r v hfl hrv, hL⟩
/-- api.Tell: the code in an error -/
theorem FX.tell {k g X : Nat} {fn : Func} {ev : Value} (hf : P.funcs[E.fn k]? = some fn) (hn : (fn.name == "runtime.NumGoroutine") = false) (hb : fn.body.isNone = false) (hty : E.ty 1 = X) (hgl : E.gl g = some [.val ev])
    (h0 : ∀ w, Calls P (E.fn k) #[.nilIface] w fun e w' => e = .returned (.int .i64 0) ∧ Below w.heap.size w w')
    (h1 : ∀ z w, w.cell? ⟨E.gn g, 0, none⟩ = some ev → Calls P (E.fn k) #[.iface X (.int .i64 z)] w fun e w' => e = .returned (.int .i64 z) ∧ Below w.heap.size w w') (e : Int) : FX E P k [Er e] (Z e) := by
  refine FX.ofCalls hf hn hb (by simp [AV.closedL, Er_closed]) (by simp [AV.flat]) (by simp [AV.closed]) fun c vs _ hg hv => ?_
  obtain ⟨v, rfl, hr⟩ := hv.one'
  by_cases he : e = 0
  · subst he
    simp only [Er, if_true, VRel] at hr
    subst hr
    refine (h0 c.w).mono fun e w' h => ?_
    exact ⟨_, h.1, h.2, by simp [VRel]⟩
  · simp only [Er, he, if_false, VRel] at hr
    obtain ⟨u, rfl, _, rfl⟩ := hr
    have hc := hg g _ hgl
    simp only [CRel, VRel] at hc
    obtain ⟨⟨_, u, hu, rfl⟩, _⟩ := hc
    rw [hty]
    refine (h1 e c.w hu).mono fun e w' h => ?_
    exact ⟨_, h.1, h.2, by simp [VRel]⟩
/-- of an error at a place -/
theorem FX.tellAt {k g T : Nat} {fn : Func} {ev : Value} (hf : P.funcs[E.fn k]? = some fn) (hn : (fn.name == "runtime.NumGoroutine") = false) (hb : fn.body.isNone = false) (hty : E.ty 2 = T) (hgl : E.gl g = some [.val ev])
    (h1 : ∀ z p w, w.cell? ⟨E.gn g, 0, none⟩ = some ev → w.cell? p = some (.int .i64 z) → Calls P (E.fn k) #[.iface T (.pointer (some p))] w fun e w' => e = .returned (.int .i64 z) ∧ Below w.heap.size w w') (e p : Int) : FX E P k [At e p] (Z e) := by
  refine FX.ofCalls hf hn hb (by simp [AV.closedL, At, AV.closed]) (by simp [AV.flat]) (by simp [AV.closed]) fun c vs _ hg hv => ?_
  obtain ⟨v, rfl, hr⟩ := hv.one'
  simp only [At, VRel, CRel] at hr
  obtain ⟨u, rfl, _, b, o, rfl, ⟨_, x, hx, rfl⟩, _⟩ := hr
  have hc := hg g _ hgl
  simp only [CRel, VRel] at hc
  obtain ⟨⟨_, u, hu, rfl⟩, _⟩ := hc
  rw [hty]
  refine (h1 e ⟨b, o, none⟩ c.w hu hx).mono fun e w' h => ?_
  exact ⟨_, h.1, h.2, by simp [VRel]⟩
end
end Go.Sc
namespace Go.Sc.F
open Go Go.Sc
set_option linter.unusedVariables false

/-- signalbox/signalboxlaw.BlockBlocks -/
def law_BlockBlocks (E : Env) (P : Program) (a0 : AV) (H : AH) (R : Kt) : Prop :=
  wNew 2 (AV.cells? a0) H fun t1 H =>
  wGet (loadN 2 t1 H) H fun t12 H =>
  wCall E P 76 [t12] H fun t13 H =>
  wGet (extractA t13 0) H fun t14 H =>
  wGet (extractA t13 1) H fun t15 H =>
  wGet (extractA t13 2) H fun t16 H =>
  wNew 2 (some [(.val (.slice none 0 0)), (.val (.slice none 0 0))]) H fun t3 H =>
  wNew 2 (some [(.val (.int .i64 0)), (.val (.int .i64 0))]) H fun t4 H =>
  wPut (storeN 2 t3 t14 H) fun _u H =>
  wPut (storeN 2 t4 t15 H) fun _u H =>
  wGet (unA .not t16) H fun t18 H =>
  wIf t18 (
    R (.val (.bool true)) H) (
    wGet (loadN 2 t1 H) H fun t20 H =>
    wCall E P 46 [t20] H fun t21 H =>
    wGet (extractA t21 0) H fun t22 H =>
    wGet (extractA t21 1) H fun t23 H =>
    wGet (loadN 2 t1 H) H fun t25 H =>
    wCall E P 49 [t25] H fun t26 H =>
    wGet (extractA t26 0) H fun t27 H =>
    wGet (extractA t26 1) H fun t28 H =>
    wNew 2 (some [(.val (.slice none 0 0)), (.val (.slice none 0 0))]) H fun t8 H =>
    wPut (storeN 2 t8 t27 H) fun _u H =>
    wGet (loadN 2 t1 H) H fun t29 H =>
    wGet (loadN 2 t4 H) H fun t31 H =>
    wCall E P 55 [t29] H fun t30 H =>
    (wGet (loadN 2 t4 H) H (fun y H2 => y = t31 ∧ H2 = H)) ∧
    wCall E P 77 [t30, t31] H fun t32 H =>
    wGet (unA .not t32) H fun t33 H =>
    wGuard t33 false H (fun k => k t23 H) fun t35 H =>
    wGuard t33 false H (fun k => wGet (loadN 2 t4 H) H k) fun t36 H =>
    wGuard t33 false H (fun k => wCall E P 77 [t35, t36] H k) fun t37 H =>
    wGuard t33 false H (fun k => wGet (unA .not t37) H k) fun t38 H =>
    wGet (pickA t33 (.val (.bool true)) t38) H fun t39 H =>
    wGuard t39 false H (fun k => k t28 H) fun t41 H =>
    wGuard t39 false H (fun k => wGet (loadN 2 t4 H) H k) fun t42 H =>
    wGuard t39 false H (fun k => wCall E P 77 [t41, t42] H k) fun t43 H =>
    wGuard t39 false H (fun k => wGet (unA .not t43) H k) fun t44 H =>
    wGet (pickA t39 (.val (.bool true)) t44) H fun t45 H =>
    wIf t45 (
      R (.val (.bool false)) H) (
      wGet (faddr 0 t4) H fun t46 H =>
      wGet (load1 t46 H) H fun t47 H =>
      wGet (binA .neq t47 (.val (.int .i64 0))) H fun t48 H =>
      wIf t48 (
        wGet (lenA t22) H fun t50 H =>
        wGet (faddr 0 t8) H fun t51 H =>
        wGet (load1 t51 H) H fun t52 H =>
        wGet (lenA t52) H fun t53 H =>
        wGet (binA .add t50 t53) H fun t54 H =>
        wGet (faddr 1 t8) H fun t55 H =>
        wGet (load1 t55 H) H fun t56 H =>
        wGet (lenA t56) H fun t57 H =>
        wGet (binA .add t54 t57) H fun t58 H =>
        wGet (binA .eql t58 (.val (.int .i64 0))) H fun t59 H =>
        R t59 H) (
        wGet (loadN 2 t3 H) H fun t60 H =>
        wCall E P 78 [t60] H fun t61 H =>
        wNew 2 (some [(.val (.slice none 0 0)), (.val (.slice none 0 0))]) H fun t10 H =>
        wPut (storeN 2 t10 t61 H) fun _u H =>
        wGet (loadN 2 t3 H) H fun t63 H =>
        wCall E P 79 [t63] H fun t64 H =>
        wCall E P 80 [t22, t64] H fun t65 H =>
        wGuard t65 true H (fun k => wGet (faddr 0 t8) H k) fun t67 H =>
        wGuard t65 true H (fun k => wGet (load1 t67 H) H k) fun t68 H =>
        wGuard t65 true H (fun k => wGet (faddr 0 t10) H k) fun t69 H =>
        wGuard t65 true H (fun k => wGet (load1 t69 H) H k) fun t70 H =>
        wGuard t65 true H (fun k => wCall E P 81 [t68, t70] H k) fun t71 H =>
        wGet (pickA t65 t71 (.val (.bool false))) H fun t72 H =>
        wGuard t72 true H (fun k => wGet (faddr 1 t8) H k) fun t74 H =>
        wGuard t72 true H (fun k => wGet (load1 t74 H) H k) fun t75 H =>
        wGuard t72 true H (fun k => wGet (faddr 1 t10) H k) fun t76 H =>
        wGuard t72 true H (fun k => wGet (load1 t76 H) H k) fun t77 H =>
        wGuard t72 true H (fun k => wCall E P 81 [t75, t77] H k) fun t78 H =>
        wGet (pickA t72 t78 (.val (.bool false))) H fun t79 H =>
        R t79 H)))

/-- signalbox/signalboxlaw.tables -/
def law_tables (E : Env) (P : Program) (a0 : AV) (H : AH) (R : Kt) : Prop :=
  wNew 2 (AV.cells? a0) H fun t1 H =>
  wNew 2 (some [(.val (.slice none 0 0)), (.val (.slice none 0 0))]) H fun t2 H =>
  wNew 2 (some [(.val (.int .i64 0)), (.val (.int .i64 0))]) H fun t3 H =>
  wGet (faddr 0 t1) H fun t7 H =>
  wGet (load1 t7 H) H fun t8 H =>
  wGet (faddr 1 t1) H fun t9 H =>
  wGet (load1 t9 H) H fun t10 H =>
  wAgg (fillA [(.val (.slice none 0 0)), (.val (.slice none 0 0))] [(0, 1, t8), (1, 1, t10)]) H fun t11 H =>
  wNew 2 (some [(.val (.slice none 0 0)), (.val (.slice none 0 0))]) H fun t5 H =>
  wPut (storeN 2 t5 t11 H) fun _u H =>
  wGet (faddr 0 t1) H fun t12 H =>
  wGet (load1 t12 H) H fun t13 H =>
  wGet (lenA t13) H fun t14 H =>
  wGet (binA .gtr t14 (.val (.int .i64 510))) H fun t15 H =>
  wGuard t15 false H (fun k => wGet (faddr 1 t1) H k) fun t17 H =>
  wGuard t15 false H (fun k => wGet (load1 t17 H) H k) fun t18 H =>
  wGuard t15 false H (fun k => wGet (lenA t18) H k) fun t19 H =>
  wGuard t15 false H (fun k => wGet (binA .gtr t19 (.val (.int .i64 510))) H k) fun t20 H =>
  wGet (pickA t15 (.val (.bool true)) t20) H fun t21 H =>
  wIf t21 (
    wGet (loadN 2 t5 H) H fun t22 H =>
    wGet (loadN 2 (gptr E 5) H) H fun t23 H =>
    wPut (storeN 2 t2 t22 H) fun _u H =>
    (wGet (loadN 2 (gptr E 5) H) H (fun y H2 => y = t23 ∧ H2 = H)) ∧
    wPut (storeN 2 t3 t23 H) fun _u H =>
    wGet (retPack [loadN 2 t2 H, loadN 2 t3 H, some (.val (.bool false))]) H R) (
    wGet (loadN 2 t5 H) H fun t24 H =>
    wCall E P 83 [t24] H fun t25 H =>
    wNew 2 (some [(.val (.int .i64 0)), (.val (.int .i64 0))]) H fun t6 H =>
    wPut (storeN 2 t6 t25 H) fun _u H =>
    wGet (loadN 2 t5 H) H fun t26 H =>
    wGet (loadN 2 t6 H) H fun t27 H =>
    wGet (faddr 0 t6) H fun t28 H =>
    wGet (load1 t28 H) H fun t29 H =>
    wGet (binA .neq t29 (.val (.int .i64 0))) H fun t30 H =>
    wGuard t30 false H (fun k => wGet (faddr 0 t1) H k) fun t32 H =>
    wGuard t30 false H (fun k => wGet (load1 t32 H) H k) fun t33 H =>
    wGuard t30 false H (fun k => wGet (lenA t33) H k) fun t34 H =>
    wGuard t30 false H (fun k => wGet (binA .leq t34 (.val (.int .i64 30))) H k) fun t35 H =>
    wGuard t30 false H (fun k => k t35 H) fun t36 H =>
    wGuard t36 true H (fun k => wGet (faddr 0 t1) H k) fun t37 H =>
    wGuard t36 true H (fun k => wGet (load1 t37 H) H k) fun t38 H =>
    wGuard t36 true H (fun k => wGet (iaddr 1 t38 (.val (.int .i64 0))) H k) fun t39 H =>
    wGuard t36 true H (fun k => wGet (load1 t39 H) H k) fun t40 H =>
    wGuard t36 true H (fun k => wGet (lenA t40) H k) fun t41 H =>
    wGuard t36 true H (fun k => wGet (binA .leq t41 (.val (.int .i64 8))) H k) fun t42 H =>
    wGuard t30 false H (fun k => wGet (pickA t36 t42 (.val (.bool false))) H k) fun t43 H =>
    wGet (pickA t30 (.val (.bool true)) t43) H fun t44 H =>
    wPut (storeN 2 t2 t26 H) fun _u H =>
    (wGet (loadN 2 t6 H) H (fun y H2 => y = t27 ∧ H2 = H)) ∧
    (wGuard t36 true H (fun k => wGet (load1 t37 H) H k) (fun y H2 => y = t38 ∧ H2 = H)) ∧
    (wGuard t36 true H (fun k => wGet (load1 t39 H) H k) (fun y H2 => y = t40 ∧ H2 = H)) ∧
    wPut (storeN 2 t3 t27 H) fun _u H =>
    (wGuard t36 true H (fun k => wGet (load1 t37 H) H k) (fun y H2 => y = t38 ∧ H2 = H)) ∧
    (wGuard t36 true H (fun k => wGet (load1 t39 H) H k) (fun y H2 => y = t40 ∧ H2 = H)) ∧
    wGet (retPack [loadN 2 t2 H, loadN 2 t3 H, some t44]) H R)

/-- signalbox/signalboxlaw.at -/
def law_at (E : Env) (P : Program) (a0 a1 : AV) (H : AH) (R : Kt) : Prop :=
  wNew 2 (AV.cells? a1) H fun t3 H =>
  wCall E P 84 [a0] H fun t9 H =>
  wGet (extractA t9 0) H fun t10 H =>
  wGet (extractA t9 1) H fun t11 H =>
  wGet (faddr 0 t3) H fun t13 H =>
  wGet (load1 t13 H) H fun t14 H =>
  wGet (binA .eql t10 t14) H fun t15 H =>
  wGuard t15 true H (fun k => k t11 H) fun t17 H =>
  wGuard t15 true H (fun k => wGet (faddr 1 t3) H k) fun t18 H =>
  wGuard t15 true H (fun k => wGet (load1 t18 H) H k) fun t19 H =>
  wGuard t15 true H (fun k => wGet (binA .eql t17 t19) H k) fun t20 H =>
  wGet (pickA t15 t20 (.val (.bool false))) H fun t21 H =>
  R t21 H

/-- (signalbox/signalboxref.Table).Least -/
def ref_Table_Least (E : Env) (P : Program) (a0 : AV) (H : AH) (R : Kt) : Prop :=
  wNew 2 (AV.cells? a0) H fun t1 H =>
  wNew 2 (some [(.val (.slice none 0 0)), (.val (.slice none 0 0))]) H fun t2 H =>
  wGet (loadN 2 t1 H) H fun t10 H =>
  wCall E P 79 [t10] H fun t11 H =>
  wNew 2 (some [(.val (.slice none 0 0)), (.val (.slice none 0 0))]) H fun t4 H =>
  wLoop 1 (fun I1 => I1 (.val (.int .i64 0)) H) fun I1 t5 H =>
    wJoin 0 (fun J2 =>
      wLoop 1 (fun I3 => I3 (.val (.int .i64 0)) H) fun I3 t6 H =>
        wGet (lenA t11) H fun t16 H =>
        wGet (binA .lss t6 t16) H fun t17 H =>
        wGuard t17 true H (fun k => k t11 H) fun t19 H =>
        wGuard t17 true H (fun k => k t6 H) fun t20 H =>
        wGuard t17 true H (fun k => wGet (iaddr 1 t19 t20) H k) fun t21 H =>
        wGuard t17 true H (fun k => wGet (load1 t21 H) H k) fun t22 H =>
        wGuard t17 true H (fun k => k t5 H) fun t23 H =>
        wGuard t17 true H (fun k => wGet (binA .neq t22 t23) H k) fun t24 H =>
        wGet (pickA t17 t24 (.val (.bool false))) H fun t25 H =>
        wIf t25 (
          wGet (binA .add t6 (.val (.int .i64 1))) H fun t27 H =>
          I3 t27 H) (
          wGet (lenA t11) H fun t30 H =>
          wGet (binA .eql t6 t30) H fun t31 H =>
          wIf t31 (
            wGet (loadN 2 t4 H) H fun t32 H =>
            wPut (storeN 2 t2 t32 H) fun _u H =>
            wGet (retPack [loadN 2 t2 H]) H R) (
            wGet (faddr 0 t1) H fun t33 H =>
            wGet (load1 t33 H) H fun t34 H =>
            wGet (iaddr 1 t34 t6) H fun t36 H =>
            wGet (load1 t36 H) H fun t37 H =>
            wGet (lenA t37) H fun t38 H =>
            wLoop 2 (fun I4 => I4 (.val (.slice none 0 0)) (.val (.int .i64 0)) H) fun I4 t7 t39 H =>
              wGet (binA .lss t39 t38) H fun t40 H =>
              wIf t40 (
                wGet (iaddr 1 t37 t39) H fun t41 H =>
                wGet (load1 t41 H) H fun t42 H =>
                wGet (iaddr 1 t11 t42) H fun t46 H =>
                wGet (load1 t46 H) H fun t47 H =>
                wNewS 1 1 (fillA (List.replicate 1 [(.val (.int .i64 0))]).flatten [(0, 1, t47)]) H fun t48 H =>
                wApp 1 8 t7 t48 H fun t49 H =>
                wGet (binA .add t39 (.val (.int .i64 1))) H fun t50 H =>
                I4 t49 t50 H) (
                wGet (faddr 0 t4) H fun t51 H =>
                wGet (load1 t51 H) H fun t52 H =>
                wGet (faddr 1 t4) H fun t56 H =>
                wGet (load1 t56 H) H fun t57 H =>
                wGet (faddr 1 t1) H fun t59 H =>
                wGet (load1 t59 H) H fun t60 H =>
                wGet (iaddr 1 t60 t6) H fun t62 H =>
                wGet (load1 t62 H) H fun t63 H =>
                (
                  wNewS 1 1 (fillA (List.replicate 1 [(.val (.slice none 0 0))]).flatten [(0, 1, t7)]) H fun t54 H =>
                  (wGet (load1 t51 H) H (fun y H2 => y = t52 ∧ H2 = H)) ∧
                  (wGet (load1 t56 H) H (fun y H2 => y = t57 ∧ H2 = H)) ∧
                  (wGet (load1 t59 H) H (fun y H2 => y = t60 ∧ H2 = H)) ∧
                  (wGet (load1 t62 H) H (fun y H2 => y = t63 ∧ H2 = H)) ∧
                  (
                    wApp 1 24 t52 t54 H fun t55 H =>
                    (wGet (load1 t56 H) H (fun y H2 => y = t57 ∧ H2 = H)) ∧
                    (wGet (load1 t59 H) H (fun y H2 => y = t60 ∧ H2 = H)) ∧
                    (wGet (load1 t62 H) H (fun y H2 => y = t63 ∧ H2 = H)) ∧
                    wGet (faddr 0 t4) H fun t67 H =>
                    wNewS 1 0 (fillA (List.replicate 0 [(.val (.int .i64 0))]).flatten []) H fun t58 H =>
                    (wGet (load1 t51 H) H (fun y H2 => y = t52 ∧ H2 = H)) ∧
                    (wGet (load1 t56 H) H (fun y H2 => y = t57 ∧ H2 = H)) ∧
                    (wGet (load1 t59 H) H (fun y H2 => y = t60 ∧ H2 = H)) ∧
                    (wGet (load1 t62 H) H (fun y H2 => y = t63 ∧ H2 = H)) ∧
                    wApp 1 8 t58 t63 H fun t64 H =>
                    (wGet (load1 t56 H) H (fun y H2 => y = t57 ∧ H2 = H)) ∧
                    wNewS 1 1 (fillA (List.replicate 1 [(.val (.slice none 0 0))]).flatten [(0, 1, t64)]) H fun t65 H =>
                    (wGet (load1 t56 H) H (fun y H2 => y = t57 ∧ H2 = H)) ∧
                    wApp 1 24 t57 t65 H fun t66 H =>
                    wPut (store1 t67 t55 H) fun _u H =>
                    wGet (faddr 1 t4) H fun t68 H =>
                    wPut (store1 t68 t66 H) fun _u H =>
                    J2 H) ∧
                  (
                    wNewS 1 0 (fillA (List.replicate 0 [(.val (.int .i64 0))]).flatten []) H fun t58_1 H =>
                    (wGet (load1 t51 H) H (fun y H2 => y = t52 ∧ H2 = H)) ∧
                    (wGet (load1 t56 H) H (fun y H2 => y = t57 ∧ H2 = H)) ∧
                    (wGet (load1 t59 H) H (fun y H2 => y = t60 ∧ H2 = H)) ∧
                    (wGet (load1 t62 H) H (fun y H2 => y = t63 ∧ H2 = H)) ∧
                    wApp 1 24 t52 t54 H fun t55_1 H =>
                    (wGet (load1 t56 H) H (fun y H2 => y = t57 ∧ H2 = H)) ∧
                    (wGet (load1 t59 H) H (fun y H2 => y = t60 ∧ H2 = H)) ∧
                    (wGet (load1 t62 H) H (fun y H2 => y = t63 ∧ H2 = H)) ∧
                    wGet (faddr 0 t4) H fun t67_1 H =>
                    wApp 1 8 t58_1 t63 H fun t64_1 H =>
                    (wGet (load1 t56 H) H (fun y H2 => y = t57 ∧ H2 = H)) ∧
                    wNewS 1 1 (fillA (List.replicate 1 [(.val (.slice none 0 0))]).flatten [(0, 1, t64_1)]) H fun t65_1 H =>
                    (wGet (load1 t56 H) H (fun y H2 => y = t57 ∧ H2 = H)) ∧
                    wApp 1 24 t57 t65_1 H fun t66_1 H =>
                    wPut (store1 t67_1 t55_1 H) fun _u H =>
                    wGet (faddr 1 t4) H fun t68_1 H =>
                    wPut (store1 t68_1 t66_1 H) fun _u H =>
                    J2 H)) ∧
                (
                  wNewS 1 0 (fillA (List.replicate 0 [(.val (.int .i64 0))]).flatten []) H fun t58_2 H =>
                  (wGet (load1 t51 H) H (fun y H2 => y = t52 ∧ H2 = H)) ∧
                  (wGet (load1 t56 H) H (fun y H2 => y = t57 ∧ H2 = H)) ∧
                  (wGet (load1 t59 H) H (fun y H2 => y = t60 ∧ H2 = H)) ∧
                  (wGet (load1 t62 H) H (fun y H2 => y = t63 ∧ H2 = H)) ∧
                  wNewS 1 1 (fillA (List.replicate 1 [(.val (.slice none 0 0))]).flatten [(0, 1, t7)]) H fun t54_1 H =>
                  (wGet (load1 t51 H) H (fun y H2 => y = t52 ∧ H2 = H)) ∧
                  (wGet (load1 t56 H) H (fun y H2 => y = t57 ∧ H2 = H)) ∧
                  (wGet (load1 t59 H) H (fun y H2 => y = t60 ∧ H2 = H)) ∧
                  (wGet (load1 t62 H) H (fun y H2 => y = t63 ∧ H2 = H)) ∧
                  wApp 1 24 t52 t54_1 H fun t55_2 H =>
                  (wGet (load1 t56 H) H (fun y H2 => y = t57 ∧ H2 = H)) ∧
                  (wGet (load1 t59 H) H (fun y H2 => y = t60 ∧ H2 = H)) ∧
                  (wGet (load1 t62 H) H (fun y H2 => y = t63 ∧ H2 = H)) ∧
                  wGet (faddr 0 t4) H fun t67_2 H =>
                  wApp 1 8 t58_2 t63 H fun t64_2 H =>
                  (wGet (load1 t56 H) H (fun y H2 => y = t57 ∧ H2 = H)) ∧
                  wNewS 1 1 (fillA (List.replicate 1 [(.val (.slice none 0 0))]).flatten [(0, 1, t64_2)]) H fun t65_2 H =>
                  (wGet (load1 t56 H) H (fun y H2 => y = t57 ∧ H2 = H)) ∧
                  wApp 1 24 t57 t65_2 H fun t66_2 H =>
                  wPut (store1 t67_2 t55_2 H) fun _u H =>
                  wGet (faddr 1 t4) H fun t68_2 H =>
                  wPut (store1 t68_2 t66_2 H) fun _u H =>
                  J2 H))))) fun H =>
      wGet (binA .add t5 (.val (.int .i64 1))) H fun t13 H =>
      I1 t13 H

/-- signalbox/signalboxlaw.sameInts -/
def law_sameInts (E : Env) (P : Program) (a0 a1 : AV) (H : AH) (R : Kt) : Prop :=
  wGet (lenA a0) H fun t7 H =>
  wGet (lenA a1) H fun t9 H =>
  wGet (binA .neq t7 t9) H fun t10 H =>
  wIf t10 (
    R (.val (.bool false)) H) (
    wLoop 1 (fun I1 => I1 (.val (.int .i64 0)) H) fun I1 t5 H =>
      wGet (lenA a0) H fun t13 H =>
      wGet (binA .lss t5 t13) H fun t14 H =>
      wIf t14 (
        wGet (iaddr 1 a0 t5) H fun t19 H =>
        wGet (load1 t19 H) H fun t20 H =>
        wGet (iaddr 1 a1 t5) H fun t23 H =>
        wGet (load1 t23 H) H fun t24 H =>
        wGet (binA .neq t20 t24) H fun t25 H =>
        wIf t25 (
          R (.val (.bool false)) H) (
          wGet (binA .add t5 (.val (.int .i64 1))) H fun t16 H =>
          I1 t16 H)) (
        R (.val (.bool true)) H))

/-- (signalbox/signalboxref.Table).Blocks -/
def ref_Table_Blocks (E : Env) (P : Program) (a0 : AV) (H : AH) (R : Kt) : Prop :=
  wNew 2 (AV.cells? a0) H fun t1 H =>
  wGet (loadN 2 t1 H) H fun t9 H =>
  wCall E P 85 [t9] H fun t10 H =>
  wGet (faddr 0 t1) H fun t11 H =>
  wGet (load1 t11 H) H fun t12 H =>
  wGet (lenA t12) H fun t13 H =>
  wLoop 3 (fun I1 => I1 (.val (.slice none 0 0)) (.val (.int .i64 0)) (.val (.int .i64 0)) H) fun I1 t4 t5 t14 H =>
    wGet (binA .lss t14 t13) H fun t15 H =>
    wIf t15 (
      wLoop 2 (fun I2 => I2 (.val (.int .i64 (-1))) (.val (.int .i64 0)) H) fun I2 t7 t18 H =>
        wGet (binA .lss t18 t14) H fun t19 H =>
        wIf t19 (
          wJoin 1 (fun J3 =>
            wGet (binA .lss t7 (.val (.int .i64 0))) H fun t22 H =>
            wGuard t22 true H (fun k => k t10 H) fun t24 H =>
            wGuard t22 true H (fun k => k t18 H) fun t25 H =>
            wGuard t22 true H (fun k => wGet (iaddr 1 t24 t25) H k) fun t26 H =>
            wGuard t22 true H (fun k => wGet (load1 t26 H) H k) fun t27 H =>
            wGuard t22 true H (fun k => k t14 H) fun t28 H =>
            wGuard t22 true H (fun k => wGet (iaddr 1 t27 t28) H k) fun t29 H =>
            wGuard t22 true H (fun k => wGet (load1 t29 H) H k) fun t30 H =>
            wGuard t22 true H (fun k => wGet (binA .eql t30 (.val (.int .i64 0))) H k) fun t31 H =>
            wGet (pickA t22 t31 (.val (.bool false))) H fun t32 H =>
            wIf t32 (
              wGet (iaddr 1 t4 t18) H fun t35 H =>
              wGet (load1 t35 H) H fun t36 H =>
              J3 t36 H) (
              J3 t7 H)) fun t7_1 H =>
            wGet (binA .add t18 (.val (.int .i64 1))) H fun t37 H =>
            I2 t7_1 t37 H) (
          wJoin 2 (fun J4 =>
            wGet (binA .lss t7 (.val (.int .i64 0))) H fun t39 H =>
            wIf t39 (
              wGet (binA .add t5 (.val (.int .i64 1))) H fun t42 H =>
              J4 t42 t5 H) (
              J4 t5 t7 H)) fun t5_1 t7_2 H =>
            wNewS 1 1 (fillA (List.replicate 1 [(.val (.int .i64 0))]).flatten [(0, 1, t7_2)]) H fun t45 H =>
            wApp 1 8 t4 t45 H fun t46 H =>
            wGet (binA .add t14 (.val (.int .i64 1))) H fun t47 H =>
            I1 t46 t5_1 t47 H)) (
      R t4 H)

/-- signalbox/signalboxlaw.sameLists -/
def law_sameLists (E : Env) (P : Program) (a0 a1 : AV) (H : AH) (R : Kt) : Prop :=
  wGet (lenA a0) H fun t7 H =>
  wGet (lenA a1) H fun t9 H =>
  wGet (binA .neq t7 t9) H fun t10 H =>
  wIf t10 (
    R (.val (.bool false)) H) (
    wLoop 1 (fun I1 => I1 (.val (.int .i64 0)) H) fun I1 t5 H =>
      wGet (lenA a0) H fun t13 H =>
      wGet (binA .lss t5 t13) H fun t14 H =>
      wIf t14 (
        wGet (iaddr 1 a0 t5) H fun t19 H =>
        wGet (load1 t19 H) H fun t20 H =>
        wGet (iaddr 1 a1 t5) H fun t23 H =>
        wGet (load1 t23 H) H fun t24 H =>
        wCall E P 80 [t20, t24] H fun t25 H =>
        wGet (unA .not t25) H fun t26 H =>
        wIf t26 (
          R (.val (.bool false)) H) (
          wGet (binA .add t5 (.val (.int .i64 1))) H fun t16 H =>
          I1 t16 H)) (
        R (.val (.bool true)) H))

/-- signalbox/signalboxref.TableCheck -/
def ref_TableCheck (E : Env) (P : Program) (a0 : AV) (H : AH) (R : Kt) : Prop :=
  wNew 2 (AV.cells? a0) H fun t1 H =>
  wNew 2 (some [(.val (.int .i64 0)), (.val (.int .i64 0))]) H fun t2 H =>
  wGet (faddr 0 t1) H fun t7 H =>
  wGet (load1 t7 H) H fun t8 H =>
  wGet (lenA t8) H fun t9 H =>
  wCall E P 86 [t9, (.val (.int .i64 1)), (.val (.int .i64 500))] H fun t11 H =>
  wGet (unA .not t11) H fun t12 H =>
  wGuard t12 false H (fun k => wGet (faddr 0 t1) H k) fun t14 H =>
  wGuard t12 false H (fun k => wGet (load1 t14 H) H k) fun t15 H =>
  wGuard t12 false H (fun k => wGet (iaddr 1 t15 (.val (.int .i64 0))) H k) fun t16 H =>
  wGuard t12 false H (fun k => wGet (load1 t16 H) H k) fun t17 H =>
  wGuard t12 false H (fun k => wGet (lenA t17) H k) fun t18 H =>
  wGuard t12 false H (fun k => wGet (binA .gtr t18 (.val (.int .i64 64))) H k) fun t19 H =>
  wGet (pickA t12 (.val (.bool true)) t19) H fun t20 H =>
  wIf t20 (
    wCall E P 87 [(.val (.int .i64 4))] H fun t21 H =>
    wPut (storeN 2 t2 t21 H) fun _u H =>
    wGet (retPack [loadN 2 t2 H]) H R) (
    wGet (faddr 1 t1) H fun t22 H =>
    wGet (load1 t22 H) H fun t23 H =>
    wGet (lenA t23) H fun t24 H =>
    wGet (binA .neq t24 t9) H fun t26 H =>
    wIf t26 (
      wCall E P 87 [(.val (.int .i64 3))] H fun t27 H =>
      wPut (storeN 2 t2 t27 H) fun _u H =>
      wGet (retPack [loadN 2 t2 H]) H R) (
      wGet (faddr 0 t1) H fun t28 H =>
      wGet (load1 t28 H) H fun t29 H =>
      wGet (lenA t29) H fun t30 H =>
      wLoop 1 (fun I1 => I1 (.val (.int .i64 0)) H) fun I1 t31 H =>
        wGet (binA .lss t31 t30) H fun t32 H =>
        wIf t32 (
          wGet (faddr 0 t1) H fun t34 H =>
          wGet (load1 t34 H) H fun t35 H =>
          wGet (iaddr 1 t35 t31) H fun t37 H =>
          wGet (load1 t37 H) H fun t38 H =>
          wGet (lenA t38) H fun t39 H =>
          wGet (faddr 0 t1) H fun t40 H =>
          wGet (load1 t40 H) H fun t41 H =>
          wGet (iaddr 1 t41 (.val (.int .i64 0))) H fun t42 H =>
          wGet (load1 t42 H) H fun t43 H =>
          wGet (lenA t43) H fun t44 H =>
          wGet (binA .neq t39 t44) H fun t45 H =>
          wGuard t45 false H (fun k => wGet (faddr 1 t1) H k) fun t47 H =>
          wGuard t45 false H (fun k => wGet (load1 t47 H) H k) fun t48 H =>
          wGuard t45 false H (fun k => k t31 H) fun t49 H =>
          wGuard t45 false H (fun k => wGet (iaddr 1 t48 t49) H k) fun t50 H =>
          wGuard t45 false H (fun k => wGet (load1 t50 H) H k) fun t51 H =>
          wGuard t45 false H (fun k => wGet (lenA t51) H k) fun t52 H =>
          wGuard t45 false H (fun k => wGet (faddr 0 t1) H k) fun t53 H =>
          wGuard t45 false H (fun k => wGet (load1 t53 H) H k) fun t54 H =>
          wGuard t45 false H (fun k => wGet (iaddr 1 t54 (.val (.int .i64 0))) H k) fun t55 H =>
          wGuard t45 false H (fun k => wGet (load1 t55 H) H k) fun t56 H =>
          wGuard t45 false H (fun k => wGet (lenA t56) H k) fun t57 H =>
          wGuard t45 false H (fun k => wGet (binA .neq t52 t57) H k) fun t58 H =>
          wGet (pickA t45 (.val (.bool true)) t58) H fun t59 H =>
          wIf t59 (
            wAgg (fillA [(.val (.int .i64 0)), (.val (.int .i64 0))] [(0, 1, (.val (.int .i64 3))), (1, 1, t31)]) H fun t61 H =>
            wPut (storeN 2 t2 t61 H) fun _u H =>
            wGet (retPack [loadN 2 t2 H]) H R) (
            wGet (faddr 0 t1) H fun t62 H =>
            wGet (load1 t62 H) H fun t63 H =>
            wGet (iaddr 1 t63 t31) H fun t65 H =>
            wGet (load1 t65 H) H fun t66 H =>
            wGet (lenA t66) H fun t67 H =>
            wLoop 1 (fun I2 => I2 (.val (.int .i64 0)) H) fun I2 t68 H =>
              wGet (binA .lss t68 t67) H fun t69 H =>
              wIf t69 (
                wGet (iaddr 1 t66 t68) H fun t70 H =>
                wGet (load1 t70 H) H fun t71 H =>
                wGet (binA .sub t9 (.val (.int .i64 1))) H fun t74 H =>
                wCall E P 86 [t71, (.val (.int .i64 0)), t74] H fun t75 H =>
                wGet (unA .not t75) H fun t76 H =>
                wIf t76 (
                  wAgg (fillA [(.val (.int .i64 0)), (.val (.int .i64 0))] [(0, 1, (.val (.int .i64 2))), (1, 1, t31)]) H fun t78 H =>
                  wPut (storeN 2 t2 t78 H) fun _u H =>
                  wGet (retPack [loadN 2 t2 H]) H R) (
                  wGet (binA .add t68 (.val (.int .i64 1))) H fun t79 H =>
                  I2 t79 H)) (
                wGet (binA .add t31 (.val (.int .i64 1))) H fun t80 H =>
                I1 t80 H))) (
          wGet (loadN 2 (gptr E 5) H) H fun t81 H =>
          wPut (storeN 2 t2 t81 H) fun _u H =>
          wGet (retPack [loadN 2 t2 H]) H R)))

/-- signalbox/plain.Place -/
def plain_Place (E : Env) (P : Program) (a0 : AV) (H : AH) (R : Kt) : Prop :=
  wCall E P 53 [a0] H fun t10 H =>
  wJoin 0 (fun J1 =>
    wLoop 1 (fun I2 => I2 a0 H) fun I2 t0 H =>
      wBool (eqA .iface t0 (.val (.nilIface))) H true fun t12 H =>
      wIf t12 (
        wGet (assertA 2 (.val (.pointer none)) t0) H fun t15 H =>
        wGet (extractA t15 0) H fun t16 H =>
        wGet (extractA t15 1) H fun t17 H =>
        wGuard t17 true H (fun k => k t16 H) fun t20 H =>
        wGuard t17 true H (fun k => wBool (eqA .ptr t20 (.val (.pointer none))) H true k) fun t21 H =>
        wGet (pickA t17 t21 (.val (.bool false))) H fun t22 H =>
        wIf t22 (
          wGet (nilA t16) H fun t25 H =>
          wGet (faddr 1 t25) H fun t26 H =>
          wGet (load1 t26 H) H fun t27 H =>
          (wGet (load1 t26 H) H (fun y H2 => y = t27 ∧ H2 = H)) ∧
          R (.tup [t10, t27]) H) (
          wAsI E P 6 t0 H fun t30 H =>
          wGet (extractA t30 0) H fun t31 H =>
          wGet (extractA t30 1) H fun t32 H =>
          wGet (unA .not t32) H fun t34 H =>
          wIf t34 (
            J1 H) (
            wInv E P t31 "Unwrap" [] H fun t36 H =>
            I2 t36 H))) (
        J1 H)) fun H =>
    R (.tup [t10, (.val (.int .i64 (-1)))]) H

/-- (signalbox/signalboxref.Table).apart -/
def ref_Table_apart (E : Env) (P : Program) (a0 : AV) (H : AH) (R : Kt) : Prop :=
  wNew 2 (AV.cells? a0) H fun t1 H =>
  wGet (faddr 0 t1) H fun t13 H =>
  wGet (load1 t13 H) H fun t14 H =>
  wGet (lenA t14) H fun t15 H =>
  wMake 1 24 [(.val (.slice none 0 0))] t15 t15 H fun t17 H =>
  wGet (lenA t17) H fun t19 H =>
  wLoop 1 (fun I1 => I1 (.val (.int .i64 0)) H) fun I1 t20 H =>
    wGet (binA .lss t20 t19) H fun t21 H =>
    wIf t21 (
      wMake 1 8 [(.val (.int .i64 0))] t15 t15 H fun t26 H =>
      wGet (iaddr 1 t17 t20) H fun t27 H =>
      wPut (store1 t27 t26 H) fun _u H =>
      wGet (binA .add t20 (.val (.int .i64 1))) H fun t28 H =>
      I1 t28 H) (
      wLoop 1 (fun I2 => I2 (.val (.int .i64 1)) H) fun I2 t6 H =>
        wLoop 2 (fun I3 => I3 (.val (.bool false)) (.val (.int .i64 0)) H) fun I3 t7 t32 H =>
          wGet (binA .lss t32 t15) H fun t33 H =>
          wIf t33 (
            wLoop 2 (fun I4 => I4 t7 (.val (.int .i64 0)) H) fun I4 t7_1 t36 H =>
              wGet (binA .lss t36 t15) H fun t37 H =>
              wIf t37 (
                wJoin 1 (fun J5 =>
                  wGet (iaddr 1 t17 t32) H fun t41 H =>
                  wGet (load1 t41 H) H fun t42 H =>
                  wGet (iaddr 1 t42 t36) H fun t44 H =>
                  wGet (load1 t44 H) H fun t45 H =>
                  wGet (binA .gtr t45 (.val (.int .i64 0))) H fun t46 H =>
                  wIf t46 (
                    J5 t7_1 H) (
                    wGet (faddr 0 t1) H fun t47 H =>
                    wGet (load1 t47 H) H fun t48 H =>
                    wGet (iaddr 1 t48 t32) H fun t50 H =>
                    wGet (load1 t50 H) H fun t51 H =>
                    wGet (lenA t51) H fun t52 H =>
                    wLoop 2 (fun I6 => I6 t7_1 (.val (.int .i64 0)) H) fun I6 t7_2 t53 H =>
                      wGet (binA .lss t53 t52) H fun t54 H =>
                      wIf t54 (
                        wGet (faddr 0 t1) H fun t56 H =>
                        wGet (load1 t56 H) H fun t57 H =>
                        wGet (iaddr 1 t57 t32) H fun t59 H =>
                        wGet (load1 t59 H) H fun t60 H =>
                        wGet (iaddr 1 t60 t53) H fun t62 H =>
                        wGet (load1 t62 H) H fun t63 H =>
                        wGet (faddr 0 t1) H fun t64 H =>
                        wGet (load1 t64 H) H fun t65 H =>
                        wGet (iaddr 1 t65 t36) H fun t67 H =>
                        wGet (load1 t67 H) H fun t68 H =>
                        wGet (iaddr 1 t68 t53) H fun t70 H =>
                        wGet (load1 t70 H) H fun t71 H =>
                        (wGet (load1 t64 H) H (fun y H2 => y = t65 ∧ H2 = H)) ∧
                        (wGet (load1 t67 H) H (fun y H2 => y = t68 ∧ H2 = H)) ∧
                        (wGet (load1 t70 H) H (fun y H2 => y = t71 ∧ H2 = H)) ∧
                        wGet (binA .eql t6 (.val (.int .i64 1))) H fun t73 H =>
                        wGuard t73 true H (fun k => wGet (faddr 1 t1) H k) fun t75 H =>
                        wGuard t73 true H (fun k => wGet (load1 t75 H) H k) fun t76 H =>
                        wGuard t73 true H (fun k => k t32 H) fun t77 H =>
                        wGuard t73 true H (fun k => wGet (iaddr 1 t76 t77) H k) fun t78 H =>
                        wGuard t73 true H (fun k => wGet (load1 t78 H) H k) fun t79 H =>
                        wGuard t73 true H (fun k => k t53 H) fun t80 H =>
                        wGuard t73 true H (fun k => wGet (iaddr 1 t79 t80) H k) fun t81 H =>
                        wGuard t73 true H (fun k => wGet (load1 t81 H) H k) fun t82 H =>
                        wGuard t73 true H (fun k => wGet (faddr 1 t1) H k) fun t83 H =>
                        wGuard t73 true H (fun k => wGet (load1 t83 H) H k) fun t84 H =>
                        wGuard t73 true H (fun k => k t36 H) fun t85 H =>
                        wGuard t73 true H (fun k => wGet (iaddr 1 t84 t85) H k) fun t86 H =>
                        wGuard t73 true H (fun k => wGet (load1 t86 H) H k) fun t87 H =>
                        wGuard t73 true H (fun k => k t53 H) fun t88 H =>
                        wGuard t73 true H (fun k => wGet (iaddr 1 t87 t88) H k) fun t89 H =>
                        wGuard t73 true H (fun k => wGet (load1 t89 H) H k) fun t90 H =>
                        wGuard t73 true H (fun k => wGet (binA .neq t82 t90) H k) fun t91 H =>
                        wGet (pickA t73 t91 (.val (.bool false))) H fun t92 H =>
                        wGuard t92 false H (fun k => k t6 H) fun t94 H =>
                        wGuard t92 false H (fun k => wGet (binA .gtr t94 (.val (.int .i64 1))) H k) fun t95 H =>
                        wGuard t92 false H (fun k => k t95 H) fun t96 H =>
                        wGuard t96 true H (fun k => k t17 H) fun t97 H =>
                        wGuard t96 true H (fun k => k t63 H) fun t98 H =>
                        wGuard t96 true H (fun k => wGet (iaddr 1 t97 t98) H k) fun t99 H =>
                        wGuard t96 true H (fun k => wGet (load1 t99 H) H k) fun t100 H =>
                        wGuard t96 true H (fun k => k t71 H) fun t101 H =>
                        wGuard t96 true H (fun k => wGet (iaddr 1 t100 t101) H k) fun t102 H =>
                        wGuard t96 true H (fun k => wGet (load1 t102 H) H k) fun t103 H =>
                        wGuard t96 true H (fun k => k t6 H) fun t104 H =>
                        wGuard t96 true H (fun k => wGet (binA .sub t104 (.val (.int .i64 1))) H k) fun t105 H =>
                        wGuard t96 true H (fun k => wGet (binA .eql t103 t105) H k) fun t106 H =>
                        wGuard t92 false H (fun k => wGet (pickA t96 t106 (.val (.bool false))) H k) fun t107 H =>
                        wGet (pickA t92 (.val (.bool true)) t107) H fun t108 H =>
                        wIf t108 (
                          wGet (iaddr 1 t17 t32) H fun t111 H =>
                          wGet (load1 t111 H) H fun t112 H =>
                          wGet (iaddr 1 t112 t36) H fun t115 H =>
                          wPut (store1 t115 t6 H) fun _u H =>
                          J5 (.val (.bool true)) H) (
                          wGet (binA .add t53 (.val (.int .i64 1))) H fun t116 H =>
                          I6 t7_2 t116 H)) (
                        J5 t7_2 H))) fun t7_3 H =>
                  wGet (binA .add t36 (.val (.int .i64 1))) H fun t117 H =>
                  I4 t7_3 t117 H) (
                wGet (binA .add t32 (.val (.int .i64 1))) H fun t118 H =>
                I3 t7_1 t118 H)) (
            wGet (unA .not t7) H fun t120 H =>
            wIf t120 (
              R t17 H) (
              wGet (binA .add t6 (.val (.int .i64 1))) H fun t30 H =>
              I2 t30 H)))

/-- signalbox/signalboxref.within -/
def ref_within (E : Env) (P : Program) (a0 a1 a2 : AV) (H : AH) (R : Kt) : Prop :=
  wGet (binA .geq a0 a1) H fun t9 H =>
  wGuard t9 true H (fun k => k a0 H) fun t11 H =>
  wGuard t9 true H (fun k => k a2 H) fun t12 H =>
  wGuard t9 true H (fun k => wGet (binA .leq t11 t12) H k) fun t13 H =>
  wGet (pickA t9 t13 (.val (.bool false))) H fun t14 H =>
  R t14 H

/-- signalbox/signalboxref.Bare -/
def ref_Bare (E : Env) (P : Program) (a0 : AV) (H : AH) (R : Kt) : Prop :=
  wNew 2 (some [(.val (.int .i64 0)), (.val (.int .i64 0))]) H fun t2 H =>
  wAgg (fillA [(.val (.int .i64 0)), (.val (.int .i64 0))] [(0, 1, a0), (1, 1, (.val (.int .i64 (-1))))]) H fun t4 H =>
  wPut (storeN 2 t2 t4 H) fun _u H =>
  wGet (retPack [loadN 2 t2 H]) H R

end Go.Sc.F
namespace Go.Sc
open Go
set_option linter.unusedSimpArgs false
set_option linter.unusedVariables false

structure PlaceBodies (E : Env) (P : Program) : Prop where
  place : Body1 E P 84 F.plain_Place
  tell : ∀ e, FX E P 53 [Er e] (Z e)
  tellAt : ∀ e p, FX E P 53 [At e p] (Z e)
  noUnwrap : HasM E P 6 1 false
section
variable {E : Env} {P : Program}
theorem Place_spec (B : PlaceBodies E P) (e : Int) : FX E P 84 [Er e] (.tup [Z e, Z (-1)]) := by
  refine FX.of' (by simp [AV.closedL, Er_closed]) (by simp [AV.closed, AV.closedL]) fun n R hR => B.place _ _ _ ?_
  unfold F.plain_Place
  refine wCall.fx (B.tell e) fun n => ?_
  refine wJoin.zero (fun H => True) ?_ (fun H _ => hR _ _ rfl)
  refine wLoop.one (fun m t H => t = Er e) 0 (gh1.mk rfl) ?_
  rintro m t H rfl
  by_cases he : e = 0
  · subst he
    rw [Er_zero]
    simp only [Y0, Y1, Y2, Y3, Y4, Y5, Y6, Y7, Y8, Y9, Ya, Yb, Yc, Yd, Ye, Yf, Yg, Yh, Yi, Yj, Yk, Yl, Ym, Yn, Yo, Yp, Yq, Yr, Ys, Yt, Yu, Yv, Yw, Yx, Yy, Yz, Y10, Y11, Y12, Y13, Y14, Y15, Y16, Y17, Y18, Y19, Y1a, Y1b, Y1c, Y1d, Y1e, Y1f, Y1g, Y1h, Y1i, Y1j, Y1k, Y1l, AV.cells?, Y1n, Y1o, Y1p, Y1q, Y1r, Y1s, Y1t, Nat.reduceAdd, Nat.reduceMul, Y1w, Y1x, Y1y, Y1z, Y20, Y21, Y22, Y23, Y24, Y25, Y26, Y27, Y28, Y29, Y2a, Y2b]
    exact gh0.mk trivial
  · rw [Er_ne he]
    simp only [Y0, Y1, Y2, Y3, Y4, Y5, Y6, Y7, Y8, Y9, Ya, Yb, Yc, Yd, Ye, Yf, Yg, Yh, Yi, Yj, Yk, Yl, Ym, Yn, Yo, Yp, Yq, Yr, Ys, Yt, Yu, Yv, Yw, Yx, Yy, Yz, Y10, Y11, Y12, Y13, Y14, Y15, Y16, Y17, Y18, Y19, Y1a, Y1b, Y1c, Y1d, Y1e, Y1f, Y1g, Y1h, Y1i, Y1j, Y1k, Y1l, AV.cells?, Y1n, Y1o, Y1p, Y1q, Y1r, Y1s, Y1t, Nat.reduceAdd, Nat.reduceMul, Y1w, Y1x, Y1y, Y1z, Y20, Y21, Y22, Y23, Y24, Y25, Y26, Y27, Y28, Y29, Y2a, Y2b, show assertA 2 (.val (.pointer none)) (.ifc 1 (Z e)) = some (.tup [nilP, .val (.bool false)]) from rfl]
    refine ⟨.inr ⟨1, _, false, rfl, B.noUnwrap, ?_⟩⟩
    simp only [Y0, Y1, Y2, Y3, Y4, Y5, Y6, Y7, Y8, Y9, Ya, Yb, Yc, Yd, Ye, Yf, Yg, Yh, Yi, Yj, Yk, Yl, Ym, Yn, Yo, Yp, Yq, Yr, Ys, Yt, Yu, Yv, Yw, Yx, Yy, Yz, Y10, Y11, Y12, Y13, Y14, Y15, Y16, Y17, Y18, Y19, Y1a, Y1b, Y1c, Y1d, Y1e, Y1f, Y1g, Y1h, Y1i, Y1j, Y1k, Y1l, AV.cells?, Y1n, Y1o, Y1p, Y1q, Y1r, Y1s, Y1t, Nat.reduceAdd, Nat.reduceMul, Y1w, Y1x, Y1y, Y1z, Y20, Y21, Y22, Y23, Y24, Y25, Y26, Y27, Y28, Y29, Y2a, Y2b]
    exact gh0.mk trivial
theorem PlaceAt_spec (B : PlaceBodies E P) (e p : Int) : FX E P 84 [At e p] (.tup [Z e, Z p]) := by
  refine FX.of' (by simp [AV.closedL, At_closed]) (by simp [AV.closed, AV.closedL]) fun n R hR => B.place _ _ _ ?_
  unfold F.plain_Place
  refine wCall.fx (B.tellAt e p) fun n => ?_
  refine wJoin.zero (fun H => False) ?_ (fun H h => h.elim)
  refine wLoop.one (fun m t H => t = At e p) 0 (gh1.mk rfl) ?_
  rintro m t H rfl
  unfold At
  simp only [Y0, Y1, Y2, Y3, Y4, Y5, Y6, Y7, Y8, Y9, Ya, Yb, Yc, Yd, Ye, Yf, Yg, Yh, Yi, Yj, Yk, Yl, Ym, Yn, Yo, Yp, Yq, Yr, Ys, Yt, Yu, Yv, Yw, Yx, Yy, Yz, Y10, Y11, Y12, Y13, Y14, Y15, Y16, Y17, Y18, Y19, Y1a, Y1b, Y1c, Y1d, Y1e, Y1f, Y1g, Y1h, Y1i, Y1j, Y1k, Y1l, AV.cells?, Y1n, Y1o, Y1p, Y1q, Y1r, Y1s, Y1t, Nat.reduceAdd, Nat.reduceMul, Y1w, Y1x, Y1y, Y1z, Y20, Y21, Y22, Y23, Y24, Y25, Y26, Y27, Y28, Y29, Y2a, Y2b, show assertA 2 (.val (.pointer none)) (.ifc 2 (.ptrF [Z e, Z p] 0)) = some (.tup [.ptrF [Z e, Z p] 0, .val (.bool true)]) from rfl, and_self, true_and]
  exact hR _ _ rfl

theorem at_spec (B : PlaceBodies E P) (hB : Body2 E P 77 F.law_at) (c e p : Int) : FX E P 77 [Er c, .agg [Z e, Z p]] (Bo (decide (c = e) && decide (-1 = p))) := by
  refine FX.of' (by simp [AV.closedL, Er_closed, AV.closed]) (by simp [AV.closed]) fun n R hR => hB _ _ _ _ ?_
  unfold F.law_at
  refine wNew.F' (l := [Z e, Z p]) rfl ?_
  refine wCall.fx (Place_spec B c) fun n => ?_
  simp only [Y0, Y1, Y2, Y3, Y4, Y5, Y6, Y7, Y8, Y9, Ya, Yb, Yc, Yd, Ye, Yf, Yg, Yh, Yi, Yj, Yk, Yl, Ym, Yn, Yo, Yp, Yq, Yr, Ys, Yt, Yu, Yv, Yw, Yx, Yy, Yz, Y10, Y11, Y12, Y13, Y14, Y15, Y16, Y17, Y18, Y19, Y1a, Y1b, Y1c, Y1d, Y1e, Y1f, Y1g, Y1h, Y1i, Y1j, Y1k, Y1l, AV.cells?, Y1n, Y1o, Y1p, Y1q, Y1r, Y1s, Y1t, Nat.reduceAdd, Nat.reduceMul, Y1w, Y1x, Y1y, Y1z, Y20, Y21, Y22, Y23, Y24, Y25, Y26, Y27, Y28, Y29, Y2a, Y2b]
  by_cases h : c = e
  · simp only [Y0, Y1, Y2, Y3, Y4, Y5, Y6, Y7, Y8, Y9, Ya, Yb, Yc, Yd, Ye, Yf, Yg, Yh, Yi, Yj, Yk, Yl, Ym, Yn, Yo, Yp, Yq, Yr, Ys, Yt, Yu, Yv, Yw, Yx, Yy, Yz, Y10, Y11, Y12, Y13, Y14, Y15, Y16, Y17, Y18, Y19, Y1a, Y1b, Y1c, Y1d, Y1e, Y1f, Y1g, Y1h, Y1i, Y1j, Y1k, Y1l, AV.cells?, Y1n, Y1o, Y1p, Y1q, Y1r, Y1s, Y1t, Nat.reduceAdd, Nat.reduceMul, Y1w, Y1x, Y1y, Y1z, Y20, Y21, Y22, Y23, Y24, Y25, Y26, Y27, Y28, Y29, Y2a, Y2b, decide_eq_true h]
    exact hR _ _ (by rw [decide_eq_true h]; simp)
  · simp only [Y0, Y1, Y2, Y3, Y4, Y5, Y6, Y7, Y8, Y9, Ya, Yb, Yc, Yd, Ye, Yf, Yg, Yh, Yi, Yj, Yk, Yl, Ym, Yn, Yo, Yp, Yq, Yr, Ys, Yt, Yu, Yv, Yw, Yx, Yy, Yz, Y10, Y11, Y12, Y13, Y14, Y15, Y16, Y17, Y18, Y19, Y1a, Y1b, Y1c, Y1d, Y1e, Y1f, Y1g, Y1h, Y1i, Y1j, Y1k, Y1l, AV.cells?, Y1n, Y1o, Y1p, Y1q, Y1r, Y1s, Y1t, Nat.reduceAdd, Nat.reduceMul, Y1w, Y1x, Y1y, Y1z, Y20, Y21, Y22, Y23, Y24, Y25, Y26, Y27, Y28, Y29, Y2a, Y2b, decide_eq_false h]
    exact hR _ _ (by rw [decide_eq_false h]; simp)
theorem atAt_spec (B : PlaceBodies E P) (hB : Body2 E P 77 F.law_at) (c q e p : Int) : FX E P 77 [At c q, .agg [Z e, Z p]] (Bo (decide (c = e) && decide (q = p))) := by
  refine FX.of' (by simp [AV.closedL, At_closed, AV.closed]) (by simp [AV.closed]) fun n R hR => hB _ _ _ _ ?_
  unfold F.law_at
  refine wNew.F' (l := [Z e, Z p]) rfl ?_
  refine wCall.fx (PlaceAt_spec B c q) fun n => ?_
  simp only [Y0, Y1, Y2, Y3, Y4, Y5, Y6, Y7, Y8, Y9, Ya, Yb, Yc, Yd, Ye, Yf, Yg, Yh, Yi, Yj, Yk, Yl, Ym, Yn, Yo, Yp, Yq, Yr, Ys, Yt, Yu, Yv, Yw, Yx, Yy, Yz, Y10, Y11, Y12, Y13, Y14, Y15, Y16, Y17, Y18, Y19, Y1a, Y1b, Y1c, Y1d, Y1e, Y1f, Y1g, Y1h, Y1i, Y1j, Y1k, Y1l, AV.cells?, Y1n, Y1o, Y1p, Y1q, Y1r, Y1s, Y1t, Nat.reduceAdd, Nat.reduceMul, Y1w, Y1x, Y1y, Y1z, Y20, Y21, Y22, Y23, Y24, Y25, Y26, Y27, Y28, Y29, Y2a, Y2b]
  by_cases h : c = e
  · simp only [Y0, Y1, Y2, Y3, Y4, Y5, Y6, Y7, Y8, Y9, Ya, Yb, Yc, Yd, Ye, Yf, Yg, Yh, Yi, Yj, Yk, Yl, Ym, Yn, Yo, Yp, Yq, Yr, Ys, Yt, Yu, Yv, Yw, Yx, Yy, Yz, Y10, Y11, Y12, Y13, Y14, Y15, Y16, Y17, Y18, Y19, Y1a, Y1b, Y1c, Y1d, Y1e, Y1f, Y1g, Y1h, Y1i, Y1j, Y1k, Y1l, AV.cells?, Y1n, Y1o, Y1p, Y1q, Y1r, Y1s, Y1t, Nat.reduceAdd, Nat.reduceMul, Y1w, Y1x, Y1y, Y1z, Y20, Y21, Y22, Y23, Y24, Y25, Y26, Y27, Y28, Y29, Y2a, Y2b, decide_eq_true h]
    exact hR _ _ (by rw [decide_eq_true h]; simp)
  · simp only [Y0, Y1, Y2, Y3, Y4, Y5, Y6, Y7, Y8, Y9, Ya, Yb, Yc, Yd, Ye, Yf, Yg, Yh, Yi, Yj, Yk, Yl, Ym, Yn, Yo, Yp, Yq, Yr, Ys, Yt, Yu, Yv, Yw, Yx, Yy, Yz, Y10, Y11, Y12, Y13, Y14, Y15, Y16, Y17, Y18, Y19, Y1a, Y1b, Y1c, Y1d, Y1e, Y1f, Y1g, Y1h, Y1i, Y1j, Y1k, Y1l, AV.cells?, Y1n, Y1o, Y1p, Y1q, Y1r, Y1s, Y1t, Nat.reduceAdd, Nat.reduceMul, Y1w, Y1x, Y1y, Y1z, Y20, Y21, Y22, Y23, Y24, Y25, Y26, Y27, Y28, Y29, Y2a, Y2b, decide_eq_false h]
    exact hR _ _ (by rw [decide_eq_false h]; simp)

theorem within_spec (hB : Body3 E P 86 F.ref_within) (x a b : Int) : FX E P 86 [Z x, Z a, Z b] (Bo (decide (a ≤ x) && decide (x ≤ b))) := by
  refine FX.of' (by simp [AV.closedL, AV.closed]) (by simp [AV.closed]) fun n R hR => hB _ _ _ _ _ ?_
  unfold F.ref_within
  simp only [Y0, Y1, Y2, Y3, Y4, Y5, Y6, Y7, Y8, Y9, Ya, Yb, Yc, Yd, Ye, Yf, Yg, Yh, Yi, Yj, Yk, Yl, Ym, Yn, Yo, Yp, Yq, Yr, Ys, Yt, Yu, Yv, Yw, Yx, Yy, Yz, Y10, Y11, Y12, Y13, Y14, Y15, Y16, Y17, Y18, Y19, Y1a, Y1b, Y1c, Y1d, Y1e, Y1f, Y1g, Y1h, Y1i, Y1j, Y1k, Y1l, AV.cells?, Y1n, Y1o, Y1p, Y1q, Y1r, Y1s, Y1t, Nat.reduceAdd, Nat.reduceMul, Y1w, Y1x, Y1y, Y1z, Y20, Y21, Y22, Y23, Y24, Y25, Y26, Y27, Y28, Y29, Y2a, Y2b]
  by_cases h : a ≤ x
  · simp only [Y0, Y1, Y2, Y3, Y4, Y5, Y6, Y7, Y8, Y9, Ya, Yb, Yc, Yd, Ye, Yf, Yg, Yh, Yi, Yj, Yk, Yl, Ym, Yn, Yo, Yp, Yq, Yr, Ys, Yt, Yu, Yv, Yw, Yx, Yy, Yz, Y10, Y11, Y12, Y13, Y14, Y15, Y16, Y17, Y18, Y19, Y1a, Y1b, Y1c, Y1d, Y1e, Y1f, Y1g, Y1h, Y1i, Y1j, Y1k, Y1l, AV.cells?, Y1n, Y1o, Y1p, Y1q, Y1r, Y1s, Y1t, Nat.reduceAdd, Nat.reduceMul, Y1w, Y1x, Y1y, Y1z, Y20, Y21, Y22, Y23, Y24, Y25, Y26, Y27, Y28, Y29, Y2a, Y2b, decide_eq_true h]
    exact hR _ _ (by rw [decide_eq_true h]; simp)
  · simp only [Y0, Y1, Y2, Y3, Y4, Y5, Y6, Y7, Y8, Y9, Ya, Yb, Yc, Yd, Ye, Yf, Yg, Yh, Yi, Yj, Yk, Yl, Ym, Yn, Yo, Yp, Yq, Yr, Ys, Yt, Yu, Yv, Yw, Yx, Yy, Yz, Y10, Y11, Y12, Y13, Y14, Y15, Y16, Y17, Y18, Y19, Y1a, Y1b, Y1c, Y1d, Y1e, Y1f, Y1g, Y1h, Y1i, Y1j, Y1k, Y1l, AV.cells?, Y1n, Y1o, Y1p, Y1q, Y1r, Y1s, Y1t, Nat.reduceAdd, Nat.reduceMul, Y1w, Y1x, Y1y, Y1z, Y20, Y21, Y22, Y23, Y24, Y25, Y26, Y27, Y28, Y29, Y2a, Y2b, decide_eq_false h]
    exact hR _ _ (by rw [decide_eq_false h]; simp)
theorem Bare_spec (hB : Body1 E P 87 F.ref_Bare) (e : Int) : FX E P 87 [Z e] (.agg [Z e, Z (-1)]) := by
  refine FX.of' (by simp [AV.closedL, AV.closed]) (by simp [AV.closed, AV.closedL]) fun n R hR => hB _ _ _ ?_
  unfold F.ref_Bare
  refine wNew.L rfl ?_
  refine ⟨⟨[Z e, Z (-1)], rfl, ?_⟩⟩
  simp only [Y0, Y1, Y2, Y3, Y4, Y5, Y6, Y7, Y8, Y9, Ya, Yb, Yc, Yd, Ye, Yf, Yg, Yh, Yi, Yj, Yk, Yl, Ym, Yn, Yo, Yp, Yq, Yr, Ys, Yt, Yu, Yv, Yw, Yx, Yy, Yz, Y10, Y11, Y12, Y13, Y14, Y15, Y16, Y17, Y18, Y19, Y1a, Y1b, Y1c, Y1d, Y1e, Y1f, Y1g, Y1h, Y1i, Y1j, Y1k, Y1l, AV.cells?, Y1n, Y1o, Y1p, Y1q, Y1r, Y1s, Y1t, Nat.reduceAdd, Nat.reduceMul, Y1w, Y1x, Y1y, Y1z, Y20, Y21, Y22, Y23, Y24, Y25, Y26, Y27, Y28, Y29, Y2a, Y2b]
  rw [storeN_L (n := 2) (xs := [Z e, Z (-1)]) rfl rfl]
  simp only [Y0, Y1, Y2, Y3, Y4, Y5, Y6, Y7, Y8, Y9, Ya, Yb, Yc, Yd, Ye, Yf, Yg, Yh, Yi, Yj, Yk, Yl, Ym, Yn, Yo, Yp, Yq, Yr, Ys, Yt, Yu, Yv, Yw, Yx, Yy, Yz, Y10, Y11, Y12, Y13, Y14, Y15, Y16, Y17, Y18, Y19, Y1a, Y1b, Y1c, Y1d, Y1e, Y1f, Y1g, Y1h, Y1i, Y1j, Y1k, Y1l, AV.cells?, Y1n, Y1o, Y1p, Y1q, Y1r, Y1s, Y1t, Nat.reduceAdd, Nat.reduceMul, Y1w, Y1x, Y1y, Y1z, Y20, Y21, Y22, Y23, Y24, Y25, Y26, Y27, Y28, Y29, Y2a, Y2b, show ∀ a b a' b' : AV, putL [a, b] 0 [a', b'] = some [a', b'] from fun _ _ _ _ => rfl, show retPack [some (.agg [Z e, Z (-1)])] = some (.agg [Z e, Z (-1)]) from rfl]
  exact hR _ _ rfl
end
end Go.Sc
namespace Go.Sc.F
open Go Go.Sc
set_option linter.unusedVariables false

/-- signalbox/signalboxlaw.BlockParts -/
def law_BlockParts (E : Env) (P : Program) (a0 a1 a2 a3 : AV) (H : AH) (R : Kt) : Prop :=
  wNew 2 (AV.cells? a0) H fun t4 H =>
  wGet (loadN 2 t4 H) H fun t22 H =>
  wCall E P 76 [t22] H fun t23 H =>
  wGet (extractA t23 0) H fun t24 H =>
  wGet (extractA t23 1) H fun t25 H =>
  wGet (extractA t23 2) H fun t26 H =>
  wNew 2 (some [(.val (.slice none 0 0)), (.val (.slice none 0 0))]) H fun t9 H =>
  wNew 2 (some [(.val (.int .i64 0)), (.val (.int .i64 0))]) H fun t10 H =>
  wPut (storeN 2 t9 t24 H) fun _u H =>
  wPut (storeN 2 t10 t25 H) fun _u H =>
  wGet (unA .not t26) H fun t28 H =>
  wGuard t28 false H (fun k => k a3 H) fun t30 H =>
  wGuard t28 false H (fun k => wGet (lenA t30) H k) fun t31 H =>
  wGuard t28 false H (fun k => wGet (binA .gtr t31 (.val (.int .i64 60))) H k) fun t32 H =>
  wGet (pickA t28 (.val (.bool true)) t32) H fun t33 H =>
  wIf t33 (
    R (.val (.bool true)) H) (
    wGet (loadN 2 t4 H) H fun t35 H =>
    wCall E P 52 [t35, a1, a2] H fun t38 H =>
    wGet (extractA t38 0) H fun t39 H =>
    wGet (extractA t38 1) H fun t40 H =>
    wGet (loadN 2 t4 H) H fun t42 H =>
    wCall E P 50 [t42, a1, a3] H fun t45 H =>
    wGet (extractA t45 0) H fun t46 H =>
    wGet (extractA t45 1) H fun t47 H =>
    wGet (faddr 0 t10) H fun t48 H =>
    wGet (load1 t48 H) H fun t49 H =>
    wGet (binA .neq t49 (.val (.int .i64 0))) H fun t50 H =>
    wIf t50 (
      wGet (loadN 2 t10 H) H fun t52 H =>
      wCall E P 77 [t40, t52] H fun t53 H =>
      wGuard t53 true H (fun k => k t47 H) fun t55 H =>
      wGuard t53 true H (fun k => wGet (loadN 2 t10 H) H k) fun t56 H =>
      wGuard t53 true H (fun k => wCall E P 77 [t55, t56] H k) fun t57 H =>
      wGet (pickA t53 t57 (.val (.bool false))) H fun t58 H =>
      wGuard t58 true H (fun k => k t39 H) fun t60 H =>
      wGuard t58 true H (fun k => wGet (lenA t60) H k) fun t61 H =>
      wGuard t58 true H (fun k => k t46 H) fun t62 H =>
      wGuard t58 true H (fun k => wGet (lenA t62) H k) fun t63 H =>
      wGuard t58 true H (fun k => wGet (binA .add t61 t63) H k) fun t64 H =>
      wGuard t58 true H (fun k => wGet (binA .eql t64 (.val (.int .i64 0))) H k) fun t65 H =>
      wGet (pickA t58 t65 (.val (.bool false))) H fun t66 H =>
      R t66 H) (
      wGet (faddr 0 t4) H fun t67 H =>
      wGet (load1 t67 H) H fun t68 H =>
      wGet (lenA t68) H fun t69 H =>
      wJoin 2 (fun J1 =>
        wGet (binA .lss a1 (.val (.int .i64 0))) H fun t71 H =>
        wGuard t71 false H (fun k => k a1 H) fun t73 H =>
        wGuard t71 false H (fun k => k t69 H) fun t74 H =>
        wGuard t71 false H (fun k => wGet (binA .geq t73 t74) H k) fun t75 H =>
        wGet (pickA t71 (.val (.bool true)) t75) H fun t76 H =>
        wGuard t76 false H (fun k => k a2 H) fun t78 H =>
        wGuard t76 false H (fun k => wGet (binA .lss t78 (.val (.int .i64 0))) H k) fun t79 H =>
        wGet (pickA t76 (.val (.bool true)) t79) H fun t80 H =>
        wGuard t80 false H (fun k => k a2 H) fun t82 H =>
        wGuard t80 false H (fun k => k t69 H) fun t83 H =>
        wGuard t80 false H (fun k => wGet (binA .geq t82 t83) H k) fun t84 H =>
        wGet (pickA t80 (.val (.bool true)) t84) H fun t85 H =>
        wIf t85 (
          J1 (.val (.int .i64 2)) (.val (.slice none 0 0)) H) (
          wGet (loadN 2 t9 H) H fun t87 H =>
          wCall E P 88 [t87, a1, a2] H fun t90 H =>
          wGet (extractA t90 0) H fun t91 H =>
          wGet (extractA t90 1) H fun t92 H =>
          wGet (unA .not t92) H fun t94 H =>
          wIf t94 (
            J1 (.val (.int .i64 8)) t91 H) (
            J1 (.val (.int .i64 0)) t91 H))) fun t17 t18 H =>
        wCall E P 89 [t40, t17] H fun t97 H =>
        wGet (unA .not t97) H fun t98 H =>
        wGuard t98 false H (fun k => k t39 H) fun t100 H =>
        wGuard t98 false H (fun k => k t18 H) fun t101 H =>
        wGuard t98 false H (fun k => wCall E P 80 [t100, t101] H k) fun t102 H =>
        wGuard t98 false H (fun k => wGet (unA .not t102) H k) fun t103 H =>
        wGet (pickA t98 (.val (.bool true)) t103) H fun t104 H =>
        wIf t104 (
          R (.val (.bool false)) H) (
          wJoin 1 (fun J2 =>
            wGet (binA .lss a1 (.val (.int .i64 0))) H fun t106 H =>
            wGuard t106 false H (fun k => k a1 H) fun t108 H =>
            wGuard t106 false H (fun k => k t69 H) fun t109 H =>
            wGuard t106 false H (fun k => wGet (binA .geq t108 t109) H k) fun t110 H =>
            wGet (pickA t106 (.val (.bool true)) t110) H fun t111 H =>
            wIf t111 (
              J2 (.val (.int .i64 2)) H) (
              J2 (.val (.int .i64 0)) H)) fun t17_1 H =>
            wJoin 2 (fun J3 =>
              wLoop 4 (fun I4 => I4 t17_1 (.val (.slice none 0 0)) (.val (.int .i64 0)) a1 H) fun I4 t17_2 t18_1 t19 t20 H =>
                wGet (lenA a3) H fun t115 H =>
                wGet (binA .lss t19 t115) H fun t116 H =>
                wGuard t116 true H (fun k => k t17_2 H) fun t118 H =>
                wGuard t116 true H (fun k => wGet (binA .eql t118 (.val (.int .i64 0))) H k) fun t119 H =>
                wGet (pickA t116 t119 (.val (.bool false))) H fun t120 H =>
                wIf t120 (
                  wGet (iaddr 1 a3 t19) H fun t125 H =>
                  wGet (load1 t125 H) H fun t126 H =>
                  wGet (binA .lss t126 (.val (.int .i64 0))) H fun t127 H =>
                  wGuard t127 false H (fun k => k a3 H) fun t129 H =>
                  wGuard t127 false H (fun k => k t19 H) fun t130 H =>
                  wGuard t127 false H (fun k => wGet (iaddr 1 t129 t130) H k) fun t131 H =>
                  wGuard t127 false H (fun k => wGet (load1 t131 H) H k) fun t132 H =>
                  wGuard t127 false H (fun k => wGet (faddr 0 t4) H k) fun t133 H =>
                  wGuard t127 false H (fun k => wGet (load1 t133 H) H k) fun t134 H =>
                  wGuard t127 false H (fun k => wGet (iaddr 1 t134 (.val (.int .i64 0))) H k) fun t135 H =>
                  wGuard t127 false H (fun k => wGet (load1 t135 H) H k) fun t136 H =>
                  wGuard t127 false H (fun k => wGet (lenA t136) H k) fun t137 H =>
                  wGuard t127 false H (fun k => wGet (binA .geq t132 t137) H k) fun t138 H =>
                  wGet (pickA t127 (.val (.bool true)) t138) H fun t139 H =>
                  wIf t139 (
                    J3 (.val (.int .i64 2)) (.val (.slice none 0 0)) H) (
                    wGet (faddr 1 t4) H fun t141 H =>
                    wGet (load1 t141 H) H fun t142 H =>
                    wGet (iaddr 1 t142 t20) H fun t144 H =>
                    wGet (load1 t144 H) H fun t145 H =>
                    wGet (iaddr 1 a3 t19) H fun t148 H =>
                    wGet (load1 t148 H) H fun t149 H =>
                    wGet (iaddr 1 t145 t149) H fun t150 H =>
                    wGet (load1 t150 H) H fun t151 H =>
                    wNewS 1 1 (fillA (List.replicate 1 [(.val (.int .i64 0))]).flatten [(0, 1, t151)]) H fun t152 H =>
                    wApp 1 8 t18_1 t152 H fun t153 H =>
                    wGet (faddr 0 t4) H fun t154 H =>
                    wGet (load1 t154 H) H fun t155 H =>
                    wGet (iaddr 1 t155 t20) H fun t157 H =>
                    wGet (load1 t157 H) H fun t158 H =>
                    wGet (iaddr 1 a3 t19) H fun t161 H =>
                    wGet (load1 t161 H) H fun t162 H =>
                    wGet (iaddr 1 t158 t162) H fun t163 H =>
                    wGet (load1 t163 H) H fun t164 H =>
                    wGet (binA .add t19 (.val (.int .i64 1))) H fun t122 H =>
                    I4 t17_2 t153 t122 t164 H)) (
                  J3 t17_2 t18_1 H)) fun t17_3 t18_2 H =>
              wCall E P 89 [t47, t17_3] H fun t167 H =>
              wGuard t167 true H (fun k => k t46 H) fun t169 H =>
              wGuard t167 true H (fun k => k t18_2 H) fun t170 H =>
              wGuard t167 true H (fun k => wCall E P 80 [t169, t170] H k) fun t171 H =>
              wGet (pickA t167 t171 (.val (.bool false))) H fun t172 H =>
              R t172 H)))

/-- (signalbox/signalboxref.Table).Part -/
def ref_Table_Part (E : Env) (P : Program) (a0 a1 a2 : AV) (H : AH) (R : Kt) : Prop :=
  wNew 2 (AV.cells? a0) H fun t3 H =>
  wGet (loadN 2 t3 H) H fun t14 H =>
  wCall E P 85 [t14] H fun t15 H =>
  wGet (iaddr 1 t15 a1) H fun t18 H =>
  wGet (load1 t18 H) H fun t19 H =>
  wGet (iaddr 1 t19 a2) H fun t21 H =>
  wGet (load1 t21 H) H fun t22 H =>
  wGet (binA .eql t22 (.val (.int .i64 0))) H fun t23 H =>
  wIf t23 (
    R (.tup [(.val (.slice none 0 0)), (.val (.bool false))]) H) (
    wGet (iaddr 1 t15 a1) H fun t26 H =>
    wGet (load1 t26 H) H fun t27 H =>
    wGet (iaddr 1 t27 a2) H fun t29 H =>
    wGet (load1 t29 H) H fun t30 H =>
    wLoop 4 (fun I1 => I1 a1 a2 (.val (.slice none 0 0)) t30 H) fun I1 t1 t2 t9 t10 H =>
      wGet (binA .gtr t10 (.val (.int .i64 0))) H fun t32 H =>
      wIf t32 (
        wJoin 3 (fun J2 =>
          wGet (faddr 0 t3) H fun t35 H =>
          wGet (load1 t35 H) H fun t36 H =>
          wGet (iaddr 1 t36 t1) H fun t38 H =>
          wGet (load1 t38 H) H fun t39 H =>
          wGet (lenA t39) H fun t40 H =>
          wLoop 4 (fun I3 => I3 t1 t2 t9 (.val (.int .i64 0)) H) fun I3 t1_1 t2_1 t9_1 t41 H =>
            wGet (binA .lss t41 t40) H fun t42 H =>
            wIf t42 (
              wGet (faddr 0 t3) H fun t44 H =>
              wGet (load1 t44 H) H fun t45 H =>
              wGet (iaddr 1 t45 t1_1) H fun t47 H =>
              wGet (load1 t47 H) H fun t48 H =>
              wGet (iaddr 1 t48 t41) H fun t50 H =>
              wGet (load1 t50 H) H fun t51 H =>
              wGet (faddr 0 t3) H fun t52 H =>
              wGet (load1 t52 H) H fun t53 H =>
              wGet (iaddr 1 t53 t2_1) H fun t55 H =>
              wGet (load1 t55 H) H fun t56 H =>
              wGet (iaddr 1 t56 t41) H fun t58 H =>
              wGet (load1 t58 H) H fun t59 H =>
              (wGet (load1 t52 H) H (fun y H2 => y = t53 ∧ H2 = H)) ∧
              (wGet (load1 t55 H) H (fun y H2 => y = t56 ∧ H2 = H)) ∧
              (wGet (load1 t58 H) H (fun y H2 => y = t59 ∧ H2 = H)) ∧
              wGet (binA .eql t10 (.val (.int .i64 1))) H fun t61 H =>
              wGuard t61 true H (fun k => wGet (faddr 1 t3) H k) fun t63 H =>
              wGuard t61 true H (fun k => wGet (load1 t63 H) H k) fun t64 H =>
              wGuard t61 true H (fun k => k t1_1 H) fun t65 H =>
              wGuard t61 true H (fun k => wGet (iaddr 1 t64 t65) H k) fun t66 H =>
              wGuard t61 true H (fun k => wGet (load1 t66 H) H k) fun t67 H =>
              wGuard t61 true H (fun k => k t41 H) fun t68 H =>
              wGuard t61 true H (fun k => wGet (iaddr 1 t67 t68) H k) fun t69 H =>
              wGuard t61 true H (fun k => wGet (load1 t69 H) H k) fun t70 H =>
              wGuard t61 true H (fun k => wGet (faddr 1 t3) H k) fun t71 H =>
              wGuard t61 true H (fun k => wGet (load1 t71 H) H k) fun t72 H =>
              wGuard t61 true H (fun k => k t2_1 H) fun t73 H =>
              wGuard t61 true H (fun k => wGet (iaddr 1 t72 t73) H k) fun t74 H =>
              wGuard t61 true H (fun k => wGet (load1 t74 H) H k) fun t75 H =>
              wGuard t61 true H (fun k => k t41 H) fun t76 H =>
              wGuard t61 true H (fun k => wGet (iaddr 1 t75 t76) H k) fun t77 H =>
              wGuard t61 true H (fun k => wGet (load1 t77 H) H k) fun t78 H =>
              wGuard t61 true H (fun k => wGet (binA .neq t70 t78) H k) fun t79 H =>
              wGet (pickA t61 t79 (.val (.bool false))) H fun t80 H =>
              wGuard t80 false H (fun k => k t10 H) fun t82 H =>
              wGuard t80 false H (fun k => wGet (binA .gtr t82 (.val (.int .i64 1))) H k) fun t83 H =>
              wGuard t80 false H (fun k => k t83 H) fun t84 H =>
              wGuard t84 true H (fun k => k t15 H) fun t85 H =>
              wGuard t84 true H (fun k => k t51 H) fun t86 H =>
              wGuard t84 true H (fun k => wGet (iaddr 1 t85 t86) H k) fun t87 H =>
              wGuard t84 true H (fun k => wGet (load1 t87 H) H k) fun t88 H =>
              wGuard t84 true H (fun k => k t59 H) fun t89 H =>
              wGuard t84 true H (fun k => wGet (iaddr 1 t88 t89) H k) fun t90 H =>
              wGuard t84 true H (fun k => wGet (load1 t90 H) H k) fun t91 H =>
              wGuard t84 true H (fun k => k t10 H) fun t92 H =>
              wGuard t84 true H (fun k => wGet (binA .sub t92 (.val (.int .i64 1))) H k) fun t93 H =>
              wGuard t84 true H (fun k => wGet (binA .eql t91 t93) H k) fun t94 H =>
              wGuard t80 false H (fun k => wGet (pickA t84 t94 (.val (.bool false))) H k) fun t95 H =>
              wGet (pickA t80 (.val (.bool true)) t95) H fun t96 H =>
              wIf t96 (
                wNewS 1 1 (fillA (List.replicate 1 [(.val (.int .i64 0))]).flatten [(0, 1, t41)]) H fun t99 H =>
                wApp 1 8 t9_1 t99 H fun t100 H =>
                J2 t51 t59 t100 H) (
                wGet (binA .add t41 (.val (.int .i64 1))) H fun t103 H =>
                I3 t1_1 t2_1 t9_1 t103 H)) (
              J2 t1_1 t2_1 t9_1 H)) fun t1_2 t2_2 t9_2 H =>
          wGet (binA .sub t10 (.val (.int .i64 1))) H fun t34 H =>
          I1 t1_2 t2_2 t9_2 t34 H) (
        R (.tup [t9, (.val (.bool true))]) H))

/-- signalbox/signalboxlaw.bare -/
def law_bare (E : Env) (P : Program) (a0 a1 : AV) (H : AH) (R : Kt) : Prop :=
  wCall E P 87 [a1] H fun t7 H =>
  wCall E P 77 [a0, t7] H fun t8 H =>
  R t8 H

end Go.Sc.F
namespace Go.Sc
open Go
set_option linter.unusedSimpArgs false
set_option linter.unusedVariables false
section
variable {E : Env} {P : Program}
theorem bare_spec (B : PlaceBodies E P) (hA : Body2 E P 77 F.law_at) (hb : Body1 E P 87 F.ref_Bare) (hB : Body2 E P 89 F.law_bare) (c e : Int) : FX E P 89 [Er c, Z e] (Bo (decide (c = e))) := by
  refine FX.of' (by simp [AV.closedL, Er_closed, AV.closed]) (by simp [AV.closed]) fun n R hR => hB _ _ _ _ ?_
  unfold F.law_bare
  refine wCall.fx (Bare_spec hb e) fun n => ?_
  refine wCall.fx (at_spec B hA c e (-1)) fun n => ?_
  exact hR _ _ (by simp)
theorem bareAt_spec (B : PlaceBodies E P) (hA : Body2 E P 77 F.law_at) (hb : Body1 E P 87 F.ref_Bare) (hB : Body2 E P 89 F.law_bare) (c q e : Int) : FX E P 89 [At c q, Z e] (Bo (decide (c = e) && decide (q = -1))) := by
  refine FX.of' (by simp [AV.closedL, At_closed, AV.closed]) (by simp [AV.closed]) fun n R hR => hB _ _ _ _ ?_
  unfold F.law_bare
  refine wCall.fx (Bare_spec hb e) fun n => ?_
  refine wCall.fx (atAt_spec B hA c q e (-1)) fun n => ?_
  exact hR _ _ rfl
end
end Go.Sc
