/- CONTRACTS: package block: Part. CONTRACTS: the reference's tables: TableCheck (under way). THE LAW ExprParses, out of the contracts. CONTRACTS: package expr: what an expression says, and how great it is. WHAT AN EXPRESSION's TEXT TELLS IS THAT EXPRESSION AGAIN: plain. (of the seat YtmeppifnagiamaaDoor) -/
import Derived.Test.YtmeppifnagiamaaDoorCore9
namespace Go.Sc
open Go
set_option linter.unusedSimpArgs false
set_option linter.unusedVariables false
set_option linter.unnecessarySimpa false

noncomputable def PartA (t : Table) (a b : Int) : AV :=
  if check t = none then
    (if 0 ≤ a ∧ a < t.next.length ∧ 0 ≤ b ∧ b < t.next.length then
      (match ((List.range (finK t + 1)).map (iter t)).findIdx? (fun l => !decide (cell l a.toNat = cell l b.toNat)) with
        | some k => .tup [LI (partFrom t k a.toNat b.toNat []), nilE]
        | none => .tup [LI [], .ifc 1 (Z 8)])
    else .tup [LI [], .ifc 1 (Z 2)])
  else .tup [LI [], errA (check t)]
theorem PartA_closed (t : Table) (a b : Int) : (PartA t a b).closed := by
  unfold PartA
  split
  · split
    · split <;> simp [AV.closed, AV.closedL, LI_closed]
    · simp [AV.closed, AV.closedL, LI_closed]
  · simp [AV.closed, AV.closedL, LI_closed, errA_closed]
theorem find_range {p : Nat → Bool} {n j : Nat} (hj : j < n) (h : p j = true) (hpre : ∀ i, i < j → p i = false) : (List.range n).find? p = some j := by
  rw [List.find?_range_eq_some]
  exact ⟨h, List.mem_range.2 hj, fun i hi => by simp [hpre i hi]⟩
section
variable {E : Env} {P : Program}
theorem Part_c1_spec (hB : Body3 E P 60 F.block_Part_c1) (l : List Int) (a b : Nat) (ha : a < l.length) (hb : b < l.length) : FX E P 60 [LI l, .ptrF [Z a] 0, .ptrF [Z b] 0] (Bo (!decide (cell l a = cell l b))) := by
  refine FX.of' (by simp [AV.closedL, AV.closed, LI_closed]) (by simp [AV.closed]) fun m R hR => hB _ _ _ _ _ ?_
  unfold F.block_Part_c1
  simp only [nd0, Y1n, Y1o, Y1p, Y1q, Y1w, Y1x, Y1y, Y1z, Y20, Y21, Y28, Y2a, AV.cells?, Nat.reduceAdd, Nat.reduceMul]
  rw [iaddr_LI ha]
  simp only [nd0, Y1n, Y1o, Y1p, Y1q, Y1w, Y1x, Y1y, Y1z, Y20, Y21, Y28, Y2a, AV.cells?, Nat.reduceAdd, Nat.reduceMul, cell_at ha]
  rw [iaddr_LI hb]
  simp only [nd0, Y1n, Y1o, Y1p, Y1q, Y1w, Y1x, Y1y, Y1z, Y20, Y21, Y28, Y2a, AV.cells?, Nat.reduceAdd, Nat.reduceMul, cell_at hb]
  exact hR _ _ rfl
theorem Part_spec (B : BlockBodies E P) (hB : Body3 E P 52 F.block_Part) (hc1 : Body3 E P 60 F.block_Part_c1) (t : Table) (hs : t.sized) (a b : Int) : FX E P 52 [Tb t, Z a, Z b] (PartA t a b) := by
  refine FX.of (by simp [AV.closedL, Tb_closed, AV.closed]) (PartA_closed t a b) fun n R hR => hB _ _ _ _ _ ?_
  have hnil : ∀ e H, PartA t a b = .tup [LI [], e] → R (.tup [nilS, e]) H := fun e H h => hR _ _ (.sub (h ▸ .tup (.cons .nil (.one (.refl _)))))
  unfold F.block_Part
  simp only [Tb]
  refine wNew.F' (l := [LLI t.next, LLI t.tells]) rfl ?_
  simp only [nd0, Y1n, Y1o, Y1p, Y1q, Y1w, Y1x, Y1y, Y1z, Y20, Y21, Y28, Y2a, AV.cells?, Nat.reduceAdd, Nat.reduceMul]
  refine wNew.L (l := [Z a]) rfl ?_
  simp only [nd0, Y1n, Y1o, Y1p, Y1q, Y1w, Y1x, Y1y, Y1z, Y20, Y21, Y28, Y2a, AV.cells?, Nat.reduceAdd, Nat.reduceMul]
  refine wNew.L (l := [Z b]) rfl ?_
  simp only [nd0, Y1n, Y1o, Y1p, Y1q, Y1w, Y1x, Y1y, Y1z, Y20, Y21, Y28, Y2a, AV.cells?, Nat.reduceAdd, Nat.reduceMul]
  refine wCall.fx (Check_specB B t hs) fun n1 => ?_
  by_cases hc : check t = none
  case neg =>
    obtain ⟨k, x, he⟩ := errA_some hc
    rw [he]
    simp only [nd0, Y1n, Y1o, Y1p, Y1q, Y1w, Y1x, Y1y, Y1z, Y20, Y21, Y28, Y2a, AV.cells?, Nat.reduceAdd, Nat.reduceMul]
    exact hnil _ _ (by simp [PartA, hc, he])
  rw [hc]
  simp only [errA]
  simp only [nd0, Y1n, Y1o, Y1p, Y1q, Y1w, Y1x, Y1y, Y1z, Y20, Y21, Y28, Y2a, AV.cells?, Nat.reduceAdd, Nat.reduceMul, lenA_LLI]
  have hg := good_iff.1 hc
  have g1 := hg.pos; have g2 := hg.few; have g3 := hg.wide; have g4 := hg.tells
  have hout : ∀ H, ¬ (0 ≤ a ∧ a < t.next.length ∧ 0 ≤ b ∧ b < t.next.length) → R (.tup [nilS, .ifc 1 (Z 2)]) H := fun H h => hnil _ _ (by simp only [PartA, hc, if_true]; rw [if_neg h])
  by_cases c1 : a < 0
  · simp only [nd0, Y1n, Y1o, Y1p, Y1q, Y1w, Y1x, Y1y, Y1z, Y20, Y21, Y28, Y2a, AV.cells?, Nat.reduceAdd, Nat.reduceMul, decide_eq_true c1]
    exact hout _ (by omega)
  simp only [nd0, Y1n, Y1o, Y1p, Y1q, Y1w, Y1x, Y1y, Y1z, Y20, Y21, Y28, Y2a, AV.cells?, Nat.reduceAdd, Nat.reduceMul, decide_eq_false c1, lenA_LLI]
  by_cases c2 : (t.next.length : Int) ≤ a
  · simp only [nd0, Y1n, Y1o, Y1p, Y1q, Y1w, Y1x, Y1y, Y1z, Y20, Y21, Y28, Y2a, AV.cells?, Nat.reduceAdd, Nat.reduceMul, decide_eq_true c2]
    exact hout _ (by omega)
  simp only [nd0, Y1n, Y1o, Y1p, Y1q, Y1w, Y1x, Y1y, Y1z, Y20, Y21, Y28, Y2a, AV.cells?, Nat.reduceAdd, Nat.reduceMul, decide_eq_false c2]
  by_cases c3 : b < 0
  · simp only [nd0, Y1n, Y1o, Y1p, Y1q, Y1w, Y1x, Y1y, Y1z, Y20, Y21, Y28, Y2a, AV.cells?, Nat.reduceAdd, Nat.reduceMul, decide_eq_true c3]
    exact hout _ (by omega)
  simp only [nd0, Y1n, Y1o, Y1p, Y1q, Y1w, Y1x, Y1y, Y1z, Y20, Y21, Y28, Y2a, AV.cells?, Nat.reduceAdd, Nat.reduceMul, decide_eq_false c3, lenA_LLI]
  by_cases c4 : (t.next.length : Int) ≤ b
  · simp only [nd0, Y1n, Y1o, Y1p, Y1q, Y1w, Y1x, Y1y, Y1z, Y20, Y21, Y28, Y2a, AV.cells?, Nat.reduceAdd, Nat.reduceMul, decide_eq_true c4]
    exact hout _ (by omega)
  simp only [nd0, Y1n, Y1o, Y1p, Y1q, Y1w, Y1x, Y1y, Y1z, Y20, Y21, Y28, Y2a, AV.cells?, Nat.reduceAdd, Nat.reduceMul, decide_eq_false c4]
  have hin : 0 ≤ a ∧ a < t.next.length ∧ 0 ≤ b ∧ b < t.next.length := by omega
  obtain ⟨h1, h2⟩ := finK_spec hg
  refine wCall.fx (rounds_spec B t hg h2 h1) fun n2 => ?_
  have eA : PartA t a b = (match ((List.range (finK t + 1)).map (iter t)).findIdx? (fun l => !decide (cell l a.toNat = cell l b.toNat)) with
        | some k => .tup [LI (partFrom t k a.toNat b.toNat []), nilE]
        | none => .tup [LI [], .ifc 1 (Z 8)]) := by simp only [PartA, hc, if_true]; rw [if_pos hin]
  have ea : ((a.toNat : Nat) : Int) = a := by omega
  have eb : ((b.toNat : Nat) : Int) = b := by omega
  refine wCall.bo (IndexFunc_any (f := LI) (.inr rfl) B.ixr (k := 60) (cs := [.ptrF [Z a.toNat] 0, .ptrF [Z b.toNat] 0]) (p := fun l => !decide (cell l a.toNat = cell l b.toNat)) LI_closed ((List.range (finK t + 1)).map (iter t)) (by simp; omega) (by simp [AV.closedL, AV.closed]) fun l hl => by
      obtain ⟨k, _, rfl⟩ := List.mem_map.1 hl
      exact Part_c1_spec hc1 _ _ _ (by rw [iter_len]; omega) (by rw [iter_len]; omega)) (by simp [AV.flat])
    (.cons (.same _) (.cons (.fn .nil (.cons (Fk.ptrF 1 rfl rfl (by rw [ea]; exact .cons (.same _) .nil)) (.cons (Fk.ptrF 1 rfl rfl (by rw [eb]; exact .cons (.same _) .nil)) .nil))) .nil)) fun n3 => ?_
  generalize hfi : ((List.range (finK t + 1)).map (iter t)).findIdx? (fun l => !decide (cell l a.toNat = cell l b.toNat)) = o at *
  cases o with
  | none =>
    simp only [nd0, Y1n, Y1o, Y1p, Y1q, Y1w, Y1x, Y1y, Y1z, Y20, Y21, Y28, Y2a, AV.cells?, Nat.reduceAdd, Nat.reduceMul, decide_eq_true (show idxO none < 0 by simp [idxO])]
    exact hnil _ _ eA
  | some k0 =>
  have hk0 : k0 ≤ finK t := by
    rw [List.findIdx?_eq_some_iff_getElem] at hfi
    obtain ⟨h, _⟩ := hfi
    simp at h
    omega
  simp only [nd0, Y1n, Y1o, Y1p, Y1q, Y1w, Y1x, Y1y, Y1z, Y20, Y21, Y28, Y2a, AV.cells?, Nat.reduceAdd, Nat.reduceMul, decide_eq_false (show ¬ (idxO (some k0) < 0) by simp [idxO])]
  simp only at eA
  refine wLoop.two (fun m t10 t11 H => ∃ (a' b' : Nat) (z : Blk) (out : List Int) (c : Nat), t10 = Z m ∧ H = ⟨[.cells n 1 [Z a'], .cells (n + 1) 1 [Z b'], z], c⟩ ∧ a' < t.next.length ∧ b' < t.next.length ∧ Gr 1 z 2 t11 (out.map fun z => Z z) out.length ∧ out.length + m ≤ finK t ∧ partFrom t m a' b' out = partFrom t k0 a.toNat b.toNat []) k0
    (gh2.of (ghost_room [.dead] (by simp)) ⟨a.toNat, b.toNat, .dead, [], n3, rfl, by rw [ea, eb]; rfl, by omega, by omega, .nil, by simpa using hk0, rfl⟩) ?_
  rintro m t10 t11 H ⟨a', b', z, out, c, rfl, rfl, ha', hb', h11, hlen, hpf⟩
  cases m with
  | zero =>
    simp only [nd0, Y1n, Y1o, Y1p, Y1q, Y1w, Y1x, Y1y, Y1z, Y20, Y21, Y28, Y2a, AV.cells?, Nat.reduceAdd, Nat.reduceMul, show ((0 : Nat) : Int) = 0 from rfl, Int.lt_irrefl]
    refine hR _ _ (.sub ?_)
    rw [eA, ← hpf]
    simp only [partFrom]
    refine .tup (.cons ?_ (.one (.refl _)))
    have := h11.sub
    simpa [LI, Lm] using this
  | succ k =>
  have hra := hg.rows a' ha'
  have hrb := hg.rows b' hb'
  simp only [nd0, Y1n, Y1o, Y1p, Y1q, Y1w, Y1x, Y1y, Y1z, Y20, Y21, Y28, Y2a, AV.cells?, Nat.reduceAdd, Nat.reduceMul, decide_eq_true (show (0 : Int) < ((k + 1 : Nat) : Int) by omega)]
  refine wJoin.one (fun x H => ∃ (a' b' : Nat) (z : Blk) (out : List Int) (c : Nat), H = ⟨[.cells n 1 [Z a'], .cells (n + 1) 1 [Z b'], z], c⟩ ∧ a' < t.next.length ∧ b' < t.next.length ∧ Gr 1 z 2 x (out.map fun z => Z z) out.length ∧ out.length + k ≤ finK t ∧ partFrom t k a' b' out = partFrom t k0 a.toNat b.toNat []) ?_ ?_
  case refine_2 =>
    rintro x H ⟨a', b', z, out, c, rfl, ha', hb', h11, hlen, hpf⟩
    rw [binA_sub (by omega)]
    simp only [nd0, Y1n, Y1o, Y1p, Y1q, Y1w, Y1x, Y1y, Y1z, Y20, Y21, Y28, Y2a, AV.cells?, Nat.reduceAdd, Nat.reduceMul, show (((k + 1 : Nat) : Int) - 1) = (k : Int) by omega]
    exact back2.mk k (by omega) ⟨a', b', z, out, c, rfl, rfl, ha', hb', h11, hlen, hpf⟩
  rw [iaddr_LLI ha']
  simp only [nd0, Y1n, Y1o, Y1p, Y1q, Y1w, Y1x, Y1y, Y1z, Y20, Y21, Y28, Y2a, AV.cells?, Nat.reduceAdd, Nat.reduceMul, row_get ha', lenA_LI]
  refine wLoop.two (fun m x i H => ∃ (j c : Nat), j + m = (row t.next a').length ∧ x = t11 ∧ i = Z j ∧ H = ⟨[.cells n 1 [Z a'], .cells (n + 1) 1 [Z b'], z], c⟩ ∧ ∀ p, p < j → parts t (k + 1) a' b' p = false) (row t.next a').length
    (gh2.mk ⟨0, c, by omega, rfl, rfl, rfl, by simp⟩) ?_
  rintro m x i H ⟨j, c, hjm, rfl, rfl, rfl, hpre⟩
  by_cases hj : j < (row t.next a').length
  case neg =>
    have : j = (row t.next a').length := by omega
    subst this
    simp only [nd0, Y1n, Y1o, Y1p, Y1q, Y1w, Y1x, Y1y, Y1z, Y20, Y21, Y28, Y2a, AV.cells?, Nat.reduceAdd, Nat.reduceMul, Int.lt_irrefl]
    refine gh1.mk ⟨a', b', z, out, c, rfl, ha', hb', h11, by omega, ?_⟩
    rw [← hpf]
    have : (List.range (row t.next a').length).find? (parts t (k + 1) a' b') = none := by
      rw [List.find?_eq_none]
      intro p hp
      simp [hpre p (List.mem_range.1 hp)]
    simp only [partFrom, this]
  simp only [nd0, Y1n, Y1o, Y1p, Y1q, Y1w, Y1x, Y1y, Y1z, Y20, Y21, Y28, Y2a, AV.cells?, Nat.reduceAdd, Nat.reduceMul, decide_eq_true (show (j : Int) < ((row t.next a').length : Int) by omega)]
  rw [iaddr_LLI ha']
  simp only [nd0, Y1n, Y1o, Y1p, Y1q, Y1w, Y1x, Y1y, Y1z, Y20, Y21, Y28, Y2a, AV.cells?, Nat.reduceAdd, Nat.reduceMul, row_get ha']
  rw [iaddr_LI hj]
  simp only [nd0, Y1n, Y1o, Y1p, Y1q, Y1w, Y1x, Y1y, Y1z, Y20, Y21, Y28, Y2a, AV.cells?, Nat.reduceAdd, Nat.reduceMul, cell_at hj]
  rw [iaddr_LLI hb']
  simp only [nd0, Y1n, Y1o, Y1p, Y1q, Y1w, Y1x, Y1y, Y1z, Y20, Y21, Y28, Y2a, AV.cells?, Nat.reduceAdd, Nat.reduceMul, row_get hb']
  have hjb : j < (row t.next b').length := by omega
  rw [iaddr_LI hjb]
  simp only [nd0, Y1n, Y1o, Y1p, Y1q, Y1w, Y1x, Y1y, Y1z, Y20, Y21, Y28, Y2a, AV.cells?, Nat.reduceAdd, Nat.reduceMul, cell_at hjb, and_self, true_and]
  have hxa := hg.next_in ha' (i := j) (by omega)
  have hxb := hg.next_in hb' (i := j) (by omega)
  have exa : (((cell (row t.next a') j).toNat : Nat) : Int) = cell (row t.next a') j := by omega
  have exb : (((cell (row t.next b') j).toNat : Nat) : Int) = cell (row t.next b') j := by omega
  cases k with
  | zero =>
    simp only [nd0, Y1n, Y1o, Y1p, Y1q, Y1w, Y1x, Y1y, Y1z, Y20, Y21, Y28, Y2a, AV.cells?, Nat.reduceAdd, Nat.reduceMul, decide_eq_true (show (((0 + 1 : Nat) : Int) = 1) by omega)]
    have hta : a' < t.tells.length := by omega
    have htb : b' < t.tells.length := by omega
    rw [iaddr_LLI hta]
    simp only [nd0, Y1n, Y1o, Y1p, Y1q, Y1w, Y1x, Y1y, Y1z, Y20, Y21, Y28, Y2a, AV.cells?, Nat.reduceAdd, Nat.reduceMul, row_get hta]
    rw [iaddr_LI (show j < (row t.tells a').length by omega)]
    simp only [nd0, Y1n, Y1o, Y1p, Y1q, Y1w, Y1x, Y1y, Y1z, Y20, Y21, Y28, Y2a, AV.cells?, Nat.reduceAdd, Nat.reduceMul, cell_at (show j < (row t.tells a').length by omega)]
    rw [iaddr_LLI htb]
    simp only [nd0, Y1n, Y1o, Y1p, Y1q, Y1w, Y1x, Y1y, Y1z, Y20, Y21, Y28, Y2a, AV.cells?, Nat.reduceAdd, Nat.reduceMul, row_get htb]
    rw [iaddr_LI (show j < (row t.tells b').length by omega)]
    simp only [nd0, Y1n, Y1o, Y1p, Y1q, Y1w, Y1x, Y1y, Y1z, Y20, Y21, Y28, Y2a, AV.cells?, Nat.reduceAdd, Nat.reduceMul, cell_at (show j < (row t.tells b').length by omega)]
    by_cases he : cell (row t.tells a') j = cell (row t.tells b') j
    · have hpt : parts t (0 + 1) a' b' j = false := by simp [parts, he]
      simp only [nd0, Y1n, Y1o, Y1p, Y1q, Y1w, Y1x, Y1y, Y1z, Y20, Y21, Y28, Y2a, AV.cells?, Nat.reduceAdd, Nat.reduceMul, decide_eq_true he, decide_eq_false (show ¬ ((1 : Int) < ((0 + 1 : Nat) : Int)) by omega)]
      rw [binA_succ (by omega)]
      simp only [nd0, Y1n, Y1o, Y1p, Y1q, Y1w, Y1x, Y1y, Y1z, Y20, Y21, Y28, Y2a, AV.cells?, Nat.reduceAdd, Nat.reduceMul]
      refine back2.mk (m - 1) (by omega) ⟨j + 1, c, by omega, rfl, rfl, rfl, fun p hp => ?_⟩
      by_cases hpj : p < j
      · exact hpre p hpj
      · have : p = j := by omega
        subst this
        exact hpt
    · have hpt : parts t (0 + 1) a' b' j = true := by simp [parts, he]
      simp only [nd0, Y1n, Y1o, Y1p, Y1q, Y1w, Y1x, Y1y, Y1z, Y20, Y21, Y28, Y2a, AV.cells?, Nat.reduceAdd, Nat.reduceMul, decide_eq_false he]
      refine wNewS.F' (l := [Z j]) rfl rfl ?_
      refine wApp.one (bytes := 8) h11 rfl (by simp) (.refl _) rfl (by simp [mostBytes]; omega) fun z' x' c' hg' => ?_
      simp only [nd0, Y1n, Y1o, Y1p, Y1q, Y1w, Y1x, Y1y, Y1z, Y20, Y21, Y28, Y2a, AV.cells?, Nat.reduceAdd, Nat.reduceMul]
      rw [store1_L rfl]
      simp only [nd0, Y1n, Y1o, Y1p, Y1q, Y1w, Y1x, Y1y, Y1z, Y20, Y21, Y28, Y2a, AV.cells?, Nat.reduceAdd, Nat.reduceMul, Nat.reduceLT]
      rw [store1_L rfl]
      simp only [nd0, Y1n, Y1o, Y1p, Y1q, Y1w, Y1x, Y1y, Y1z, Y20, Y21, Y28, Y2a, AV.cells?, Nat.reduceAdd, Nat.reduceMul, Nat.reduceLT]
      refine gh1.mk ⟨(cell (row t.next a') j).toNat, (cell (row t.next b') j).toNat, z', out ++ [(j : Int)], c', by rw [exa, exb], by omega, by omega, by simpa using hg', by simp; omega, ?_⟩
      rw [← hpf]
      simp only [partFrom, find_range hj hpt hpre]
  | succ k =>
    simp only [nd0, Y1n, Y1o, Y1p, Y1q, Y1w, Y1x, Y1y, Y1z, Y20, Y21, Y28, Y2a, AV.cells?, Nat.reduceAdd, Nat.reduceMul, decide_eq_false (show ¬ (((k + 1 + 1 : Nat) : Int) = 1) by omega), decide_eq_true (show ((1 : Int) < ((k + 1 + 1 : Nat) : Int)) by omega)]
    rw [binA_sub (by omega)]
    simp only [nd0, Y1n, Y1o, Y1p, Y1q, Y1w, Y1x, Y1y, Y1z, Y20, Y21, Y28, Y2a, AV.cells?, Nat.reduceAdd, Nat.reduceMul, show (((k + 1 + 1 : Nat) : Int) - 1) = ((k + 1 : Nat) : Int) by omega]
    rw [iaddr_LLI (show k + 1 < ((List.range (finK t + 1)).map (iter t)).length by simp; omega)]
    have hrk : (((List.range (finK t + 1)).map (iter t)).map LI)[k + 1]? = some (LI (iter t (k + 1))) := by
      have : k + 1 < finK t + 1 := by omega
      simp [this]
    simp only [nd0, Y1n, Y1o, Y1p, Y1q, Y1w, Y1x, Y1y, Y1z, Y20, Y21, Y28, Y2a, AV.cells?, Nat.reduceAdd, Nat.reduceMul, hrk]
    rw [iaddr_LIz hxa.1 (by rw [iter_len]; omega)]
    simp only [nd0, Y1n, Y1o, Y1p, Y1q, Y1w, Y1x, Y1y, Y1z, Y20, Y21, Y28, Y2a, AV.cells?, Nat.reduceAdd, Nat.reduceMul, cell_at (show (cell (row t.next a') j).toNat < (iter t (k + 1)).length by rw [iter_len]; omega)]
    rw [iaddr_LIz hxb.1 (by rw [iter_len]; omega)]
    simp only [nd0, Y1n, Y1o, Y1p, Y1q, Y1w, Y1x, Y1y, Y1z, Y20, Y21, Y28, Y2a, AV.cells?, Nat.reduceAdd, Nat.reduceMul, cell_at (show (cell (row t.next b') j).toNat < (iter t (k + 1)).length by rw [iter_len]; omega)]
    by_cases he : cell (iter t (k + 1)) (cell (row t.next a') j).toNat = cell (iter t (k + 1)) (cell (row t.next b') j).toNat
    · have hpt : parts t (k + 1 + 1) a' b' j = false := by simp [parts, he]
      simp only [nd0, Y1n, Y1o, Y1p, Y1q, Y1w, Y1x, Y1y, Y1z, Y20, Y21, Y28, Y2a, AV.cells?, Nat.reduceAdd, Nat.reduceMul, decide_eq_true he]
      rw [binA_succ (by omega)]
      simp only [nd0, Y1n, Y1o, Y1p, Y1q, Y1w, Y1x, Y1y, Y1z, Y20, Y21, Y28, Y2a, AV.cells?, Nat.reduceAdd, Nat.reduceMul]
      refine back2.mk (m - 1) (by omega) ⟨j + 1, c, by omega, rfl, rfl, rfl, fun p hp => ?_⟩
      by_cases hpj : p < j
      · exact hpre p hpj
      · have : p = j := by omega
        subst this
        exact hpt
    · have hpt : parts t (k + 1 + 1) a' b' j = true := by simp [parts, he]
      simp only [nd0, Y1n, Y1o, Y1p, Y1q, Y1w, Y1x, Y1y, Y1z, Y20, Y21, Y28, Y2a, AV.cells?, Nat.reduceAdd, Nat.reduceMul, decide_eq_false he]
      refine wNewS.F' (l := [Z j]) rfl rfl ?_
      refine wApp.one (bytes := 8) h11 rfl (by simp) (.refl _) rfl (by simp [mostBytes]; omega) fun z' x' c' hg' => ?_
      simp only [nd0, Y1n, Y1o, Y1p, Y1q, Y1w, Y1x, Y1y, Y1z, Y20, Y21, Y28, Y2a, AV.cells?, Nat.reduceAdd, Nat.reduceMul]
      rw [store1_L rfl]
      simp only [nd0, Y1n, Y1o, Y1p, Y1q, Y1w, Y1x, Y1y, Y1z, Y20, Y21, Y28, Y2a, AV.cells?, Nat.reduceAdd, Nat.reduceMul, Nat.reduceLT]
      rw [store1_L rfl]
      simp only [nd0, Y1n, Y1o, Y1p, Y1q, Y1w, Y1x, Y1y, Y1z, Y20, Y21, Y28, Y2a, AV.cells?, Nat.reduceAdd, Nat.reduceMul, Nat.reduceLT]
      refine gh1.mk ⟨(cell (row t.next a') j).toNat, (cell (row t.next b') j).toNat, z', out ++ [(j : Int)], c', by rw [exa, exb], by omega, by omega, by simpa using hg', by simp; omega, ?_⟩
      rw [← hpf]
      simp only [partFrom, find_range hj hpt hpre]
end
end Go.Sc
namespace Go.Sc
open Go
set_option linter.unusedSimpArgs false
set_option linter.unusedVariables false

section
variable {E : Env} {P : Program}
theorem TableCheck_spec (hW : Body3 E P 86 F.ref_within) (hBa : Body1 E P 87 F.ref_Bare) (hB : Body1 E P 83 F.ref_TableCheck) (hfine : E.gl 5 = some [Z 0, Z (-1)]) (t : Table) (hl : t.sized) : FX E P 83 [Tb t] (failA (check t)) := by
  obtain ⟨hl1, hl2, hl3⟩ := hl
  refine FX.of' (by simp [AV.closedL, Tb_closed]) (failA_closed _) fun n R hR => hB _ _ _ ?_
  unfold F.ref_TableCheck Tb
  refine wNew.F' (l := [LLI t.next, LLI t.tells]) rfl ?_
  refine wNew.L (l := [Z 0, Z 0]) rfl ?_
  simp only [nd0, Y1n, Y1o, Y1p, Y1q, Y1w, Y1x, Y1y, Y1z, Y20, Y21, Y28, Y2a, AV.cells?, Nat.reduceAdd, Nat.reduceMul, lenA_LLI]
  refine wCall.fx (within_spec hW _ _ _) fun n1 => ?_
  by_cases c1 : t.next.length < 1 ∨ t.next.length > 500
  · rw [show (decide ((1 : Int) ≤ t.next.length) && decide ((t.next.length : Int) ≤ 500)) = false by simp; omega]
    simp only [nd0, Y1n, Y1o, Y1p, Y1q, Y1w, Y1x, Y1y, Y1z, Y20, Y21, Y28, Y2a, AV.cells?, Nat.reduceAdd, Nat.reduceMul]
    refine wCall.fx (Bare_spec hBa 4) fun n2 => ?_
    rw [storeN_L (n := 2) (xs := [Z 4, Z (-1)]) rfl rfl]
    simp only [nd0, Y1n, Y1o, Y1p, Y1q, Y1w, Y1x, Y1y, Y1z, Y20, Y21, Y28, Y2a, AV.cells?, Nat.reduceAdd, Nat.reduceMul, put_two, ret_one]
    exact hR _ _ (by simp only [check]; rw [if_pos (by omega)]; rfl)
  rw [show (decide ((1 : Int) ≤ t.next.length) && decide ((t.next.length : Int) ≤ 500)) = true by simp; omega]
  have hpos : 0 < t.next.length := by omega
  simp only [nd0, Y1n, Y1o, Y1p, Y1q, Y1w, Y1x, Y1y, Y1z, Y20, Y21, Y28, Y2a, AV.cells?, Nat.reduceAdd, Nat.reduceMul, lenA_LLI, iaddr_LLI0 hpos, row_get hpos, lenA_LI]
  by_cases c3 : (64 : Int) < (row t.next 0).length
  · simp only [nd0, Y1n, Y1o, Y1p, Y1q, Y1w, Y1x, Y1y, Y1z, Y20, Y21, Y28, Y2a, AV.cells?, Nat.reduceAdd, Nat.reduceMul, decide_eq_true c3]
    refine wCall.fx (Bare_spec hBa 4) fun n2 => ?_
    rw [storeN_L (n := 2) (xs := [Z 4, Z (-1)]) rfl rfl]
    simp only [nd0, Y1n, Y1o, Y1p, Y1q, Y1w, Y1x, Y1y, Y1z, Y20, Y21, Y28, Y2a, AV.cells?, Nat.reduceAdd, Nat.reduceMul, put_two, ret_one]
    exact hR _ _ (by simp only [check]; rw [if_pos (by simp only [row] at c3; omega)]; rfl)
  simp only [nd0, Y1n, Y1o, Y1p, Y1q, Y1w, Y1x, Y1y, Y1z, Y20, Y21, Y28, Y2a, AV.cells?, Nat.reduceAdd, Nat.reduceMul, decide_eq_false c3, lenA_LLI]
  by_cases c4 : (t.tells.length : Int) = t.next.length
  case neg =>
    simp only [nd0, Y1n, Y1o, Y1p, Y1q, Y1w, Y1x, Y1y, Y1z, Y20, Y21, Y28, Y2a, AV.cells?, Nat.reduceAdd, Nat.reduceMul, decide_eq_false c4]
    refine wCall.fx (Bare_spec hBa 3) fun n2 => ?_
    rw [storeN_L (n := 2) (xs := [Z 3, Z (-1)]) rfl rfl]
    simp only [nd0, Y1n, Y1o, Y1p, Y1q, Y1w, Y1x, Y1y, Y1z, Y20, Y21, Y28, Y2a, AV.cells?, Nat.reduceAdd, Nat.reduceMul, put_two, ret_one]
    exact hR _ _ (by simp only [check]; rw [if_neg (by simp only [row] at c3; omega), if_pos (by omega)]; rfl)
  simp only [nd0, Y1n, Y1o, Y1p, Y1q, Y1w, Y1x, Y1y, Y1z, Y20, Y21, Y28, Y2a, AV.cells?, Nat.reduceAdd, Nat.reduceMul, decide_eq_true c4, lenA_LLI]
  have hchk : check t = (List.range t.next.length).findSome? (checkAt t) := by simp only [check]; rw [if_neg (by simp only [row] at c3; omega), if_neg (by omega)]
  refine wLoop.one (fun m x H => ∃ (i : Nat) (c : Nat), i + m = t.next.length ∧ x = Z i ∧ H = ⟨[.cells n 2 [Z 0, Z 0]], c⟩ ∧ ∀ j, j < i → checkAt t j = none) t.next.length (gh1.mk ⟨0, _, by simp, rfl, rfl, by simp⟩) ?_
  rintro m x H ⟨i, c, him, rfl, rfl, hpre⟩
  have gfine : gptr E 5 = .ptrF [Z 0, Z (-1)] 0 := by simp [gptr, hfine]
  by_cases hi : i < t.next.length
  case neg =>
    have : i = t.next.length := by omega
    subst this
    simp only [nd0, Y1n, Y1o, Y1p, Y1q, Y1w, Y1x, Y1y, Y1z, Y20, Y21, Y28, Y2a, AV.cells?, Nat.reduceAdd, Nat.reduceMul, Int.lt_irrefl, gfine]
    rw [storeN_L (n := 2) (xs := [Z 0, Z (-1)]) rfl rfl]
    simp only [nd0, Y1n, Y1o, Y1p, Y1q, Y1w, Y1x, Y1y, Y1z, Y20, Y21, Y28, Y2a, AV.cells?, Nat.reduceAdd, Nat.reduceMul, put_two, ret_one]
    refine hR _ _ ?_
    rw [hchk, findSome_none_of]
    · rfl
    · intro j hj
      exact hpre j (List.mem_range.1 hj)
  simp only [nd0, Y1n, Y1o, Y1p, Y1q, Y1w, Y1x, Y1y, Y1z, Y20, Y21, Y28, Y2a, AV.cells?, Nat.reduceAdd, Nat.reduceMul, decide_eq_true (show (i : Int) < (t.next.length : Int) by omega)]
  rw [iaddr_LLI hi]
  simp only [nd0, Y1n, Y1o, Y1p, Y1q, Y1w, Y1x, Y1y, Y1z, Y20, Y21, Y28, Y2a, AV.cells?, Nat.reduceAdd, Nat.reduceMul, row_get hi, lenA_LI, iaddr_LLI0 hpos, row_get hpos]
  have atE : ∀ (k : Nat) H, checkAt t i = some (k, some i) → R (.agg [Z k, Z i]) H := fun k H h => hR _ _ (by rw [hchk, findSome_range hi hpre h]; rfl)
  by_cases c5 : ((row t.next i).length : Int) = (row t.next 0).length
  case neg =>
    simp only [nd0, Y1n, Y1o, Y1p, Y1q, Y1w, Y1x, Y1y, Y1z, Y20, Y21, Y28, Y2a, AV.cells?, Nat.reduceAdd, Nat.reduceMul, decide_eq_false c5]
    refine ⟨⟨[Z 3, Z i], rfl, ?_⟩⟩
    rw [storeN_L (n := 2) (xs := [Z 3, Z i]) rfl rfl]
    simp only [nd0, Y1n, Y1o, Y1p, Y1q, Y1w, Y1x, Y1y, Y1z, Y20, Y21, Y28, Y2a, AV.cells?, Nat.reduceAdd, Nat.reduceMul, put_two, ret_one]
    exact atE 3 _ (by simp only [checkAt]; rw [if_pos (by simp only [row] at c5; omega)])
  simp only [nd0, Y1n, Y1o, Y1p, Y1q, Y1w, Y1x, Y1y, Y1z, Y20, Y21, Y28, Y2a, AV.cells?, Nat.reduceAdd, Nat.reduceMul, decide_eq_true c5, lenA_LLI]
  have hi2 : i < t.tells.length := by omega
  rw [iaddr_LLI hi2]
  simp only [nd0, Y1n, Y1o, Y1p, Y1q, Y1w, Y1x, Y1y, Y1z, Y20, Y21, Y28, Y2a, AV.cells?, Nat.reduceAdd, Nat.reduceMul, row_get hi2, lenA_LI, iaddr_LLI0 hpos, row_get hpos]
  by_cases c6 : ((row t.tells i).length : Int) = (row t.next 0).length
  case neg =>
    simp only [nd0, Y1n, Y1o, Y1p, Y1q, Y1w, Y1x, Y1y, Y1z, Y20, Y21, Y28, Y2a, AV.cells?, Nat.reduceAdd, Nat.reduceMul, decide_eq_false c6]
    refine ⟨⟨[Z 3, Z i], rfl, ?_⟩⟩
    rw [storeN_L (n := 2) (xs := [Z 3, Z i]) rfl rfl]
    simp only [nd0, Y1n, Y1o, Y1p, Y1q, Y1w, Y1x, Y1y, Y1z, Y20, Y21, Y28, Y2a, AV.cells?, Nat.reduceAdd, Nat.reduceMul, put_two, ret_one]
    exact atE 3 _ (by simp only [checkAt]; rw [if_pos (by simp only [row] at c6; omega)])
  simp only [nd0, Y1n, Y1o, Y1p, Y1q, Y1w, Y1x, Y1y, Y1z, Y20, Y21, Y28, Y2a, AV.cells?, Nat.reduceAdd, Nat.reduceMul, decide_eq_true c6, lenA_LLI]
  refine wLoop.one (fun m x H => ∃ (pre rest : List Int) (c : Nat), row t.next i = pre ++ rest ∧ x = Z pre.length ∧ m = rest.length ∧ H = ⟨[.cells n 2 [Z 0, Z 0]], c⟩ ∧ ∀ y ∈ pre, (decide (y < 0) || decide (y ≥ t.next.length)) = false) (row t.next i).length (gh1.mk ⟨[], row t.next i, _, rfl, rfl, rfl, rfl, by simp⟩) ?_
  rintro m2 x H ⟨pre, rest, c2, hre, rfl, rfl, rfl, hok⟩
  cases rest with
  | nil =>
    rw [List.append_nil] at hre
    rw [hre]
    simp only [nd0, Y1n, Y1o, Y1p, Y1q, Y1w, Y1x, Y1y, Y1z, Y20, Y21, Y28, Y2a, AV.cells?, Nat.reduceAdd, Nat.reduceMul, Int.lt_irrefl]
    rw [binA_succ (by omega)]
    simp only [nd0, Y1n, Y1o, Y1p, Y1q, Y1w, Y1x, Y1y, Y1z, Y20, Y21, Y28, Y2a, AV.cells?, Nat.reduceAdd, Nat.reduceMul]
    refine back1.mk (m - 1) (by omega) ⟨i + 1, _, by omega, rfl, rfl, fun j hj => ?_⟩
    by_cases hji : j < i
    · exact hpre j hji
    · have : j = i := by omega
      subst this
      have h7 : (row t.next j).any (fun y => decide (y < 0) || decide (y ≥ t.next.length)) = false := by
        rw [hre, List.any_eq_false]; intro y hy; simp only [hok y hy]; simp
      simp only [row] at c5 c6 h7
      simp only [checkAt]
      rw [if_neg (by omega), if_neg (by rw [h7]; simp)]
  | cons y rest =>
    rw [hre]
    simp only [nd0, Y1n, Y1o, Y1p, Y1q, Y1w, Y1x, Y1y, Y1z, Y20, Y21, Y28, Y2a, AV.cells?, Nat.reduceAdd, Nat.reduceMul, decide_eq_true (show (pre.length : Int) < ((pre ++ y :: rest).length : Int) by simp; omega)]
    rw [iaddr_LI lt_mid]
    simp only [nd0, Y1n, Y1o, Y1p, Y1q, Y1w, Y1x, Y1y, Y1z, Y20, Y21, Y28, Y2a, AV.cells?, Nat.reduceAdd, Nat.reduceMul, at_mid]
    rw [binA_sub (by omega)]
    simp only [nd0, Y1n, Y1o, Y1p, Y1q, Y1w, Y1x, Y1y, Y1z, Y20, Y21, Y28, Y2a, AV.cells?, Nat.reduceAdd, Nat.reduceMul]
    refine wCall.fx (within_spec hW _ _ _) fun n2 => ?_
    by_cases h8 : y < 0 ∨ y ≥ t.next.length
    · rw [show (decide ((0 : Int) ≤ y) && decide (y ≤ (t.next.length : Int) - 1)) = false by simp; omega]
      simp only [nd0, Y1n, Y1o, Y1p, Y1q, Y1w, Y1x, Y1y, Y1z, Y20, Y21, Y28, Y2a, AV.cells?, Nat.reduceAdd, Nat.reduceMul]
      refine ⟨⟨[Z 2, Z i], rfl, ?_⟩⟩
      rw [storeN_L (n := 2) (xs := [Z 2, Z i]) rfl rfl]
      simp only [nd0, Y1n, Y1o, Y1p, Y1q, Y1w, Y1x, Y1y, Y1z, Y20, Y21, Y28, Y2a, AV.cells?, Nat.reduceAdd, Nat.reduceMul, put_two, ret_one]
      have h7 : (row t.next i).any (fun y => decide (y < 0) || decide (y ≥ t.next.length)) = true := by
        rw [hre, List.any_eq_true]; exact ⟨y, by simp, by simpa using h8⟩
      refine atE 2 _ ?_
      simp only [row] at c5 c6 h7
      simp only [checkAt]
      rw [if_neg (by omega), if_pos h7]
    · rw [show (decide ((0 : Int) ≤ y) && decide (y ≤ (t.next.length : Int) - 1)) = true by simp; omega]
      simp only [nd0, Y1n, Y1o, Y1p, Y1q, Y1w, Y1x, Y1y, Y1z, Y20, Y21, Y28, Y2a, AV.cells?, Nat.reduceAdd, Nat.reduceMul]
      have hw2 : pre.length < 100 := by rw [hre] at c5; simp at c5; omega
      rw [binA_succ (by omega)]
      simp only [nd0, Y1n, Y1o, Y1p, Y1q, Y1w, Y1x, Y1y, Y1z, Y20, Y21, Y28, Y2a, AV.cells?, Nat.reduceAdd, Nat.reduceMul]
      refine back1.mk rest.length (by simp) ⟨pre ++ [y], rest, _, by simp, by simp, rfl, rfl, fun z hz => ?_⟩
      rcases List.mem_append.1 hz with hz | hz
      · exact hok z hz
      · simp at hz; subst hz; simp; omega
end
end Go.Sc
namespace Go.Sc
open Go
set_option linter.unusedSimpArgs false
set_option linter.unusedVariables false
set_option linter.unnecessarySimpa false

structure ExprBodies (E : Env) (P : Program) : Prop where
  p : ParseBodies E P
  r : RefReadBodies E P
  w : WriteBodies E P
  t : RefTextBodies E P
structure ParsesBodies (E : Env) (P : Program) : Prop where
  e : ExprBodies E P
  p : PlaceBodies E P
  at_ : Body2 E P 77 F.law_at
section
variable {E : Env} {P : Program}
theorem Ex.enc_nil (x : Ex) : eqA .iface x.enc nilE = some false := by cases x <;> rfl
set_option maxHeartbeats 1000000 in
theorem ExprParses_body (B : ParsesBodies E P) (s : Str) (n : Nat) : F.law_ExprParses E P (S s) ⟨[], n⟩ (fun r _ => r = Bo true) := by
  unfold F.law_ExprParses
  simp only [nd0, Y1n, Y1o, Y1p, Y1q, Y1w, Y1x, Y1y, Y1z, Y20, Y21, Y28, Y2a, AV.cells?, Nat.reduceAdd, Nat.reduceMul]
  by_cases h1 : 2100 < s.length
  · simp only [nd0, Y1n, Y1o, Y1p, Y1q, Y1w, Y1x, Y1y, Y1z, Y20, Y21, Y28, Y2a, AV.cells?, Nat.reduceAdd, Nat.reduceMul, decide_eq_true (show (2100 : Int) < (s.length : Int) by omega)]
  simp only [nd0, Y1n, Y1o, Y1p, Y1q, Y1w, Y1x, Y1y, Y1z, Y20, Y21, Y28, Y2a, AV.cells?, Nat.reduceAdd, Nat.reduceMul, decide_eq_false (show ¬ (2100 : Int) < (s.length : Int) by omega)]
  refine wCall.fx (ExprParse_spec B.e.r s) fun n => ?_
  have hpar := Parse_spec B.e.p s
  unfold parseA at hpar
  unfold refParseA
  by_cases h2 : 2000 < s.length
  · rw [if_pos h2] at hpar
    rw [if_pos h2]
    simp only [nd0, Y1n, Y1o, Y1p, Y1q, Y1w, Y1x, Y1y, Y1z, Y20, Y21, Y28, Y2a, AV.cells?, Nat.reduceAdd, Nat.reduceMul]
    refine wNew.L (l := [Z 0, Z 0]) rfl ?_
    simp only [nd0, Y1n, Y1o, Y1p, Y1q, Y1w, Y1x, Y1y, Y1z, Y20, Y21, Y28, Y2a, AV.cells?, Nat.reduceAdd, Nat.reduceMul]
    rw [storeN_L (n := 2) (xs := [Z 4, Z (-1)]) rfl rfl]
    simp only [nd0, Y1n, Y1o, Y1p, Y1q, Y1w, Y1x, Y1y, Y1z, Y20, Y21, Y28, Y2a, AV.cells?, Nat.reduceAdd, Nat.reduceMul, put_two]
    refine wCall.fx hpar fun n => ?_
    simp only [nd0, Y1n, Y1o, Y1p, Y1q, Y1w, Y1x, Y1y, Y1z, Y20, Y21, Y28, Y2a, AV.cells?, Nat.reduceAdd, Nat.reduceMul, show decide ((4 : Int) = 0) = false from rfl]
    refine wCall.fx (at_spec B.p B.at_ 4 4 (-1)) fun n => ?_
    simp only [nd0, Y1n, Y1o, Y1p, Y1q, Y1w, Y1x, Y1y, Y1z, Y20, Y21, Y28, Y2a, AV.cells?, Nat.reduceAdd, Nat.reduceMul, show (decide ((4 : Int) = 4) && decide ((-1 : Int) = -1)) = true from rfl, Bool.and_self, beq_self_eq_true]
  rw [if_neg h2] at hpar
  rw [if_neg h2]
  cases hp : parseR s with
  | no e p =>
    have he := parseR_err hp
    rw [hp] at hpar
    simp only [nd0, Y1n, Y1o, Y1p, Y1q, Y1w, Y1x, Y1y, Y1z, Y20, Y21, Y28, Y2a, AV.cells?, Nat.reduceAdd, Nat.reduceMul]
    refine wNew.L (l := [Z 0, Z 0]) rfl ?_
    simp only [nd0, Y1n, Y1o, Y1p, Y1q, Y1w, Y1x, Y1y, Y1z, Y20, Y21, Y28, Y2a, AV.cells?, Nat.reduceAdd, Nat.reduceMul]
    rw [storeN_L (n := 2) (xs := [Z e, Z p]) rfl rfl]
    simp only [nd0, Y1n, Y1o, Y1p, Y1q, Y1w, Y1x, Y1y, Y1z, Y20, Y21, Y28, Y2a, AV.cells?, Nat.reduceAdd, Nat.reduceMul, put_two]
    refine wCall.fx hpar fun n => ?_
    simp only [nd0, Y1n, Y1o, Y1p, Y1q, Y1w, Y1x, Y1y, Y1z, Y20, Y21, Y28, Y2a, AV.cells?, Nat.reduceAdd, Nat.reduceMul, decide_eq_false (show ¬ (e : Int) = 0 by omega)]
    refine wCall.fx (atAt_spec B.p B.at_ e p e p) fun n => ?_
    simp only [nd0, Y1n, Y1o, Y1p, Y1q, Y1w, Y1x, Y1y, Y1z, Y20, Y21, Y28, Y2a, AV.cells?, Nat.reduceAdd, Nat.reduceMul, show (decide ((e : Int) = e) && decide ((p : Int) = p)) = true from by simp, Bool.and_self, beq_self_eq_true]
  | ok x j =>
    obtain ⟨hw, hf⟩ := parseR_good hp
    rw [hp] at hpar
    simp only [nd0, Y1n, Y1o, Y1p, Y1q, Y1w, Y1x, Y1y, Y1z, Y20, Y21, Y28, Y2a, AV.cells?, Nat.reduceAdd, Nat.reduceMul]
    refine wNew.L (l := [Z 0, Z 0]) rfl ?_
    simp only [nd0, Y1n, Y1o, Y1p, Y1q, Y1w, Y1x, Y1y, Y1z, Y20, Y21, Y28, Y2a, AV.cells?, Nat.reduceAdd, Nat.reduceMul]
    rw [storeN_L (n := 2) (xs := [Z 0, Z (-1)]) rfl rfl]
    simp only [nd0, Y1n, Y1o, Y1p, Y1q, Y1w, Y1x, Y1y, Y1z, Y20, Y21, Y28, Y2a, AV.cells?, Nat.reduceAdd, Nat.reduceMul, put_two]
    refine wCall.fx hpar fun n => ?_
    simp only [nd0, Y1n, Y1o, Y1p, Y1q, Y1w, Y1x, Y1y, Y1z, Y20, Y21, Y28, Y2a, AV.cells?, Nat.reduceAdd, Nat.reduceMul, show decide ((0 : Int) = 0) = true from rfl, Ex.enc_nil]
    refine wCall.fx (Text_spec B.e.w x (by omega) hf) fun n => ?_
    simp only [nd0, Y1n, Y1o, Y1p, Y1q, Y1w, Y1x, Y1y, Y1z, Y20, Y21, Y28, Y2a, AV.cells?, Nat.reduceAdd, Nat.reduceMul]
    refine wCall.fx (refText_spec B.e.t _ x (Nat.lt_succ_self _) (by omega) hf) fun n => ?_
    simp only [nd0, Y1n, Y1o, Y1p, Y1q, Y1w, Y1x, Y1y, Y1z, Y20, Y21, Y28, Y2a, AV.cells?, Nat.reduceAdd, Nat.reduceMul, decide_eq_true (show Ex.wr 0 x = Ex.wr 0 x from rfl)]
end
end Go.Sc
namespace Go.Sc.F
open Go Go.Sc
set_option linter.unusedVariables false

/-- signalbox/signalboxkeep.ExprBack -/
def keep_ExprBack (E : Env) (P : Program) (a0 a1 a2 : AV) (H : AH) (R : Kt) : Prop :=
  wGet (lenS a0) H fun t12 H =>
  wGet (binA .gtr t12 (.val (.int .i64 900))) H fun t13 H =>
  wGuard t13 false H (fun k => k a1 H) fun t15 H =>
  wGuard t13 false H (fun k => wGet (lenA t15) H k) fun t16 H =>
  wGuard t13 false H (fun k => wGet (binA .gtr t16 (.val (.int .i64 20))) H k) fun t17 H =>
  wGet (pickA t13 (.val (.bool true)) t17) H fun t18 H =>
  wGuard t18 false H (fun k => k a2 H) fun t20 H =>
  wGuard t18 false H (fun k => wGet (lenA t20) H k) fun t21 H =>
  wGuard t18 false H (fun k => wGet (binA .gtr t21 (.val (.int .i64 20))) H k) fun t22 H =>
  wGet (pickA t18 (.val (.bool true)) t22) H fun t23 H =>
  wIf t23 (
    R (.val (.bool true)) H) (
    wCall E P 126 [a0] H fun t26 H =>
    wGet (extractA t26 0) H fun t27 H =>
    wGet (extractA t26 1) H fun t28 H =>
    wCall E P 155 [] H fun t29 H =>
    wGet (unA .not t29) H fun t30 H =>
    wGuard t30 false H (fun k => k t28 H) fun t32 H =>
    wGuard t30 false H (fun k => wBool (eqA .iface t32 (.val (.nilIface))) H true k) fun t33 H =>
    wGet (pickA t30 (.val (.bool true)) t33) H fun t34 H =>
    wIf t34 (
      wCall E P 155 [] H fun t35 H =>
      wGuard t35 true H (fun k => k t27 H) fun t37 H =>
      wGuard t35 true H (fun k => wBool (eqA .iface t37 (.val (.nilIface))) H false k) fun t38 H =>
      wGet (pickA t35 t38 (.val (.bool false))) H fun t39 H =>
      R t39 H) (
      wCall E P 127 [t27] H fun t41 H =>
      wGet (lenS t41) H fun t43 H =>
      wGet (binA .gtr t43 (.val (.int .i64 2000))) H fun t44 H =>
      wIf t44 (
        R (.val (.bool true)) H) (
        wCall E P 126 [t41] H fun t47 H =>
        wGet (extractA t47 0) H fun t48 H =>
        wGet (extractA t47 1) H fun t49 H =>
        wBool (eqA .iface t49 (.val (.nilIface))) H false fun t51 H =>
        wGuard t51 true H (fun k => k t48 H) fun t53 H =>
        wGuard t51 true H (fun k => wBool (eqA .iface t53 (.val (.nilIface))) H true k) fun t54 H =>
        wGet (pickA t51 t54 (.val (.bool false))) H fun t55 H =>
        wGuard t55 true H (fun k => k t48 H) fun t57 H =>
        wGuard t55 true H (fun k => wCall E P 127 [t57] H k) fun t58 H =>
        wGuard t55 true H (fun k => k t41 H) fun t59 H =>
        wGuard t55 true H (fun k => wGet (binA .eql t58 t59) H k) fun t60 H =>
        wGet (pickA t55 t60 (.val (.bool false))) H fun t61 H =>
        wGuard t61 true H (fun k => k t48 H) fun t63 H =>
        wGuard t61 true H (fun k => wCall E P 156 [t63] H k) fun t64 H =>
        wGuard t61 true H (fun k => k t27 H) fun t65 H =>
        wGuard t61 true H (fun k => wCall E P 156 [t65] H k) fun t66 H =>
        wGuard t61 true H (fun k => wGet (binA .eql t64 t66) H k) fun t67 H =>
        wGet (pickA t61 t67 (.val (.bool false))) H fun t68 H =>
        wGuard t68 true H (fun k => k t48 H) fun t70 H =>
        wGuard t68 true H (fun k => k a1 H) fun t71 H =>
        wGuard t68 true H (fun k => wCall E P 157 [t71] H k) fun t72 H =>
        wGuard t68 true H (fun k => k a2 H) fun t73 H =>
        wGuard t68 true H (fun k => wCall E P 157 [t73] H k) fun t74 H =>
        wGuard t68 true H (fun k => wCall E P 158 [t70, t72, t74] H k) fun t75 H =>
        wGuard t68 true H (fun k => k t27 H) fun t76 H =>
        wGuard t68 true H (fun k => k a1 H) fun t77 H =>
        wGuard t68 true H (fun k => wCall E P 157 [t77] H k) fun t78 H =>
        wGuard t68 true H (fun k => k a2 H) fun t79 H =>
        wGuard t68 true H (fun k => wCall E P 157 [t79] H k) fun t80 H =>
        wGuard t68 true H (fun k => wCall E P 158 [t76, t78, t80] H k) fun t81 H =>
        wGuard t68 true H (fun k => wBool (eqA .bool t75 t81) H false k) fun t82 H =>
        wGet (pickA t68 t82 (.val (.bool false))) H fun t83 H =>
        R t83 H)))

/-- signalbox/signalboxkeep.says -/
def keep_says (E : Env) (P : Program) (H : AH) (R : Kt) : Prop :=
  wCall E P 126 [(.val (.string ⟨#[97, 32, 38, 32, 33, 98]⟩))] H fun t4 H =>
  wGet (extractA t4 0) H fun t5 H =>
  wGet (extractA t4 1) H fun t6 H =>
  wBool (eqA .iface t6 (.val (.nilIface))) H false fun t8 H =>
  wGuard t8 true H (fun k => k t5 H) fun t10 H =>
  wGuard t8 true H (fun k => wBool (eqA .iface t10 (.val (.nilIface))) H true k) fun t11 H =>
  wGet (pickA t8 t11 (.val (.bool false))) H fun t12 H =>
  wGuard t12 true H (fun k => k t5 H) fun t14 H =>
  wGuard t12 true H (fun k => wNewS 1 1 (fillA (List.replicate 1 [(.val (.string ⟨#[]⟩))]).flatten [(0, 1, (.val (.string ⟨#[97]⟩)))]) H k) fun t15 H =>
  wGuard t12 true H (fun k => wCall E P 157 [t15] H k) fun t16 H =>
  wGuard t12 true H (fun k => wCall E P 157 [(.val (.slice none 0 0))] H k) fun t17 H =>
  wGuard t12 true H (fun k => wCall E P 158 [t14, t16, t17] H k) fun t18 H =>
  wGet (pickA t12 t18 (.val (.bool false))) H fun t19 H =>
  wGuard t19 true H (fun k => k t5 H) fun t21 H =>
  wGuard t19 true H (fun k => wNewS 1 2 (fillA (List.replicate 2 [(.val (.string ⟨#[]⟩))]).flatten [(0, 1, (.val (.string ⟨#[97]⟩))), (1, 1, (.val (.string ⟨#[98]⟩)))]) H k) fun t22 H =>
  wGuard t19 true H (fun k => wCall E P 157 [t22] H k) fun t23 H =>
  wGuard t19 true H (fun k => wCall E P 157 [(.val (.slice none 0 0))] H k) fun t24 H =>
  wGuard t19 true H (fun k => wCall E P 158 [t21, t23, t24] H k) fun t25 H =>
  wGuard t19 true H (fun k => wGet (unA .not t25) H k) fun t26 H =>
  wGet (pickA t19 t26 (.val (.bool false))) H fun t27 H =>
  wGuard t27 true H (fun k => k t5 H) fun t29 H =>
  wGuard t27 true H (fun k => wCall E P 127 [t29] H k) fun t30 H =>
  wGuard t27 true H (fun k => wGet (binA .eql t30 (.val (.string ⟨#[97, 32, 38, 32, 33, 98]⟩))) H k) fun t31 H =>
  wGet (pickA t27 t31 (.val (.bool false))) H fun t32 H =>
  R t32 H

/-- signalbox/expr.Size -/
def expr_Size (E : Env) (P : Program) (a0 : AV) (H : AH) (R : Kt) : Prop :=
  wNew 1 (some [(.val (.int .i64 0))]) H fun t3 H =>
  wPut (store1 t3 (.val (.int .i64 0)) H) fun _u H =>
  wCall E P 161 [a0, (.fn 160 [] [t3])] H fun t6 H =>
  wGet (load1 t3 H) H fun t7 H =>
  R t7 H

/-- signalbox/expr.Eval -/
def expr_Eval (E : Env) (P : Program) (a0 a1 a2 : AV) (H : AH) (R : Kt) : Prop :=
  wNew 1 (AV.cells? a1) H fun t4 H =>
  wNew 1 (AV.cells? a2) H fun t5 H =>
  wGet (assertA 11 (.val (.bool false)) a0) H fun t15 H =>
  wGet (extractA t15 1) H fun t16 H =>
  wGet (extractA t15 0) H fun t17 H =>
  wIf t16 (
    R t17 H) (
    wGet (assertA 14 (.val (.string ⟨#[]⟩)) a0) H fun t19 H =>
    wGet (extractA t19 1) H fun t20 H =>
    wGet (extractA t19 0) H fun t21 H =>
    wIf t20 (
      wGet (load1 t4 H) H fun t22 H =>
      wCallV E P t22 [t21] H fun t24 H =>
      R t24 H) (
      wGet (assertA 12 (.val (.string ⟨#[]⟩)) a0) H fun t25 H =>
      wGet (extractA t25 1) H fun t26 H =>
      wGet (extractA t25 0) H fun t27 H =>
      wIf t26 (
        wGet (load1 t4 H) H fun t28 H =>
        wCallV E P t28 [t27] H fun t30 H =>
        wGuard t30 true H (fun k => wGet (load1 t5 H) H k) fun t32 H =>
        wGuard t30 true H (fun k => k t27 H) fun t33 H =>
        wGuard t30 true H (fun k => wCallV E P t32 [t33] H k) fun t34 H =>
        wGuard t30 true H (fun k => wGet (unA .not t34) H k) fun t35 H =>
        wGet (pickA t30 t35 (.val (.bool false))) H fun t36 H =>
        R t36 H) (
        wGet (assertA 13 (.val (.string ⟨#[]⟩)) a0) H fun t37 H =>
        wGet (extractA t37 1) H fun t38 H =>
        wGet (extractA t37 0) H fun t39 H =>
        wIf t38 (
          wGet (load1 t4 H) H fun t40 H =>
          wCallV E P t40 [t39] H fun t42 H =>
          wGet (unA .not t42) H fun t43 H =>
          wGuard t43 true H (fun k => wGet (load1 t5 H) H k) fun t45 H =>
          wGuard t43 true H (fun k => k t39 H) fun t46 H =>
          wGuard t43 true H (fun k => wCallV E P t45 [t46] H k) fun t47 H =>
          wGet (pickA t43 t47 (.val (.bool false))) H fun t48 H =>
          R t48 H) (
          wGet (assertA 10 (.agg [(.val (.nilIface))]) a0) H fun t49 H =>
          wGet (extractA t49 1) H fun t50 H =>
          wGet (extractA t49 0) H fun t51 H =>
          wIf t50 (
            wNew 1 (some [(.val (.nilIface))]) H fun t11 H =>
            wPut (storeN 1 t11 t51 H) fun _u H =>
            wGet (faddr 0 t11) H fun t52 H =>
            wGet (load1 t52 H) H fun t53 H =>
            wGet (load1 t4 H) H fun t54 H =>
            wGet (load1 t5 H) H fun t55 H =>
            wCall E P 158 [t53, t54, t55] H fun t56 H =>
            wGet (unA .not t56) H fun t57 H =>
            R t57 H) (
            wGet (assertA 9 (.val (.slice none 0 0)) a0) H fun t58 H =>
            wGet (extractA t58 1) H fun t59 H =>
            wGet (extractA t58 0) H fun t60 H =>
            wIf t59 (
              wCall E P 163 [t60, (.fn 162 [] [t4, t5])] H fun t63 H =>
              wGet (unA .not t63) H fun t64 H =>
              R t64 H) (
              wGet (assertA 8 (.val (.slice none 0 0)) a0) H fun t65 H =>
              wGet (extractA t65 1) H fun t66 H =>
              wGet (extractA t65 0) H fun t67 H =>
              wIf t66 (
                wCall E P 165 [t67, (.fn 164 [] [t4, t5])] H fun t70 H =>
                R t70 H) (
                R (.val (.bool false)) H)))))))

/-- signalbox/signalboxkeep.among -/
def keep_among (E : Env) (P : Program) (a0 : AV) (H : AH) (R : Kt) : Prop :=
  wNew 1 (AV.cells? a0) H fun t1 H =>
  R (.fn 166 [] [t1]) H

/-- signalbox/expr.walk -/
def expr_walk (E : Env) (P : Program) (a0 a1 : AV) (H : AH) (R : Kt) : Prop :=
  wCallV E P a1 [a0] H fun t13 H =>
  wGet (assertA 10 (.agg [(.val (.nilIface))]) a0) H fun t15 H =>
  wGet (extractA t15 1) H fun t16 H =>
  wGet (extractA t15 0) H fun t17 H =>
  wIf t16 (
    wNew 1 (some [(.val (.nilIface))]) H fun t4 H =>
    wPut (storeN 1 t4 t17 H) fun _u H =>
    wGet (faddr 0 t4) H fun t18 H =>
    wGet (load1 t18 H) H fun t19 H =>
    wCall E P 161 [t19, a1] H fun t21 H =>
    R (.tup []) H) (
    wGet (assertA 9 (.val (.slice none 0 0)) a0) H fun t22 H =>
    wGet (extractA t22 1) H fun t23 H =>
    wGet (extractA t22 0) H fun t24 H =>
    wIf t23 (
      wGet (lenA t24) H fun t26 H =>
      wLoop 1 (fun I1 => I1 (.val (.int .i64 0)) H) fun I1 t27 H =>
        wGet (binA .lss t27 t26) H fun t28 H =>
        wIf t28 (
          wGet (iaddr 1 t24 t27) H fun t29 H =>
          wGet (load1 t29 H) H fun t30 H =>
          wCall E P 161 [t30, a1] H fun t33 H =>
          wGet (binA .add t27 (.val (.int .i64 1))) H fun t34 H =>
          I1 t34 H) (
          R (.tup []) H)) (
      wGet (assertA 8 (.val (.slice none 0 0)) a0) H fun t35 H =>
      wGet (extractA t35 1) H fun t36 H =>
      wGet (extractA t35 0) H fun t37 H =>
      wIf t36 (
        wGet (lenA t37) H fun t39 H =>
        wLoop 1 (fun I2 => I2 (.val (.int .i64 0)) H) fun I2 t40 H =>
          wGet (binA .lss t40 t39) H fun t41 H =>
          wIf t41 (
            wGet (iaddr 1 t37 t40) H fun t42 H =>
            wGet (load1 t42 H) H fun t43 H =>
            wCall E P 161 [t43, a1] H fun t46 H =>
            wGet (binA .add t40 (.val (.int .i64 1))) H fun t47 H =>
            I2 t47 H) (
            R (.tup []) H)) (
        R (.tup []) H)))

/-- signalbox/expr.Size$1 -/
def expr_Size_c1 (E : Env) (P : Program) (a0 a1 : AV) (H : AH) (R : Kt) : Prop :=
  wGet (load1 a1 H) H fun t3 H =>
  wGet (binA .add t3 (.val (.int .i64 1))) H fun t4 H =>
  wPut (store1 a1 t4 H) fun _u H =>
  R (.tup []) H

/-- slices.ContainsFunc[signalbox/expr.And,signalbox/expr.Expr] -/
def slices_ContainsFunc_expr_And_expr_Expr (E : Env) (P : Program) (a0 a1 : AV) (H : AH) (R : Kt) : Prop :=
  wCall E P 167 [a0, a1] H fun t7 H =>
  wGet (binA .geq t7 (.val (.int .i64 0))) H fun t8 H =>
  R t8 H

/-- signalbox/expr.Eval$1 -/
def expr_Eval_c1 (E : Env) (P : Program) (a0 a1 a2 : AV) (H : AH) (R : Kt) : Prop :=
  wGet (load1 a1 H) H fun t6 H =>
  wGet (load1 a2 H) H fun t7 H =>
  wCall E P 158 [a0, t6, t7] H fun t8 H =>
  wGet (unA .not t8) H fun t9 H =>
  R t9 H

/-- slices.ContainsFunc[signalbox/expr.Or,signalbox/expr.Expr] -/
def slices_ContainsFunc_expr_Or_expr_Expr (E : Env) (P : Program) (a0 a1 : AV) (H : AH) (R : Kt) : Prop :=
  wCall E P 168 [a0, a1] H fun t7 H =>
  wGet (binA .geq t7 (.val (.int .i64 0))) H fun t8 H =>
  R t8 H

/-- signalbox/expr.Eval$2 -/
def expr_Eval_c2 (E : Env) (P : Program) (a0 a1 a2 : AV) (H : AH) (R : Kt) : Prop :=
  wGet (load1 a1 H) H fun t6 H =>
  wGet (load1 a2 H) H fun t7 H =>
  wCall E P 158 [a0, t6, t7] H fun t8 H =>
  R t8 H

/-- signalbox/signalboxkeep.among$1 -/
def keep_among_c1 (E : Env) (P : Program) (a0 a1 : AV) (H : AH) (R : Kt) : Prop :=
  wLoop 1 (fun I1 => I1 (.val (.int .i64 0)) H) fun I1 t4 H =>
    wGet (load1 a1 H) H fun t6 H =>
    wGet (lenA t6) H fun t7 H =>
    wGet (binA .lss t4 t7) H fun t8 H =>
    wIf t8 (
      wGet (load1 a1 H) H fun t11 H =>
      wGet (iaddr 1 t11 t4) H fun t13 H =>
      wGet (load1 t13 H) H fun t14 H =>
      wGet (binA .eql t14 a0) H fun t16 H =>
      wIf t16 (
        R (.val (.bool true)) H) (
        wGet (binA .add t4 (.val (.int .i64 1))) H fun t10 H =>
        I1 t10 H)) (
      R (.val (.bool false)) H)

/-- slices.IndexFunc[signalbox/expr.And,signalbox/expr.Expr] -/
def slices_IndexFunc_expr_And_expr_Expr (E : Env) (P : Program) (a0 a1 : AV) (H : AH) (R : Kt) : Prop :=
  wGet (lenA a0) H fun t7 H =>
  wLoop 1 (fun I1 => I1 (.val (.int .i64 0)) H) fun I1 t8 H =>
    wGet (binA .lss t8 t7) H fun t9 H =>
    wIf t9 (
      wGet (iaddr 1 a0 t8) H fun t14 H =>
      wGet (load1 t14 H) H fun t15 H =>
      wCallV E P a1 [t15] H fun t16 H =>
      wIf t16 (
        R t8 H) (
        wGet (binA .add t8 (.val (.int .i64 1))) H fun t18 H =>
        I1 t18 H)) (
      R (.val (.int .i64 (-1))) H)

/-- slices.IndexFunc[signalbox/expr.Or,signalbox/expr.Expr] -/
def slices_IndexFunc_expr_Or_expr_Expr (E : Env) (P : Program) (a0 a1 : AV) (H : AH) (R : Kt) : Prop :=
  wGet (lenA a0) H fun t7 H =>
  wLoop 1 (fun I1 => I1 (.val (.int .i64 0)) H) fun I1 t8 H =>
    wGet (binA .lss t8 t7) H fun t9 H =>
    wIf t9 (
      wGet (iaddr 1 a0 t8) H fun t14 H =>
      wGet (load1 t14 H) H fun t15 H =>
      wCallV E P a1 [t15] H fun t16 H =>
      wIf t16 (
        R t8 H) (
        wGet (binA .add t8 (.val (.int .i64 1))) H fun t18 H =>
        I1 t18 H)) (
      R (.val (.int .i64 (-1))) H)

end Go.Sc.F
namespace Go.Sc
open Go
set_option linter.unusedSimpArgs false
set_option linter.unusedVariables false
set_option linter.unnecessarySimpa false

/-! ### what it says -/
mutual
def Ex.says (p q : Str → Bool) : Ex → Bool
  | .k b => b
  | .bit s => p s
  | .rise s => p s && !q s
  | .fall s => !p s && q s
  | .not x => !x.says p q
  | .and l => Ex.allL p q l
  | .or l => Ex.anyL p q l
def Ex.allL (p q : Str → Bool) : List Ex → Bool
  | [] => true
  | x :: l => x.says p q && Ex.allL p q l
def Ex.anyL (p q : Str → Bool) : List Ex → Bool
  | [] => false
  | x :: l => x.says p q || Ex.anyL p q l
end
theorem Ex.allL_eq (p q : Str → Bool) : ∀ l : List Ex, Ex.allL p q l = l.all fun x => x.says p q
  | [] => rfl
  | x :: l => by simp [Ex.allL, Ex.allL_eq p q l]
theorem Ex.anyL_eq (p q : Str → Bool) : ∀ l : List Ex, Ex.anyL p q l = l.any fun x => x.says p q
  | [] => rfl
  | x :: l => by simp [Ex.anyL, Ex.anyL_eq p q l]
mutual
def Ex.size : Ex → Nat
  | .not x => x.size + 1
  | .and l => Ex.sizeL l + 1
  | .or l => Ex.sizeL l + 1
  | _ => 1
def Ex.sizeL : List Ex → Nat
  | [] => 0
  | x :: l => x.size + Ex.sizeL l
end
mutual
theorem Ex.size_wt : ∀ x : Ex, x.fine → x.size ≤ x.wt
  | .k _, _ => by simp [Ex.size, Ex.wt]
  | .bit s, h => by
    cases s with
    | nil => simp [Ex.fine, nameOk] at h
    | cons a b => simp [Ex.size, Ex.wt]
  | .rise _, _ => by simp [Ex.size, Ex.wt]
  | .fall _, _ => by simp [Ex.size, Ex.wt]
  | .not x, h => by have := Ex.size_wt x h; simp only [Ex.size, Ex.wt]; omega
  | .and l, h => by have := Ex.sizeL_wt l h.2; simp only [Ex.size, Ex.wt]; omega
  | .or l, h => by have := Ex.sizeL_wt l h.2; simp only [Ex.size, Ex.wt]; omega
theorem Ex.sizeL_wt : ∀ l : List Ex, Ex.fineL l → Ex.sizeL l ≤ Ex.wtL l
  | [], _ => by simp [Ex.sizeL, Ex.wtL]
  | x :: l, h => by have h1 := Ex.size_wt x h.1; have h2 := Ex.sizeL_wt l h.2; simp only [Ex.sizeL, Ex.wtL]; omega
end
/-- a question of names -/
structure Asks (E : Env) (P : Program) (f : AV) (p : Str → Bool) : Prop where
  ok : ∃ k cc, f = .fn k [] cc ∧ AV.closedL cc ∧ ∀ s, FX E P k ([S s] ++ cc) (Bo (p s))
theorem Asks.closed {E : Env} {P : Program} {f : AV} {p : Str → Bool} (h : Asks E P f p) : f.closed := by
  obtain ⟨k, cc, rfl, h, _⟩ := h.ok
  exact ⟨trivial, h⟩
theorem Asks.scalar {E : Env} {P : Program} {f : AV} {p : Str → Bool} (h : Asks E P f p) : f.scalar = true := by
  obtain ⟨k, cc, rfl, h, _⟩ := h.ok
  rfl
theorem Asks.call {E : Env} {P : Program} {f : AV} {p : Str → Bool} (h : Asks E P f p) (s : Str) {H : AH} {K : Kt} (hK : ∀ n, K (Bo (p s)) ⟨H.bs, n⟩) : wCallV E P f [S s] H K := by
  obtain ⟨k, cc, rfl, _, h⟩ := h.ok
  exact wCallV.fx (fs := []) (h s) hK
/-- a list of texts, or nil -/
def TXL (a : AV) (l : List Str) : Prop := (a = nilS ∧ l = []) ∨ a = Lm S l
theorem TXL.closed {a : AV} {l : List Str} (h : TXL a l) : a.closed := by
  rcases h with ⟨rfl, _⟩ | rfl
  · trivial
  · exact closed_S l
theorem TXL.scalar {a : AV} {l : List Str} (h : TXL a l) : a.scalar = true := by
  rcases h with ⟨rfl, _⟩ | rfl <;> rfl
theorem TXL.len {a : AV} {l : List Str} (h : TXL a l) : lenA a = some (Z l.length) := by
  rcases h with ⟨rfl, rfl⟩ | rfl <;> rfl
structure EvalBodies (E : Env) (P : Program) : Prop where
  among : Body1 E P 157 F.keep_among
  among1 : Body2 E P 166 F.keep_among_c1
  eval : Body3 E P 158 F.expr_Eval
  eval1 : Body3 E P 162 F.expr_Eval_c1
  eval2 : Body3 E P 164 F.expr_Eval_c2
  conA : Body2 E P 163 F.slices_ContainsFunc_expr_And_expr_Expr
  conO : Body2 E P 165 F.slices_ContainsFunc_expr_Or_expr_Expr
  ixA : Body2 E P 167 F.slices_IndexFunc_expr_And_expr_Expr
  ixO : Body2 E P 168 F.slices_IndexFunc_expr_Or_expr_Expr
section
variable {E : Env} {P : Program}
theorem among1_spec (B : EvalBodies E P) {a : AV} {l : List Str} (h : TXL a l) (hl : l.length < 1099511627776) (s : Str) : FX E P 166 ([S s] ++ [.ptrF [a] 0]) (Bo (decide (s ∈ l))) := by
  refine FX.of' ⟨trivial, ⟨h.closed, trivial⟩, trivial⟩ trivial fun n R hR => B.among1 _ _ _ _ ?_
  unfold F.keep_among_c1
  refine wLoop.one (fun m i H => ∃ pre rest c, l = pre ++ rest ∧ i = Z pre.length ∧ m = rest.length ∧ s ∉ pre ∧ H = ⟨[], c⟩) l.length (gh1.mk ⟨[], l, n, rfl, rfl, rfl, by simp, rfl⟩) ?_
  rintro m i H ⟨pre, rest, c, rfl, rfl, rfl, hpre, rfl⟩
  simp only [nd0, Y1n, Y1o, Y1p, Y1q, Y1w, Y1x, Y1y, Y1z, Y20, Y21, Y28, Y2a, AV.cells?, Nat.reduceAdd, Nat.reduceMul, h.len]
  cases rest with
  | nil =>
    simp only [nd0, Y1n, Y1o, Y1p, Y1q, Y1w, Y1x, Y1y, Y1z, Y20, Y21, Y28, Y2a, AV.cells?, Nat.reduceAdd, Nat.reduceMul, List.append_nil, Int.lt_irrefl]
    exact hR _ _ (by rw [decide_eq_false (by simpa using hpre)])
  | cons x rest =>
    simp only [nd0, Y1n, Y1o, Y1p, Y1q, Y1w, Y1x, Y1y, Y1z, Y20, Y21, Y28, Y2a, AV.cells?, Nat.reduceAdd, Nat.reduceMul, decide_eq_true (show (pre.length : Int) < ((pre ++ x :: rest).length : Int) by simp; omega)]
    rcases h with ⟨_, h⟩ | rfl
    · simp at h
    rw [iaddr_Nn lt_mid]
    simp only [nd0, Y1n, Y1o, Y1p, Y1q, Y1w, Y1x, Y1y, Y1z, Y20, Y21, Y28, Y2a, AV.cells?, Nat.reduceAdd, Nat.reduceMul, at_mid]
    by_cases hx : x = s
    · simp only [nd0, Y1n, Y1o, Y1p, Y1q, Y1w, Y1x, Y1y, Y1z, Y20, Y21, Y28, Y2a, AV.cells?, Nat.reduceAdd, Nat.reduceMul, decide_eq_true hx]
      exact hR _ _ (by rw [decide_eq_true (by rw [hx]; simp)])
    · simp only [nd0, Y1n, Y1o, Y1p, Y1q, Y1w, Y1x, Y1y, Y1z, Y20, Y21, Y28, Y2a, AV.cells?, Nat.reduceAdd, Nat.reduceMul, decide_eq_false hx]
      rw [binA_succ (by simp at hl; omega)]
      simp only [nd0, Y1n, Y1o, Y1p, Y1q, Y1w, Y1x, Y1y, Y1z, Y20, Y21, Y28, Y2a, AV.cells?, Nat.reduceAdd, Nat.reduceMul]
      exact back1.mk rest.length (by simp) ⟨pre ++ [x], rest, c, by simp, by simp, rfl, by simp [hpre, Ne.symm hx], rfl⟩
def amongA (a : AV) : AV := .fn 166 [] [.ptrF [a] 0]
theorem among_spec (B : EvalBodies E P) {a : AV} {l : List Str} (h : TXL a l) : FX E P 157 [a] (amongA a) := by
  refine FX.of' ⟨h.closed, trivial⟩ ⟨trivial, ⟨h.closed, trivial⟩, trivial⟩ fun n R hR => B.among _ _ _ ?_
  unfold F.keep_among
  rw [cells?_scalar h.scalar]
  refine wNew.F' rfl ?_
  exact hR _ _ rfl
theorem among_asks (B : EvalBodies E P) {a : AV} {l : List Str} (h : TXL a l) (hl : l.length < 1099511627776) : Asks E P (amongA a) (fun s => decide (s ∈ l)) :=
  ⟨166, _, rfl, ⟨⟨h.closed, trivial⟩, trivial⟩, among1_spec B h hl⟩
theorem ixF_spec {G : Env → Program → AV → AV → AH → Kt → Prop} {kk : Nat} (hG : G = F.slices_IndexFunc_expr_And_expr_Expr ∨ G = F.slices_IndexFunc_expr_Or_expr_Expr) (hB : Body2 E P kk G) {k : Nat} {cs : List AV} {p : Ex → Bool} (l : List Ex) (hl : l.length < 4611686018427387904) (hcs : AV.closedL cs)
    (hp : ∀ a ∈ l, FX E P k ([a.enc] ++ cs) (Bo (p a))) : FX E P kk [.slN (Ex.encL l) l.length, .fn k [] cs] (Z (idxO (l.findIdx? p))) := by
  refine FX.of' ⟨Ex.encL_closed l, ⟨trivial, hcs⟩, trivial⟩ (by simp [AV.closed]) fun n R hR => hB _ _ _ _ ?_
  have main : wLoop 1 (fun I1 => I1 (Z 0) ⟨[], n⟩) fun I1 t8 H =>
      wGet (binA .lss t8 (Z l.length)) H fun t9 H =>
      wIf t9 (
        wGet (iaddr 1 (.slN (Ex.encL l) l.length) t8) H fun t14 H =>
        wGet (load1 t14 H) H fun t15 H =>
        wCallV E P (.fn k [] cs) [t15] H fun t16 H =>
        wIf t16 (
          R t8 H) (
          wGet (binA .add t8 (.val (.int .i64 1))) H fun t18 H =>
          I1 t18 H)) (
        R (.val (.int .i64 (-1))) H) := by
    refine wLoop.one (fun m i H => ∃ pre rest, l = pre ++ rest ∧ i = Z pre.length ∧ m = rest.length ∧ ∀ a ∈ pre, p a = false) l.length (gh1.mk ⟨[], l, rfl, rfl, rfl, by simp⟩) ?_
    rintro m i H ⟨pre, rest, rfl, rfl, rfl, hpre⟩
    cases rest with
    | nil =>
      simp only [nd0, Y1n, Y1o, Y1p, Y1q, Y1w, Y1x, Y1y, Y1z, Y20, Y21, Y28, Y2a, AV.cells?, Nat.reduceAdd, Nat.reduceMul, List.append_nil, Int.lt_irrefl]
      refine hR _ _ ?_
      rw [List.append_nil, List.findIdx?_eq_none_iff.2 hpre]
      rfl
    | cons x rest =>
      simp only [nd0, Y1n, Y1o, Y1p, Y1q, Y1w, Y1x, Y1y, Y1z, Y20, Y21, Y28, Y2a, AV.cells?, Nat.reduceAdd, Nat.reduceMul, decide_eq_true (show (pre.length : Int) < ((pre ++ x :: rest).length : Int) by simp; omega)]
      rw [iaddr_Nn lt_mid]
      simp only [nd0, Y1n, Y1o, Y1p, Y1q, Y1w, Y1x, Y1y, Y1z, Y20, Y21, Y28, Y2a, AV.cells?, Nat.reduceAdd, Nat.reduceMul, show (Ex.encL (pre ++ x :: rest))[pre.length]? = some x.enc by rw [Ex.encL_map]; simp]
      refine wCallV.fx (hp x (by simp)) fun n1 => ?_
      refine wIf.bool (fun h => ?_) fun h => ?_
      · refine hR _ _ ?_
        have : (pre ++ x :: rest).findIdx? p = some pre.length := by
          rw [List.findIdx?_append, List.findIdx?_eq_none_iff.2 hpre]
          simp [List.findIdx?_cons, h]
        rw [this]; rfl
      · rw [binA_succ (by simp at hl; omega)]
        simp only [nd0, Y1n, Y1o, Y1p, Y1q, Y1w, Y1x, Y1y, Y1z, Y20, Y21, Y28, Y2a, AV.cells?, Nat.reduceAdd, Nat.reduceMul]
        refine back1.mk rest.length (by simp) ⟨pre ++ [x], rest, by simp, by simp, rfl, fun a ha => ?_⟩
        rcases List.mem_append.1 ha with ha | ha
        · exact hpre a ha
        · simp at ha; subst ha; exact h
  rcases hG with rfl | rfl
  · unfold F.slices_IndexFunc_expr_And_expr_Expr
    simp only [nd0, Y1n, Y1o, Y1p, Y1q, Y1w, Y1x, Y1y, Y1z, Y20, Y21, Y28, Y2a, AV.cells?, Nat.reduceAdd, Nat.reduceMul]
    exact main
  · unfold F.slices_IndexFunc_expr_Or_expr_Expr
    simp only [nd0, Y1n, Y1o, Y1p, Y1q, Y1w, Y1x, Y1y, Y1z, Y20, Y21, Y28, Y2a, AV.cells?, Nat.reduceAdd, Nat.reduceMul]
    exact main
theorem any_idx {α : Type} {l : List α} {p : α → Bool} : decide ((0 : Int) ≤ idxO (l.findIdx? p)) = l.any p := by
  cases hf : l.findIdx? p with
  | none =>
    rw [List.findIdx?_eq_none_iff] at hf
    have : l.any p = false := by rw [List.any_eq_false]; intro x hx; simp [hf x hx]
    rw [this]; rfl
  | some i =>
    rw [List.findIdx?_eq_some_iff_getElem] at hf
    obtain ⟨h1, h2, _⟩ := hf
    have : l.any p = true := by rw [List.any_eq_true]; exact ⟨_, List.getElem_mem h1, h2⟩
    rw [this]
    have : (0 : Int) ≤ idxO (some i) := by simp [idxO]
    rw [decide_eq_true this]
theorem conA_spec (B : EvalBodies E P) {k : Nat} {cs : List AV} {p : Ex → Bool} (l : List Ex) (hl : l.length < 4611686018427387904) (hcs : AV.closedL cs) (hp : ∀ a ∈ l, FX E P k ([a.enc] ++ cs) (Bo (p a))) :
    FX E P 163 [.slN (Ex.encL l) l.length, .fn k [] cs] (Bo (l.any p)) := by
  refine FX.of' ⟨Ex.encL_closed l, ⟨trivial, hcs⟩, trivial⟩ trivial fun n R hR => B.conA _ _ _ _ ?_
  unfold F.slices_ContainsFunc_expr_And_expr_Expr
  refine wCall.fx (ixF_spec (.inl rfl) B.ixA l hl hcs hp) fun n => ?_
  simp only [nd0, Y1n, Y1o, Y1p, Y1q, Y1w, Y1x, Y1y, Y1z, Y20, Y21, Y28, Y2a, AV.cells?, Nat.reduceAdd, Nat.reduceMul]
  exact hR _ _ (by rw [any_idx])
theorem conO_spec (B : EvalBodies E P) {k : Nat} {cs : List AV} {p : Ex → Bool} (l : List Ex) (hl : l.length < 4611686018427387904) (hcs : AV.closedL cs) (hp : ∀ a ∈ l, FX E P k ([a.enc] ++ cs) (Bo (p a))) :
    FX E P 165 [.slN (Ex.encL l) l.length, .fn k [] cs] (Bo (l.any p)) := by
  refine FX.of' ⟨Ex.encL_closed l, ⟨trivial, hcs⟩, trivial⟩ trivial fun n R hR => B.conO _ _ _ _ ?_
  unfold F.slices_ContainsFunc_expr_Or_expr_Expr
  refine wCall.fx (ixF_spec (.inr rfl) B.ixO l hl hcs hp) fun n => ?_
  simp only [nd0, Y1n, Y1o, Y1p, Y1q, Y1w, Y1x, Y1y, Y1z, Y20, Y21, Y28, Y2a, AV.cells?, Nat.reduceAdd, Nat.reduceMul]
  exact hR _ _ (by rw [any_idx])
theorem all_any {l : List Ex} {p : Ex → Bool} : (!(l.any fun x => !p x)) = l.all p := by
  rw [Bool.eq_iff_iff]; simp
set_option maxHeartbeats 1000000 in
theorem Eval_spec (B : EvalBodies E P) {f g : AV} {p q : Str → Bool} (hf : Asks E P f p) (hg : Asks E P g q) : ∀ (n : Nat) (x : Ex), x.wt < n → x.wt ≤ 1000000 → x.fine → FX E P 158 [x.enc, f, g] (Bo (x.says p q)) := by
  intro n
  induction n with
  | zero => intro x hx; omega
  | succ n ih =>
    intro x hx hw hfi
    refine FX.of' ⟨Ex.enc_closed x, hf.closed, hg.closed, trivial⟩ trivial fun c R hR => B.eval _ _ _ _ _ ?_
    unfold F.expr_Eval
    rw [cells?_scalar hf.scalar]
    refine wNew.F' rfl ?_
    rw [cells?_scalar hg.scalar]
    refine wNew.F' rfl ?_
    have hbox : ∀ l : List Ex, AV.closedL [AV.ptrF [f] 0, .ptrF [g] 0] := fun _ => ⟨⟨hf.closed, trivial⟩, ⟨hg.closed, trivial⟩, trivial⟩
    cases x with
    | k b =>
      simp only [Ex.enc]
      simp only [nd0, Y1n, Y1o, Y1p, Y1q, Y1w, Y1x, Y1y, Y1z, Y20, Y21, Y28, Y2a, AV.cells?, Nat.reduceAdd, Nat.reduceMul, asA, if_pos rfl]
      exact hR _ _ rfl
    | bit s =>
      simp only [Ex.enc]
      simp only [nd0, Y1n, Y1o, Y1p, Y1q, Y1w, Y1x, Y1y, Y1z, Y20, Y21, Y28, Y2a, AV.cells?, Nat.reduceAdd, Nat.reduceMul, asA, show (14 : Nat) = 11 ↔ False by decide, show (14 : Nat) = 14 ↔ True by decide]
      refine hf.call s fun n => ?_
      exact hR _ _ rfl
    | rise s =>
      simp only [Ex.enc]
      simp only [nd0, Y1n, Y1o, Y1p, Y1q, Y1w, Y1x, Y1y, Y1z, Y20, Y21, Y28, Y2a, AV.cells?, Nat.reduceAdd, Nat.reduceMul, asA, show (12 : Nat) = 11 ↔ False by decide, show (12 : Nat) = 14 ↔ False by decide, show (12 : Nat) = 12 ↔ True by decide]
      refine hf.call s fun n => ?_
      cases hp : p s with
      | false => simp only [nd0, Y1n, Y1o, Y1p, Y1q, Y1w, Y1x, Y1y, Y1z, Y20, Y21, Y28, Y2a, AV.cells?, Nat.reduceAdd, Nat.reduceMul]; exact hR _ _ (by simp [Ex.says, hp])
      | true =>
        simp only [nd0, Y1n, Y1o, Y1p, Y1q, Y1w, Y1x, Y1y, Y1z, Y20, Y21, Y28, Y2a, AV.cells?, Nat.reduceAdd, Nat.reduceMul]
        refine hg.call s fun n => ?_
        simp only [nd0, Y1n, Y1o, Y1p, Y1q, Y1w, Y1x, Y1y, Y1z, Y20, Y21, Y28, Y2a, AV.cells?, Nat.reduceAdd, Nat.reduceMul]
        exact hR _ _ (by simp [Ex.says, hp])
    | fall s =>
      simp only [Ex.enc]
      simp only [nd0, Y1n, Y1o, Y1p, Y1q, Y1w, Y1x, Y1y, Y1z, Y20, Y21, Y28, Y2a, AV.cells?, Nat.reduceAdd, Nat.reduceMul, asA, show (13 : Nat) = 11 ↔ False by decide, show (13 : Nat) = 14 ↔ False by decide, show (13 : Nat) = 12 ↔ False by decide, show (13 : Nat) = 13 ↔ True by decide]
      refine hf.call s fun n => ?_
      cases hp : p s with
      | true => simp only [nd0, Y1n, Y1o, Y1p, Y1q, Y1w, Y1x, Y1y, Y1z, Y20, Y21, Y28, Y2a, AV.cells?, Nat.reduceAdd, Nat.reduceMul]; exact hR _ _ (by simp [Ex.says, hp])
      | false =>
        simp only [nd0, Y1n, Y1o, Y1p, Y1q, Y1w, Y1x, Y1y, Y1z, Y20, Y21, Y28, Y2a, AV.cells?, Nat.reduceAdd, Nat.reduceMul]
        refine hg.call s fun n => ?_
        simp only [nd0, Y1n, Y1o, Y1p, Y1q, Y1w, Y1x, Y1y, Y1z, Y20, Y21, Y28, Y2a, AV.cells?, Nat.reduceAdd, Nat.reduceMul]
        exact hR _ _ (by simp [Ex.says, hp])
    | not x =>
      simp only [Ex.enc]
      simp only [Ex.wt] at hw hx
      simp only [nd0, Y1n, Y1o, Y1p, Y1q, Y1w, Y1x, Y1y, Y1z, Y20, Y21, Y28, Y2a, AV.cells?, Nat.reduceAdd, Nat.reduceMul, asA, show (10 : Nat) = 11 ↔ False by decide, show (10 : Nat) = 14 ↔ False by decide, show (10 : Nat) = 12 ↔ False by decide, show (10 : Nat) = 13 ↔ False by decide, show (10 : Nat) = 10 ↔ True by decide]
      refine wNew.L (l := [nilE]) rfl ?_
      simp only [nd0, Y1n, Y1o, Y1p, Y1q, Y1w, Y1x, Y1y, Y1z, Y20, Y21, Y28, Y2a, AV.cells?, Nat.reduceAdd, Nat.reduceMul]
      rw [storeN_L (n := 1) (xs := [x.enc]) rfl (by simp [Ex.enc_scalar])]
      simp only [nd0, Y1n, Y1o, Y1p, Y1q, Y1w, Y1x, Y1y, Y1z, Y20, Y21, Y28, Y2a, AV.cells?, Nat.reduceAdd, Nat.reduceMul, show putL [nilE] 0 [x.enc] = some [x.enc] from rfl]
      refine wCall.fx (ih x (by omega) (by omega) hfi) fun n2 => ?_
      simp only [nd0, Y1n, Y1o, Y1p, Y1q, Y1w, Y1x, Y1y, Y1z, Y20, Y21, Y28, Y2a, AV.cells?, Nat.reduceAdd, Nat.reduceMul]
      exact hR _ _ rfl
    | and l =>
      simp only [Ex.enc]
      simp only [Ex.wt] at hw hx
      have hll := Ex.len_wtL hfi.2
      simp only [nd0, Y1n, Y1o, Y1p, Y1q, Y1w, Y1x, Y1y, Y1z, Y20, Y21, Y28, Y2a, AV.cells?, Nat.reduceAdd, Nat.reduceMul, asA, show (9 : Nat) = 11 ↔ False by decide, show (9 : Nat) = 14 ↔ False by decide, show (9 : Nat) = 12 ↔ False by decide, show (9 : Nat) = 13 ↔ False by decide, show (9 : Nat) = 10 ↔ False by decide, show (9 : Nat) = 9 ↔ True by decide]
      refine wCall.fx (conA_spec B (p := fun x => !x.says p q) l (by omega) (hbox l) fun y hy => ?_) fun n2 => ?_
      · refine FX.of' ⟨Ex.enc_closed y, hbox l⟩ trivial fun c R hR => B.eval1 _ _ _ _ _ ?_
        unfold F.expr_Eval_c1
        simp only [nd0, Y1n, Y1o, Y1p, Y1q, Y1w, Y1x, Y1y, Y1z, Y20, Y21, Y28, Y2a, AV.cells?, Nat.reduceAdd, Nat.reduceMul]
        have := Ex.wt_mem hy
        refine wCall.fx (ih y (by omega) (by omega) (Ex.fine_mem hfi.2 hy)) fun n2 => ?_
        simp only [nd0, Y1n, Y1o, Y1p, Y1q, Y1w, Y1x, Y1y, Y1z, Y20, Y21, Y28, Y2a, AV.cells?, Nat.reduceAdd, Nat.reduceMul]
        exact hR _ _ rfl
      · simp only [nd0, Y1n, Y1o, Y1p, Y1q, Y1w, Y1x, Y1y, Y1z, Y20, Y21, Y28, Y2a, AV.cells?, Nat.reduceAdd, Nat.reduceMul]
        exact hR _ _ (by rw [all_any, Ex.says, Ex.allL_eq])
    | or l =>
      simp only [Ex.enc]
      simp only [Ex.wt] at hw hx
      have hll := Ex.len_wtL hfi.2
      simp only [nd0, Y1n, Y1o, Y1p, Y1q, Y1w, Y1x, Y1y, Y1z, Y20, Y21, Y28, Y2a, AV.cells?, Nat.reduceAdd, Nat.reduceMul, asA, show (8 : Nat) = 11 ↔ False by decide, show (8 : Nat) = 14 ↔ False by decide, show (8 : Nat) = 12 ↔ False by decide, show (8 : Nat) = 13 ↔ False by decide, show (8 : Nat) = 10 ↔ False by decide, show (8 : Nat) = 9 ↔ False by decide, show (8 : Nat) = 8 ↔ True by decide]
      refine wCall.fx (conO_spec B (p := fun x => x.says p q) l (by omega) (hbox l) fun y hy => ?_) fun n2 => ?_
      · refine FX.of' ⟨Ex.enc_closed y, hbox l⟩ trivial fun c R hR => B.eval2 _ _ _ _ _ ?_
        unfold F.expr_Eval_c2
        simp only [nd0, Y1n, Y1o, Y1p, Y1q, Y1w, Y1x, Y1y, Y1z, Y20, Y21, Y28, Y2a, AV.cells?, Nat.reduceAdd, Nat.reduceMul]
        have := Ex.wt_mem hy
        refine wCall.fx (ih y (by omega) (by omega) (Ex.fine_mem hfi.2 hy)) fun n2 => ?_
        exact hR _ _ rfl
      · exact hR _ _ (by rw [Ex.says, Ex.anyL_eq])
end
end Go.Sc
namespace Go.Sc
open Go
set_option linter.unusedSimpArgs false
set_option linter.unusedVariables false

/-! ### how deep -/
mutual
def Ex.dep : Ex → Nat
  | .not x => x.dep + 1
  | .and l => Ex.depL l + 1
  | .or l => Ex.depO l + 1
  | _ => 1
def Ex.depL : List Ex → Nat
  | [] => 0
  | x :: l => max x.dep (Ex.depL l)
def Ex.depO : List Ex → Nat
  | [] => 0
  | x :: l => max (if x.isAnd then x.dep - 1 else x.dep) (Ex.depO l)
end
def Ex.dA (x : Ex) : Nat := if x.isAnd then x.dep - 1 else x.dep
def Ex.dO (x : Ex) : Nat := if x.isOr then x.dep - 1 else x.dA
theorem Ex.depL_le {d : Nat} : ∀ {l : List Ex}, Ex.depL l ≤ d ↔ ∀ x ∈ l, x.dep ≤ d
  | [] => by simp [Ex.depL]
  | x :: l => by simp [Ex.depL, Ex.depL_le (l := l), Nat.max_le]
theorem Ex.depO_le {d : Nat} : ∀ {l : List Ex}, Ex.depO l ≤ d ↔ ∀ x ∈ l, x.dA ≤ d
  | [] => by simp [Ex.depO]
  | x :: l => by simp only [Ex.depO, Nat.max_le, Ex.depO_le (l := l), List.mem_cons, forall_eq_or_imp, Ex.dA]
theorem Ex.dA_le (x : Ex) : x.dA ≤ x.dep := by unfold Ex.dA; split <;> omega
theorem Ex.dO_le (x : Ex) : x.dO ≤ x.dA := by
  unfold Ex.dO
  split
  · rename_i h
    have : x.isAnd = false := by cases x <;> simp_all [Ex.isOr, Ex.isAnd]
    simp [Ex.dA, this]
  · exact Nat.le_refl _
theorem Ex.dep_dO (x : Ex) : x.dep ≤ x.dO + 1 := by
  unfold Ex.dO Ex.dA
  split
  · omega
  · split <;> omega
theorem Ex.dA_dO (x : Ex) : x.dA ≤ x.dO + 1 := Nat.le_trans x.dA_le x.dep_dO
def DepR (s : Str) (m : Ex → Nat) (d : Nat) (f : Nat → Rs Ex) : Prop := ∀ i x j, f i = .ok x j → m x ≤ d
theorem rowR_mem {s : Str} {c : UInt8} {f : Nat → Rs Ex} {Q : Ex → Prop} (hf : ∀ i x j, f i = .ok x j → Q x) : ∀ (n i : Nat) (l : List Ex) {l' : List Ex} {j : Nat}, (∀ x ∈ l, Q x) → rowR s c f n i l = .ok l' j → ∀ x ∈ l', Q x
  | 0, i, l, l', j, _, h => by simp [rowR] at h
  | n + 1, i, l, l', j, hl, h => by
    unfold rowR at h
    split at h
    · cases h
    · rename_i x k hx
      have hl2 : ∀ y ∈ l ++ [x], Q y := fun y hy => by
        rcases List.mem_append.1 hy with hy | hy
        · exact hl y hy
        · simp at hy; subst hy; exact hf _ _ _ hx
      split at h
      · exact rowR_mem hf n _ _ hl2 h
      · injection h with h1 h2
        subst h1
        exact hl2
theorem allR_mem {s : Str} {c : UInt8} {mk : List Ex → Ex} {f : Nat → Rs Ex} {Q R : Ex → Prop} (hf : ∀ i x j, f i = .ok x j → Q x) (h1 : ∀ x, Q x → R x) (h2 : ∀ l, (∀ x ∈ l, Q x) → R (mk l)) : ∀ i x j, allR s c mk f i = .ok x j → R x := by
  intro i x j h
  unfold allR at h
  split at h
  · rename_i l k hl
    injection h with h3 h4
    subst h3
    have := rowR_mem hf _ _ _ (by simp) hl
    match l, this with
    | [], this => exact h2 _ this
    | [x], this => exact h1 _ (this x (by simp))
    | x :: y :: r, this => exact h2 _ this
  · cases h
theorem andR_dep {s : Str} {d : Nat} {f : Nat → Rs Ex} (hf : ∀ i x j, f i = .ok x j → x.dep ≤ d) : ∀ i x j, andR s f i = .ok x j → x.dA ≤ d :=
  allR_mem hf (fun x h => Nat.le_trans x.dA_le h) (fun l h => by simpa [Ex.dA, Ex.isAnd, Ex.dep] using Ex.depL_le.2 h)
theorem orR_dep {s : Str} {d : Nat} {f : Nat → Rs Ex} (hf : ∀ i x j, f i = .ok x j → x.dep ≤ d) : ∀ i x j, orR s f i = .ok x j → x.dO ≤ d :=
  allR_mem (andR_dep hf) (fun x h => Nat.le_trans x.dO_le h) (fun l h => by simpa [Ex.dO, Ex.isOr, Ex.dep] using Ex.depO_le.2 h)
theorem oneR_dep (s : Str) : ∀ d i x j, oneR s d i = .ok x j → x.dep ≤ d
  | 0, i, x, j, h => by simp [oneR] at h
  | d + 1, i, x, j, h => by
    have ih := oneR_dep s d
    unfold oneR at h
    split at h
    · obtain ⟨y, hy, rfl⟩ := map_ok h
      have := ih _ _ _ hy
      simp only [Ex.dep]; omega
    split at h
    · cases ho : orR s (oneR s d) (skipTo s i + 1) with
      | no e p => rw [ho] at h; cases h
      | ok y k =>
        rw [ho] at h
        have := orR_dep ih _ _ _ ho
        have := y.dep_dO
        simp only [closeR] at h
        split at h
        · injection h with h1 h2
          subst h1
          omega
        · cases h
    split at h
    · injection h with h1 h2; subst h1; simp [Ex.dep]
    split at h
    · injection h with h1 h2; subst h1; simp [Ex.dep]
    split at h
    · obtain ⟨y, hy, rfl⟩ := map_ok h; simp [Ex.dep]
    split at h
    · obtain ⟨y, hy, rfl⟩ := map_ok h; simp [Ex.dep]
    · obtain ⟨y, hy, rfl⟩ := map_ok h; simp [Ex.dep]
theorem parseR_dep {s : Str} {x : Ex} {j : Nat} (h : parseR s = .ok x j) : x.dO ≤ 20 := by
  unfold parseR at h
  split at h
  · cases h
  · rename_i y k hy
    have := orR_dep (oneR_dep s 20) _ _ _ hy
    split at h
    · cases h
    · injection h with h1 _
      subst h1
      exact this

/-! ### what stands behind -/
def T9 (r : Str) : Prop := r = [] ∨ ∃ c r', r = c :: r' ∧ (c = 32 ∨ c = 41)
def fnb (r : Str) : Option UInt8 := (r.dropWhile (· == 32)).head?
def TA (r : Str) : Prop := T9 r ∧ fnb r ≠ some 38
def TO (r : Str) : Prop := T9 r ∧ fnb r ≠ some 38 ∧ fnb r ≠ some 124
theorem at_app {pre r : Str} {k : Nat} : (pre ++ r)[pre.length + k]? = r[k]? := by rw [List.getElem?_append_right (by omega)]; congr 1; omega
theorem at_app0 {pre r : Str} : (pre ++ r)[pre.length]? = r[0]? := at_app (k := 0)
theorem take_drop {p : UInt8 → Bool} : ∀ r : Str, r[(r.takeWhile p).length]? = (r.dropWhile p).head?
  | [] => rfl
  | c :: r => by
    rw [List.takeWhile_cons, List.dropWhile_cons]
    split
    · simpa using take_drop r
    · simp
theorem skip_app (pre r : Str) : (pre ++ r)[skipTo (pre ++ r) pre.length]? = fnb r := by
  unfold skipTo
  rw [List.drop_left, at_app, take_drop]; rfl
theorem skip_stay {pre r : Str} (h : r[0]? ≠ some 32) : skipTo (pre ++ r) pre.length = pre.length := skipTo_stop (by rw [at_app0]; exact h)

/-! ### names -/
theorem nch_stop {c : UInt8} (h : nch c = true) : c ∉ stop9 := by
  have : ∀ i : Fin 256, nch (UInt8.ofNat i.val) = true → UInt8.ofNat i.val ∉ stop9 := by decide +kernel
  have h2 := this ⟨c.toNat, c.toNat_lt⟩
  simpa using h2 (by simpa using h)
theorem low_not {c : UInt8} (h : low c = true) : c ≠ 32 ∧ c ≠ 33 ∧ c ≠ 40 ∧ c ≠ 48 ∧ c ≠ 49 ∧ c ≠ 94 ∧ c ≠ 126 ∧ nch c = true := by
  refine ⟨?_, ?_, ?_, ?_, ?_, ?_, ?_, by simp [nch, h]⟩ <;> (rintro rfl; revert h; decide)
theorem name_chars {w : Str} (h : nameOk w = true) : ∃ c r, w = c :: r ∧ low c = true ∧ ∀ x ∈ w, nch x = true := by
  cases w with
  | nil => simp [nameOk] at h
  | cons c r =>
    simp only [nameOk, Bool.and_eq_true] at h
    refine ⟨c, r, rfl, h.1.1.1, fun x hx => ?_⟩
    rcases List.mem_cons.1 hx with rfl | hx
    · simp [nch, h.1.1.1]
    · exact List.all_eq_true.1 h.1.1.2 x hx
theorem T9_stop {r : Str} (h : T9 r) : ∀ c, r[0]? = some c → c ∈ stop9 := by
  rintro c hc
  rcases h with rfl | ⟨d, r', rfl, h⟩
  · simp at hc
  · simp at hc; subst hc
    rcases h with rfl | rfl <;> simp [stop9]
theorem wEnd_app {w : Str} (hw : nameOk w = true) (pre r : Str) (hr : T9 r) : ∀ (n k : Nat), k + n = w.length → wEnd (pre ++ w ++ r) pre.length (pre.length + k) = pre.length + w.length
  | 0, k, hk => by
    have hk' : k = w.length := by omega
    subst hk'
    refine wEnd_stop ?_
    unfold wc
    have e : (pre ++ w ++ r)[pre.length + w.length]? = r[0]? := by rw [List.append_assoc, at_app]; exact at_app0
    rw [e]
    cases h0 : r[0]? with
    | none => rfl
    | some c => simp [T9_stop hr c h0]
  | n + 1, k, hk => by
    have hkl : k < w.length := by omega
    have e : (pre ++ w ++ r)[pre.length + k]? = some w[k] := by
      rw [List.append_assoc, at_app, List.getElem?_append_left hkl, List.getElem?_eq_getElem hkl]
    obtain ⟨c0, r0, hc0, hlow, hall⟩ := name_chars hw
    have hwc : wc (pre ++ w ++ r) pre.length (pre.length + k) = true := by
      unfold wc
      rw [e]
      have h9 := nch_stop (hall w[k] (List.getElem_mem hkl))
      simp only [decide_eq_false h9, Bool.not_false, Bool.true_and]
      by_cases h0 : k = 0
      · subst h0
        have : w[0] = c0 := by subst hc0; rfl
        have hl := low_not hlow
        simp [this, hl.2.2.2.1, hl.2.2.2.2.1]
      · simp; left; omega
    rw [wEnd_step hwc]
    exact wEnd_app hw pre r hr n (k + 1) (by omega)
theorem wordR_app {w : Str} (hw : nameOk w = true) (pre r : Str) (hr : T9 r) : wordR (pre ++ w ++ r) pre.length = .ok w (pre.length + w.length) := by
  obtain ⟨c0, r0, hc0, hlow, hall⟩ := name_chars hw
  have hl := low_not hlow
  have hs : skipTo (pre ++ w ++ r) pre.length = pre.length := by
    rw [List.append_assoc]; refine skip_stay ?_
    subst hc0; simpa using hl.1
  have he : wEnd (pre ++ w ++ r) pre.length pre.length = pre.length + w.length := wEnd_app hw pre r hr w.length 0 (by omega)
  have hwd : wordAt (pre ++ w ++ r) pre.length = w := by
    unfold wordAt
    rw [he, List.append_assoc, List.take_append, List.take_of_length_le (by omega)]
    simp
  unfold wordR
  rw [hs, hwd, he, if_neg (by rw [hc0]; simp), if_neg (by rw [hw]; simp)]

/-! ### blanks ahead count for nothing -/
def Blk0 (F : Str → Nat → Rs Ex) : Prop := ∀ s i, s[i]? = some 32 → F s i = F s (i + 1)
theorem oneR_blk (d : Nat) : Blk0 (fun s => oneR s d) := by
  intro s i h
  cases d with
  | zero => simp only [oneR]; rw [skipTo_step h]
  | succ d => simp only [oneR]; rw [skipTo_step h]
theorem wordR_skip (s : Str) (i : Nat) : wordR s (skipTo s i) = wordR s i := by unfold wordR; rw [skipTo_idem]
theorem rowR_blk {c : UInt8} {F : Str → Nat → Rs Ex} (hF : Blk0 F) : ∀ (s : Str) (n i : Nat) (l : List Ex), s[i]? = some 32 → rowR s c (F s) (n + 1) i l = rowR s c (F s) (n + 1) (i + 1) l := by
  intro s n i l h
  simp only [rowR]
  rw [hF s i h]
theorem allR_blk {c : UInt8} {mk : List Ex → Ex} {F : Str → Nat → Rs Ex} (hF : Blk0 F) : Blk0 (fun s => allR s c mk (F s)) := by
  intro s i h
  simp only [allR]
  rw [rowR_blk hF s _ i _ h]
/-- F reads the text t as x, where what is behind is as T says -/
def Reads (F : Str → Nat → Rs Ex) (T : Str → Prop) (t : Str) (x : Ex) : Prop := ∀ pre r, T r → ∃ j, F (pre ++ t ++ r) pre.length = .ok x j ∧ skipTo (pre ++ t ++ r) j = skipTo (pre ++ t ++ r) (pre.length + t.length)
theorem joinS_cons (sep t : Str) (ts : List Str) (h : ts ≠ []) : joinS sep (t :: ts) = t ++ sep ++ joinS sep ts := by
  cases ts with
  | nil => exact absurd rfl h
  | cons a b => rfl
/-- a row of parts is read -/
theorem row_reads {F : Str → Nat → Rs Ex} {T Tp : Str → Prop} {c : UInt8} {u : Ex → Str} (hF : Blk0 F) (hc : c ≠ 32) (hTp : ∀ r, T r → Tp r) (hTs : ∀ r, Tp (32 :: c :: 32 :: r)) (hT : ∀ r, T r → fnb r ≠ some c) :
    ∀ (l : List Ex), l ≠ [] → (∀ x ∈ l, Reads F Tp (u x) x) → ∀ (n : Nat) (acc : List Ex) (pre r : Str), l.length ≤ n → T r →
      rowR (pre ++ joinS [32, c, 32] (l.map u) ++ r) c (F (pre ++ joinS [32, c, 32] (l.map u) ++ r)) n pre.length acc = .ok (acc ++ l) (skipTo (pre ++ joinS [32, c, 32] (l.map u) ++ r) (pre.length + (joinS [32, c, 32] (l.map u)).length))
  | [], h, _, _, _, _, _, _, _ => absurd rfl h
  | [x], _, hx, 0, _, _, _, hn, _ => by simp at hn
  | [x], _, hx, n + 1, acc, pre, r, hn, hr => by
    simp only [List.map_cons, List.map_nil, joinS, rowR]
    obtain ⟨j, hj1, hj2⟩ := hx x (by simp) pre r (hTp r hr)
    rw [hj1]
    simp only
    rw [hj2]
    have : (pre ++ u x ++ r)[skipTo (pre ++ u x ++ r) (pre.length + (u x).length)]? = fnb r := by
      have := skip_app (pre ++ u x) r
      rwa [List.length_append] at this
    rw [this, if_neg (hT r hr)]
  | x :: y :: l, _, hx, 0, _, _, _, hn, _ => by simp at hn
  | x :: y :: l, _, hx, n + 1, acc, pre, r, hn, hr => by
    have hj : joinS [32, c, 32] ((x :: y :: l).map u) = u x ++ [32, c, 32] ++ joinS [32, c, 32] ((y :: l).map u) := rfl
    rw [hj]
    generalize hJ : joinS [32, c, 32] ((y :: l).map u) = J
    have e1 : pre ++ (u x ++ [32, c, 32] ++ J) ++ r = pre ++ u x ++ (32 :: c :: 32 :: (J ++ r)) := by simp
    have e2 : pre ++ (u x ++ [32, c, 32] ++ J) ++ r = (pre ++ u x ++ [32, c, 32]) ++ J ++ r := by simp
    obtain ⟨jj, h0, h00⟩ := hx x (by simp) pre (32 :: c :: 32 :: (J ++ r)) (hTs _)
    rw [← e1] at h0 h00
    simp only [rowR]
    rw [h0]
    simp only
    rw [h00]
    have hsk : skipTo (pre ++ (u x ++ [32, c, 32] ++ J) ++ r) (pre.length + (u x).length) = pre.length + (u x).length + 1 := by
      rw [e1, ← List.length_append]
      rw [skipTo_step (by rw [at_app0]; rfl)]
      refine skipTo_stop ?_
      rw [at_app]; simpa using hc
    have hch : (pre ++ (u x ++ [32, c, 32] ++ J) ++ r)[pre.length + (u x).length + 1]? = some c := by
      rw [e1, ← List.length_append, at_app]; rfl
    rw [hsk, hch, if_pos rfl]
    have hb : (pre ++ (u x ++ [32, c, 32] ++ J) ++ r)[pre.length + (u x).length + 1 + 1]? = some 32 := by
      rw [e1, ← List.length_append, Nat.add_assoc, at_app]; rfl
    obtain ⟨n, rfl⟩ : ∃ k, n = k + 1 := ⟨n - 1, by simp at hn; omega⟩
    rw [rowR_blk hF _ _ _ _ hb]
    have ih := row_reads hF hc hTp hTs hT (y :: l) (by simp) (fun z hz => hx z (by simp at hz ⊢; exact .inr hz)) (n + 1) (acc ++ [x]) (pre ++ u x ++ [32, c, 32]) r (by simpa using hn) hr
    rw [hJ, ← e2] at ih
    have hl1 : (pre ++ u x ++ [32, c, 32]).length = pre.length + (u x).length + 1 + 1 + 1 := by simp; omega
    rw [hl1] at ih
    rw [ih]
    have hl2 : pre.length + (u x ++ [32, c, 32] ++ J).length = pre.length + (u x).length + 1 + 1 + 1 + J.length := by simp; omega
    rw [hl2]
    simp
theorem joinS_count (sep : Str) (hs : sep.length = 3) : ∀ l : List Str, l.length ≤ (joinS sep l).length + 1
  | [] => by simp
  | [x] => by simp
  | x :: y :: l => by
    have := joinS_count sep hs (y :: l)
    simp only [joinS, List.length_append, List.length_cons, hs] at this ⊢
    omega
theorem all_reads {F : Str → Nat → Rs Ex} {T Tp : Str → Prop} {c : UInt8} {mk : List Ex → Ex} {u : Ex → Str} (hF : Blk0 F) (hc : c ≠ 32) (hTp : ∀ r, T r → Tp r) (hTs : ∀ r, Tp (32 :: c :: 32 :: r)) (hT : ∀ r, T r → fnb r ≠ some c)
    (l : List Ex) (hl : l ≠ []) (hx : ∀ x ∈ l, Reads F Tp (u x) x) : Reads (fun s => allR s c mk (F s)) T (joinS [32, c, 32] (l.map u)) (foldR mk l) := by
  intro pre r hr
  have hn : l.length ≤ (pre ++ joinS [32, c, 32] (l.map u) ++ r).length + 1 := by
    have := joinS_count [32, c, 32] rfl (l.map u)
    simp only [List.length_append, List.length_map] at this ⊢
    omega
  have := row_reads hF hc hTp hTs hT l hl hx _ [] pre r hn hr
  refine ⟨_, ?_, skipTo_idem _ _⟩
  simp only [allR]
  rw [this]
  rfl
theorem TA_T9 : ∀ r, TA r → T9 r := fun _ h => h.1
theorem TO_TA : ∀ r, TO r → TA r := fun _ h => ⟨h.1, h.2.1⟩
theorem T9_sp (r : Str) : T9 (32 :: r) := .inr ⟨32, r, rfl, .inl rfl⟩
theorem TA_or (r : Str) : TA (32 :: 124 :: 32 :: r) := ⟨T9_sp _, by simp [fnb]⟩
theorem TO_close (r : Str) : TO (41 :: r) := ⟨.inr ⟨41, r, rfl, .inr rfl⟩, by simp [fnb], by simp [fnb]⟩
theorem andR_blk (d : Nat) : Blk0 (fun s => andR s (oneR s d)) := allR_blk (oneR_blk d)
theorem and_parts {d : Nat} {l : List Ex} (hl : 2 ≤ l.length) (hx : ∀ x ∈ l, Reads (fun s => oneR s d) T9 (x.wr 2) x) : Reads (fun s => andR s (oneR s d)) TA ((Ex.and l).wr 1) (.and l) := by
  have := all_reads (mk := .and) (oneR_blk d) (c := 38) (by decide) TA_T9 (fun r => T9_sp _) (fun r h => h.2) l (by intro e; rw [e] at hl; simp at hl) hx
  have e1 : (Ex.and l).wr 1 = joinS [32, 38, 32] (l.map (Ex.wr 2)) := by simp [Ex.wr, around, Ex.wrL_map]
  have e2 : foldR Ex.and l = .and l := by
    match l, hl with
    | x :: y :: r, _ => rfl
  rw [e2] at this
  rw [e1]
  exact this
theorem or_parts {d : Nat} {l : List Ex} (hl : 2 ≤ l.length) (hx : ∀ x ∈ l, Reads (fun s => andR s (oneR s d)) TA (x.wr 1) x) : Reads (fun s => orR s (oneR s d)) TO ((Ex.or l).wr 0) (.or l) := by
  have := all_reads (mk := .or) (andR_blk d) (c := 124) (by decide) TO_TA (fun r => TA_or _) (fun r h => h.2.2) l (by intro e; rw [e] at hl; simp at hl) hx
  have e1 : (Ex.or l).wr 0 = joinS [32, 124, 32] (l.map (Ex.wr 1)) := by simp [Ex.wr, around, Ex.wrL_map]
  have e2 : foldR Ex.or l = .or l := by
    match l, hl with
    | x :: y :: r, _ => rfl
  rw [e2] at this
  rw [e1]
  exact this
theorem and_one {d : Nat} {x : Ex} (h : Reads (fun s => oneR s d) T9 (x.wr 2) x) (hx : x.isAnd = false) : Reads (fun s => andR s (oneR s d)) TA (x.wr 1) x := by
  have := all_reads (mk := .and) (oneR_blk d) (c := 38) (by decide) TA_T9 (fun r => T9_sp _) (fun r h => h.2) (u := Ex.wr 2) [x] (by simp) (by simpa using h)
  have e1 : x.wr 1 = x.wr 2 := by rw [Ex.wr_one, Ex.wr_two, hx]; rfl
  rw [e1]
  exact this
theorem or_one {d : Nat} {x : Ex} (h : Reads (fun s => andR s (oneR s d)) TA (x.wr 1) x) (hx : x.isOr = false) : Reads (fun s => orR s (oneR s d)) TO (x.wr 0) x := by
  have := all_reads (mk := .or) (andR_blk d) (c := 124) (by decide) TO_TA (fun r => TA_or _) (fun r h => h.2.2) (u := Ex.wr 1) [x] (by simp) (by simpa using h)
  have e1 : x.wr 0 = x.wr 1 := by rw [Ex.wr_one, hx]; rfl
  rw [e1]
  exact this
theorem one_paren {d : Nat} {x : Ex} {t : Str} (h : Reads (fun s => orR s (oneR s d)) TO t x) : Reads (fun s => oneR s (d + 1)) T9 (40 :: t ++ [41]) x := by
  intro pre r hr
  have e1 : pre ++ (40 :: t ++ [41]) ++ r = (pre ++ [40]) ++ t ++ (41 :: r) := by simp
  have e0 : pre ++ (40 :: t ++ [41]) ++ r = pre ++ (40 :: (t ++ 41 :: r)) := by simp
  obtain ⟨j, h1, h2⟩ := h (pre ++ [40]) (41 :: r) (TO_close r)
  simp only at h1
  have hs : skipTo (pre ++ (40 :: t ++ [41]) ++ r) pre.length = pre.length := by rw [e0]; exact skip_stay (by simp)
  have h40 : (pre ++ (40 :: t ++ [41]) ++ r)[pre.length]? = some 40 := by rw [e0, at_app0]; rfl
  have e2 : (pre ++ [40] ++ t ++ (41 :: r)) = (pre ++ [40] ++ t) ++ (41 :: r) := rfl
  have h41 : (pre ++ [40] ++ t ++ (41 :: r))[(pre ++ [40]).length + t.length]? = some 41 := by
    rw [← List.length_append, at_app0]; rfl
  have hs2 : skipTo (pre ++ [40] ++ t ++ (41 :: r)) ((pre ++ [40]).length + t.length) = (pre ++ [40]).length + t.length := skipTo_stop (by rw [h41]; simp)
  rw [hs2] at h2
  refine ⟨(pre ++ [40]).length + t.length + 1, ?_, by simp; congr 1; omega⟩
  simp only [oneR]
  rw [hs, h40]
  simp only [show ((some (40 : UInt8) = some 33) = False) by simp, if_false, if_true]
  rw [e1]
  have hl : pre.length + 1 = (pre ++ [40]).length := by simp
  rw [hl, h1]
  simp only [closeR]
  rw [h2, h41, if_pos rfl]
theorem reads_all : ∀ (n : Nat) (x : Ex), x.wt < n → x.fine →
    (∀ d, x.dep ≤ d → Reads (fun s => oneR s d) T9 (x.wr 2) x) ∧ (∀ d, x.dA ≤ d → Reads (fun s => andR s (oneR s d)) TA (x.wr 1) x) ∧ (∀ d, x.dO ≤ d → Reads (fun s => orR s (oneR s d)) TO (x.wr 0) x) := by
  intro n
  induction n with
  | zero => intro x h; omega
  | succ n ih =>
    intro x hw hf
    have lift : x.isAnd = false → x.isOr = false → (∀ d, x.dep ≤ d → Reads (fun s => oneR s d) T9 (x.wr 2) x) → (∀ d, x.dep ≤ d → Reads (fun s => oneR s d) T9 (x.wr 2) x) ∧ (∀ d, x.dA ≤ d → Reads (fun s => andR s (oneR s d)) TA (x.wr 1) x) ∧ (∀ d, x.dO ≤ d → Reads (fun s => orR s (oneR s d)) TO (x.wr 0) x) := by
      intro h1 h2 h
      have hA : x.dA = x.dep := by simp [Ex.dA, h1]
      have hO : x.dO = x.dep := by simp [Ex.dO, h2, hA]
      rw [hA, hO]
      exact ⟨h, fun d hd => and_one (h d hd) h1, fun d hd => or_one (and_one (h d hd) h1) h2⟩
    cases x with
    | k b =>
      refine lift rfl rfl fun d hd pre r hr => ⟨_, ?_, rfl⟩
      obtain ⟨d, rfl⟩ : ∃ k, d = k + 1 := ⟨d - 1, by simp [Ex.dep] at hd; omega⟩
      have hs : skipTo (pre ++ (Ex.k b).wr 2 ++ r) pre.length = pre.length := by rw [List.append_assoc]; exact skip_stay (by cases b <;> simp [Ex.wr])
      have hc : (pre ++ (Ex.k b).wr 2 ++ r)[pre.length]? = some (if b then 49 else 48) := by rw [List.append_assoc, at_app0]; cases b <;> rfl
      simp only [oneR]
      rw [hs, hc]
      cases b <;> simp [Ex.wr]
    | bit w =>
      refine lift rfl rfl fun d hd pre r hr => ⟨_, ?_, rfl⟩
      obtain ⟨d, rfl⟩ : ∃ k, d = k + 1 := ⟨d - 1, by simp [Ex.dep] at hd; omega⟩
      obtain ⟨c0, r0, hc0, hlow, _⟩ := name_chars hf
      have hl := low_not hlow
      have hc : (pre ++ (Ex.bit w).wr 2 ++ r)[pre.length]? = some c0 := by rw [List.append_assoc, at_app0]; simp [Ex.wr, hc0]
      have hs : skipTo (pre ++ (Ex.bit w).wr 2 ++ r) pre.length = pre.length := skipTo_stop (by rw [hc]; simpa using hl.1)
      simp only [oneR]
      rw [hs, hc]
      simp only [Option.some.injEq, hl.2.1, hl.2.2.1, hl.2.2.2.1, hl.2.2.2.2.1, hl.2.2.2.2.2.1, hl.2.2.2.2.2.2.1, if_false]
      simp only [Ex.wr]
      rw [wordR_app hf pre r hr]
      rfl
    | rise w =>
      refine lift rfl rfl fun d hd pre r hr => ⟨_, ?_, rfl⟩
      obtain ⟨d, rfl⟩ : ∃ k, d = k + 1 := ⟨d - 1, by simp [Ex.dep] at hd; omega⟩
      have hc : (pre ++ (Ex.rise w).wr 2 ++ r)[pre.length]? = some 94 := by rw [List.append_assoc, at_app0]; rfl
      have hs : skipTo (pre ++ (Ex.rise w).wr 2 ++ r) pre.length = pre.length := skipTo_stop (by rw [hc]; simp)
      have e1 : pre ++ (Ex.rise w).wr 2 ++ r = (pre ++ [94]) ++ w ++ r := by simp [Ex.wr]
      simp only [oneR]
      rw [hs, hc]
      simp only [show (some (94 : UInt8) = some 33) = False by simp, show (some (94 : UInt8) = some 40) = False by simp, show (some (94 : UInt8) = some 48) = False by simp, show (some (94 : UInt8) = some 49) = False by simp, if_false, if_true]
      have hl : pre.length + 1 = (pre ++ [94]).length := by simp
      rw [e1, hl, wordR_app hf (pre ++ [94]) r hr]
      simp [Rs.map, Ex.wr]; omega
    | fall w =>
      refine lift rfl rfl fun d hd pre r hr => ⟨_, ?_, rfl⟩
      obtain ⟨d, rfl⟩ : ∃ k, d = k + 1 := ⟨d - 1, by simp [Ex.dep] at hd; omega⟩
      have hc : (pre ++ (Ex.fall w).wr 2 ++ r)[pre.length]? = some 126 := by rw [List.append_assoc, at_app0]; rfl
      have hs : skipTo (pre ++ (Ex.fall w).wr 2 ++ r) pre.length = pre.length := skipTo_stop (by rw [hc]; simp)
      have e1 : pre ++ (Ex.fall w).wr 2 ++ r = (pre ++ [126]) ++ w ++ r := by simp [Ex.wr]
      simp only [oneR]
      rw [hs, hc]
      simp only [show (some (126 : UInt8) = some 33) = False by simp, show (some (126 : UInt8) = some 40) = False by simp, show (some (126 : UInt8) = some 48) = False by simp, show (some (126 : UInt8) = some 49) = False by simp, show (some (126 : UInt8) = some 94) = False by simp, if_false, if_true]
      have hl : pre.length + 1 = (pre ++ [126]).length := by simp
      rw [e1, hl, wordR_app hf (pre ++ [126]) r hr]
      simp [Rs.map, Ex.wr]; omega
    | not y =>
      refine lift rfl rfl fun d hd pre r hr => ?_
      simp only [Ex.dep] at hd
      simp only [Ex.wt] at hw
      obtain ⟨d, rfl⟩ : ∃ k, d = k + 1 := ⟨d - 1, by omega⟩
      have hc : (pre ++ (Ex.not y).wr 2 ++ r)[pre.length]? = some 33 := by rw [List.append_assoc, at_app0]; rfl
      have hs : skipTo (pre ++ (Ex.not y).wr 2 ++ r) pre.length = pre.length := skipTo_stop (by rw [hc]; simp)
      have e1 : pre ++ (Ex.not y).wr 2 ++ r = (pre ++ [33]) ++ y.wr 2 ++ r := by simp [Ex.wr]
      obtain ⟨j, h1, h2⟩ := (ih y (by omega) hf).1 d (by omega) (pre ++ [33]) r hr
      simp only at h1
      refine ⟨j, ?_, ?_⟩
      · simp only [oneR]
        rw [hs, hc]
        simp only [if_true]
        have hl : pre.length + 1 = (pre ++ [33]).length := by simp
        rw [e1, hl, h1]
        rfl
      · rw [e1, h2]
        congr 1
        simp [Ex.wr]; omega
    | and l =>
      simp only [Ex.wt] at hw
      have hA : ∀ d, (Ex.and l).dA ≤ d → Reads (fun s => andR s (oneR s d)) TA ((Ex.and l).wr 1) (.and l) := fun d hd => and_parts hf.1 fun y hy => (ih y (by have := Ex.wt_mem hy; omega) (Ex.fine_mem hf.2 hy)).1 d (by
        have : Ex.depL l ≤ d := by simpa [Ex.dA, Ex.isAnd, Ex.dep] using hd
        exact Ex.depL_le.1 this y hy)
      have hO : ∀ d, (Ex.and l).dO ≤ d → Reads (fun s => orR s (oneR s d)) TO ((Ex.and l).wr 0) (.and l) := fun d hd => or_one (hA d (by simpa [Ex.dO, Ex.isOr] using hd)) rfl
      refine ⟨fun d hd => ?_, hA, hO⟩
      obtain ⟨d, rfl⟩ : ∃ k, d = k + 1 := ⟨d - 1, by simp only [Ex.dep] at hd; omega⟩
      have e : (Ex.and l).wr 2 = 40 :: (Ex.and l).wr 0 ++ [41] := by rw [Ex.wr_two]; rfl
      rw [e]
      exact one_paren (hO d (by simp [Ex.dO, Ex.isOr, Ex.dA, Ex.isAnd, Ex.dep] at hd ⊢; omega))
    | or l =>
      simp only [Ex.wt] at hw
      have hO : ∀ d, (Ex.or l).dO ≤ d → Reads (fun s => orR s (oneR s d)) TO ((Ex.or l).wr 0) (.or l) := fun d hd => or_parts hf.1 fun y hy => (ih y (by have := Ex.wt_mem hy; omega) (Ex.fine_mem hf.2 hy)).2.1 d (by
        have : Ex.depO l ≤ d := by simpa [Ex.dO, Ex.isOr, Ex.dep] using hd
        exact Ex.depO_le.1 this y hy)
      have h1 : ∀ d, (Ex.or l).dep ≤ d → Reads (fun s => oneR s d) T9 ((Ex.or l).wr 2) (.or l) := fun d hd => by
        obtain ⟨d, rfl⟩ : ∃ k, d = k + 1 := ⟨d - 1, by simp only [Ex.dep] at hd; omega⟩
        have e : (Ex.or l).wr 2 = 40 :: (Ex.or l).wr 0 ++ [41] := by rw [Ex.wr_two]; rfl
        rw [e]
        exact one_paren (hO d (by simp [Ex.dO, Ex.isOr, Ex.dep] at hd ⊢; omega))
      exact ⟨h1, fun d hd => and_one (h1 d (by simpa [Ex.dA, Ex.isAnd] using hd)) rfl, hO⟩
/-- what a text tells is the expression again -/
theorem orR_text {x : Ex} (hf : x.fine) {d : Nat} (hd : x.dO ≤ d) : ∃ j, orR (x.wr 0) (oneR (x.wr 0) d) 0 = .ok x j ∧ skipTo (x.wr 0) j = (x.wr 0).length := by
  obtain ⟨j, h1, h2⟩ := (reads_all (x.wt + 1) x (by omega) hf).2.2 d hd [] [] ⟨.inl rfl, by simp [fnb], by simp [fnb]⟩
  simp only [List.nil_append, List.append_nil, List.length_nil, Nat.zero_add] at h1 h2
  refine ⟨j, h1, h2.trans (skipTo_stop (by rw [List.getElem?_eq_none (by omega)]; simp))⟩
theorem parse_text {x : Ex} (hf : x.fine) (hd : x.dO ≤ 20) : parseR (x.wr 0) = .ok x (x.wr 0).length := by
  obtain ⟨j, h1, h2⟩ := orR_text hf hd
  unfold parseR
  rw [h1]
  simp only
  rw [h2, if_neg (by omega)]
theorem wr_inj {x y : Ex} (hx : x.fine) (hy : y.fine) (h : x.wr 0 = y.wr 0) : x = y := by
  obtain ⟨j, h1, _⟩ := orR_text hx (d := x.dO + y.dO) (by omega)
  obtain ⟨k, h2, _⟩ := orR_text hy (d := x.dO + y.dO) (by omega)
  rw [h, h2] at h1
  injection h1 with h1 _
  exact h1.symm
end Go.Sc
