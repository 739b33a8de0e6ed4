/- CONTRACTS: package expr: how a text is read as an expression. CONTRACTS: package signalboxref: how a text is read as an expression. CONTRACTS: package signalboxref: a whole expression. A CONTRACT OUT OF A WALK OF THE KIT's OWN: a call that leaves all old memory as it was, and answers without memory. CONTRACTS: errors taken apart: plain.Place. CONTRACTS: package signalboxref: expressions are read. CONTRACTS: how expressions are written. CONTRACTS: package expr: what an expression says, and how great it is. WHAT AN EXPRESSION's TEXT TELLS IS THAT EXPRESSION AGAIN: plain. CONTRACTS: package expr: how great an expression is; the keep's fact of it. CONTRACTS OUT OF THE KIT's SHELF: strings.Join, strings.IndexByte. CONTRACTS OUT OF THE KIT's SHELF: what writes a row of texts of the caller's: slices.Sort, slices.Compact. (of the seat YtnellomaabbpkaaGreatDoor) -/
import Derived.Test.YtnellomaabbpkaaGreatDoorCore6
import Derived.Lib.Join
import Derived.Lib.Bytealg
import Derived.Sort.Row
import Derived.Sort.EncStr
import Derived.Sort.Grow
import Derived.Lib.SlicesCompact
namespace Go.Sc
open Go
set_option linter.unusedSimpArgs false
set_option linter.unusedVariables false
set_option linter.unnecessarySimpa false
structure ParseBodies (E : Env) (P : Program) : Prop where
  d : ReadBodies E P
  several : Body4 E P 140 F.pexpr_reader_several
  or : Body2 E P 133 F.pexpr_reader_or
  and : Body2 E P 139 F.pexpr_reader_and
  one : Body2 E P 144 F.pexpr_reader_one
  parse : Body1 E P 126 F.expr_Parse
/-- what a reader of expressions answers -/
def PX (s : Str) (r : Rs Ex) (x : AV) (cs : List AV) : Prop := match r with
  | .ok e j => x = .tup [e.enc, nilE] ∧ cs = rd s j
  | .no e p => ∃ z, x = .tup [z, At e p] ∧ z.closed ∧ ∃ j, cs = rd s j
theorem PX.closed {s : Str} {r : Rs Ex} {x : AV} {cs : List AV} (h : PX s r x cs) : x.closed ∧ AV.closedL cs := by
  unfold PX at h
  split at h
  · obtain ⟨rfl, rfl⟩ := h; exact ⟨⟨Ex.enc_closed _, trivial, trivial⟩, rd_closed _ _⟩
  · obtain ⟨z, rfl, hz, j, rfl⟩ := h; exact ⟨⟨hz, At_closed _ _, trivial⟩, rd_closed _ _⟩
def PL (s : Str) (r : Rs (List Ex)) (x : AV) (cs : List AV) : Prop := match r with
  | .ok l j => x = .tup [.slN (Ex.encL l) l.length, nilE] ∧ cs = rd s j
  | .no e p => x = .tup [nilS, At e p] ∧ ∃ j, cs = rd s j
theorem PL.closed {s : Str} {r : Rs (List Ex)} {x : AV} {cs : List AV} (h : PL s r x cs) : x.closed ∧ AV.closedL cs := by
  unfold PL at h
  split at h
  · obtain ⟨rfl, rfl⟩ := h; exact ⟨⟨Ex.encL_closed _, trivial, trivial⟩, rd_closed _ _⟩
  · obtain ⟨rfl, j, rfl⟩ := h; exact ⟨⟨trivial, At_closed _ _, trivial⟩, rd_closed _ _⟩
theorem fill1 {z x : AV} (h : x.scalar = true) : fillA (List.replicate 1 [z]).flatten [(0, 1, x)] = some [x] := by
  show fillA [z] _ = _
  rw [fillA_one h (by simp)]; rfl
theorem eqA_At {e p : Int} : eqA .iface (At e p) nilE = some false := rfl
theorem Ex.encL_len (l : List Ex) : (Ex.encL l).length = l.length := by rw [Ex.encL_map, List.length_map]
theorem Ex.encL_snoc (l : List Ex) (x : Ex) : Ex.encL (l ++ [x]) = Ex.encL l ++ [x.enc] := by simp [Ex.encL_map]
section
variable {E : Env} {P : Program}
theorem several_spec (B : ParseBodies E P) (s : Str) (hs : s.length < 1000000) (c : UInt8) (f : Nat → Rs Ex) (hgood : GoodR s f) (kf : Nat) (d : Nat) (hf : ∀ i, i ≤ s.length → PC E P kf 2 (rd s i) (fun b g => [.ptrL b 0 g, Z d]) (PX s (f i))) (i : Nat) (hi : i ≤ s.length) :
    PC E P 140 2 (rd s i) (fun b g => [.ptrL b 0 g, By c, Z d, .fn kf [.ptrL b 0 g] []]) (PL s (rowR s c f (s.length + 1) i [])) := by
  refine PC.of (fun _ _ => rfl) (rd_closed s i) (fun _ _ h => h.closed) fun n g R hR => B.several _ _ _ _ _ _ ?_
  unfold F.pexpr_reader_several
  refine wLoop.one (fun m t H => ∃ i' l n z c', m = s.length - i' ∧ i' ≤ s.length ∧ l.length ≤ i' ∧ s.length < n + i' ∧ rowR s c f (s.length + 1) i [] = rowR s c f n i' l ∧ Gr 1 z 1 t (Ex.encL l) l.length ∧ H = ⟨[.cells g 2 (rd s i'), z], c'⟩) (s.length - i)
    (gh1.of (ghost_room [.dead] (by simp)) ⟨i, [], s.length + 1, .dead, n, rfl, hi, by simp, by omega, rfl, .nil, rfl⟩) ?_
  rintro m t H ⟨i', l, n', z, c', rfl, hi', hl, hn, hrow, hg, rfl⟩
  obtain ⟨n', rfl⟩ : ∃ k, n' = k + 1 := ⟨n' - 1, by omega⟩
  refine wCallV.pc (b := 0) (hf i' hi') rfl rfl ?_
  intro r cs n2 hr
  rw [hrow] at hR
  simp only [rowR] at hR
  cases hx : f i' with
  | no e p =>
    rw [hx] at hr hR
    obtain ⟨zz, rfl, hz, j, rfl⟩ := hr
    simp only [nd0, Y1n, Y1o, Y1p, Y1q, Y1w, Y1x, Y1y, Y1z, Y20, Y21, Y28, Y2a, AV.cells?, Nat.reduceAdd, Nat.reduceMul, eqA_At]
    exact hR _ _ (rd s j) [z] n2 (.same _) ⟨rfl, j, rfl⟩
  | ok x j =>
    rw [hx] at hr hR
    obtain ⟨rfl, rfl⟩ := hr
    obtain ⟨a1, a2, a3, a4⟩ := hgood i' x j hi' hx
    have b1 := skipTo_le s j
    have b2 := skipTo_len a2
    simp only [nd0, Y1n, Y1o, Y1p, Y1q, Y1w, Y1x, Y1y, Y1z, Y20, Y21, Y28, Y2a, AV.cells?, Nat.reduceAdd, Nat.reduceMul]
    refine wNewS.F' (l := [x.enc]) (fill1 (Ex.enc_scalar x)) rfl ?_
    refine wApp.one hg rfl (Ex.encL_len l) (.refl _) (Ex.enc_scalar x) (by simp [mostBytes]; omega) ?_
    intro z' x' c2 hg'
    simp only [nd0, Y1n, Y1o, Y1p, Y1q, Y1w, Y1x, Y1y, Y1z, Y20, Y21, Y28, Y2a, AV.cells?, Nat.reduceAdd, Nat.reduceMul]
    refine wCall.pc (b := 0) (take_spec B.d s j c a2 hs) rfl rfl ?_
    rintro r cs n3 ⟨rfl, rfl⟩
    by_cases hc : s[skipTo s j]? = some c
    · have hlt := lt_of_get hc
      simp only [hc, if_true] at hR ⊢
      simp only [nd0, Y1n, Y1o, Y1p, Y1q, Y1w, Y1x, Y1y, Y1z, Y20, Y21, Y28, Y2a, AV.cells?, Nat.reduceAdd, Nat.reduceMul]
      refine back1.mk (s.length - (skipTo s j + 1)) (by omega) ⟨skipTo s j + 1, l ++ [x], n', z', n3, rfl, by omega, by simp; omega, by omega, ?_, ?_, rfl⟩
      · rw [hrow, rowR, hx]; simp only [hc, if_true]
      · rw [Ex.encL_snoc, List.length_append]; exact hg'
    · simp only [if_neg hc] at hR ⊢
      simp only [nd0, Y1n, Y1o, Y1p, Y1q, Y1w, Y1x, Y1y, Y1z, Y20, Y21, Y28, Y2a, AV.cells?, Nat.reduceAdd, Nat.reduceMul, decide_eq_false hc]
      have hg2 : Gr 1 z' 1 x' (Ex.encL (l ++ [x])) (l ++ [x]).length := by rw [Ex.encL_snoc, List.length_append]; exact hg'
      exact hR _ _ (rd s (skipTo s j)) [z'] n3 (.tup (.cons (.sub hg2.sub) (FkL.same _))) ⟨rfl, rfl⟩
theorem and_spec (B : ParseBodies E P) (s : Str) (hs : s.length < 1000000) (f : Nat → Rs Ex) (hgood : GoodR s f) (d : Nat) (hf : ∀ i, i ≤ s.length → PC E P 144 2 (rd s i) (fun b g => [.ptrL b 0 g, Z d]) (PX s (f i))) (i : Nat) (hi : i ≤ s.length) :
    PC E P 139 2 (rd s i) (fun b g => [.ptrL b 0 g, Z d]) (PX s (andR s f i)) := by
  refine PC.of (fun _ _ => rfl) (rd_closed s i) (fun _ _ h => h.closed) fun n g R hR => B.and _ _ _ _ ?_
  unfold F.pexpr_reader_and
  refine wCall.pc (b := 0) (several_spec B s hs 38 f hgood 144 d hf i hi) rfl rfl ?_
  intro r cs n2 hr
  unfold andR allR at hR
  cases hx : rowR s 38 f (s.length + 1) i [] with
  | no e p =>
    rw [hx] at hr hR
    obtain ⟨rfl, j, rfl⟩ := hr
    simp only [nd0, Y1n, Y1o, Y1p, Y1q, Y1w, Y1x, Y1y, Y1z, Y20, Y21, Y28, Y2a, AV.cells?, Nat.reduceAdd, Nat.reduceMul, eqA_At]
    exact hR _ _ (rd s j) [] n2 (.same _) ⟨_, rfl, trivial, j, rfl⟩
  | ok l j =>
    rw [hx] at hr hR
    obtain ⟨rfl, rfl⟩ := hr
    simp only [nd0, Y1n, Y1o, Y1p, Y1q, Y1w, Y1x, Y1y, Y1z, Y20, Y21, Y28, Y2a, AV.cells?, Nat.reduceAdd, Nat.reduceMul]
    by_cases hl : l.length = 1
    · obtain ⟨x, rfl⟩ := List.length_eq_one_iff.1 hl
      simp only [nd0, Y1n, Y1o, Y1p, Y1q, Y1w, Y1x, Y1y, Y1z, Y20, Y21, Y28, Y2a, AV.cells?, Nat.reduceAdd, Nat.reduceMul, show (((1 : Nat)) : Int) = 1 from rfl]
      rw [show ((0 : Int)) = ((0 : Nat) : Int) from rfl, iaddr_Nn (by simp)]
      simp only [nd0, Y1n, Y1o, Y1p, Y1q, Y1w, Y1x, Y1y, Y1z, Y20, Y21, Y28, Y2a, AV.cells?, Nat.reduceAdd, Nat.reduceMul, Ex.encL]
      exact hR _ _ (rd s j) [] n2 (.same _) ⟨rfl, rfl⟩
    · simp only [nd0, Y1n, Y1o, Y1p, Y1q, Y1w, Y1x, Y1y, Y1z, Y20, Y21, Y28, Y2a, AV.cells?, Nat.reduceAdd, Nat.reduceMul, decide_eq_false (show ¬ (l.length : Int) = 1 by omega)]
      refine hR _ _ (rd s j) [] n2 (.same _) ⟨?_, rfl⟩
      have : foldR .and l = .and l := by
        match l with
        | [] => rfl
        | [x] => simp at hl
        | x :: y :: r => rfl
      rw [this]; rfl
theorem or_spec (B : ParseBodies E P) (s : Str) (hs : s.length < 1000000) (f : Nat → Rs Ex) (hgood : GoodR s f) (d : Nat) (hf : ∀ i, i ≤ s.length → PC E P 144 2 (rd s i) (fun b g => [.ptrL b 0 g, Z d]) (PX s (f i))) (i : Nat) (hi : i ≤ s.length) :
    PC E P 133 2 (rd s i) (fun b g => [.ptrL b 0 g, Z d]) (PX s (orR s f i)) := by
  refine PC.of (fun _ _ => rfl) (rd_closed s i) (fun _ _ h => h.closed) fun n g R hR => B.or _ _ _ _ ?_
  unfold F.pexpr_reader_or
  refine wCall.pc (b := 0) (several_spec B s hs 124 (andR s f) (andR_good hgood) 139 d (and_spec B s hs f hgood d hf) i hi) rfl rfl ?_
  intro r cs n2 hr
  unfold orR allR at hR
  cases hx : rowR s 124 (andR s f) (s.length + 1) i [] with
  | no e p =>
    rw [hx] at hr hR
    obtain ⟨rfl, j, rfl⟩ := hr
    simp only [nd0, Y1n, Y1o, Y1p, Y1q, Y1w, Y1x, Y1y, Y1z, Y20, Y21, Y28, Y2a, AV.cells?, Nat.reduceAdd, Nat.reduceMul, eqA_At]
    exact hR _ _ (rd s j) [] n2 (.same _) ⟨_, rfl, trivial, j, rfl⟩
  | ok l j =>
    rw [hx] at hr hR
    obtain ⟨rfl, rfl⟩ := hr
    simp only [nd0, Y1n, Y1o, Y1p, Y1q, Y1w, Y1x, Y1y, Y1z, Y20, Y21, Y28, Y2a, AV.cells?, Nat.reduceAdd, Nat.reduceMul]
    by_cases hl : l.length = 1
    · obtain ⟨x, rfl⟩ := List.length_eq_one_iff.1 hl
      simp only [nd0, Y1n, Y1o, Y1p, Y1q, Y1w, Y1x, Y1y, Y1z, Y20, Y21, Y28, Y2a, AV.cells?, Nat.reduceAdd, Nat.reduceMul, show (((1 : Nat)) : Int) = 1 from rfl]
      rw [show ((0 : Int)) = ((0 : Nat) : Int) from rfl, iaddr_Nn (by simp)]
      simp only [nd0, Y1n, Y1o, Y1p, Y1q, Y1w, Y1x, Y1y, Y1z, Y20, Y21, Y28, Y2a, AV.cells?, Nat.reduceAdd, Nat.reduceMul, Ex.encL]
      exact hR _ _ (rd s j) [] n2 (.same _) ⟨rfl, rfl⟩
    · simp only [nd0, Y1n, Y1o, Y1p, Y1q, Y1w, Y1x, Y1y, Y1z, Y20, Y21, Y28, Y2a, AV.cells?, Nat.reduceAdd, Nat.reduceMul, decide_eq_false (show ¬ (l.length : Int) = 1 by omega)]
      refine hR _ _ (rd s j) [] n2 (.same _) ⟨?_, rfl⟩
      have : foldR .or l = .or l := by
        match l with
        | [] => rfl
        | [x] => simp at hl
        | x :: y :: r => rfl
      rw [this]; rfl
set_option maxHeartbeats 1000000 in
theorem one_spec (B : ParseBodies E P) (s : Str) (hs : s.length < 1000000) : ∀ (d : Nat), d < 1000 → ∀ i, i ≤ s.length → PC E P 144 2 (rd s i) (fun b g => [.ptrL b 0 g, Z d]) (PX s (oneR s d i)) := by
  intro d
  induction d with
  | zero =>
    intro _ i hi
    refine PC.of (fun _ _ => rfl) (rd_closed s i) (fun _ _ h => h.closed) fun n g R hR => B.one _ _ _ _ ?_
    unfold F.pexpr_reader_one
    simp only [nd0, Y1n, Y1o, Y1p, Y1q, Y1w, Y1x, Y1y, Y1z, Y20, Y21, Y28, Y2a, AV.cells?, Nat.reduceAdd, Nat.reduceMul, show ((0 : Nat) : Int) = 0 from rfl]
    refine wCall.pc (b := 0) (fail_spec B.d s i 4 hi hs) rfl rfl ?_
    rintro r cs n2 ⟨rfl, rfl⟩
    exact hR _ _ _ [] n2 (.same _) ⟨_, rfl, trivial, _, rfl⟩
  | succ d ih =>
    intro hd i hi
    refine PC.of (fun _ _ => rfl) (rd_closed s i) (fun _ _ h => h.closed) fun n g R hR => B.one _ _ _ _ ?_
    have hgood := oneR_good s d
    have ih := ih (by omega)
    unfold F.pexpr_reader_one
    have hk := skipTo_len hi
    have hid := skipTo_idem s i
    have hsub : binA .sub (Z ((d + 1 : Nat) : Int)) (Z 1) = some (Z d) := by
      rw [binA_sub (by omega)]; congr 3; omega
    simp only [nd0, Y1n, Y1o, Y1p, Y1q, Y1w, Y1x, Y1y, Y1z, Y20, Y21, Y28, Y2a, AV.cells?, Nat.reduceAdd, Nat.reduceMul, decide_eq_false (show ¬ ((d + 1 : Nat) : Int) = 0 by omega)]
    refine wCall.pc (b := 0) (take_spec B.d s i 33 hi hs) rfl rfl ?_
    rintro r cs n1 ⟨rfl, rfl⟩
    unfold oneR at hR
    generalize skipTo s i = k at hk hid hR
    by_cases h33 : s[k]? = some 33
    · rw [if_pos h33] at hR
      have hlt := lt_of_get h33
      simp only [nd0, Y1n, Y1o, Y1p, Y1q, Y1w, Y1x, Y1y, Y1z, Y20, Y21, Y28, Y2a, AV.cells?, Nat.reduceAdd, Nat.reduceMul, decide_eq_true h33, if_pos h33, hsub]
      refine wCall.pc (b := 0) (ih (k + 1) (by omega)) rfl rfl ?_
      intro r cs n2 hr
      cases hx : oneR s d (k + 1) with
      | no e p =>
        rw [hx] at hr hR
        obtain ⟨zz, rfl, hz, j, rfl⟩ := hr
        simp only [nd0, Y1n, Y1o, Y1p, Y1q, Y1w, Y1x, Y1y, Y1z, Y20, Y21, Y28, Y2a, AV.cells?, Nat.reduceAdd, Nat.reduceMul, eqA_At]
        exact hR _ _ (rd s j) [] n2 (.same _) ⟨_, rfl, trivial, j, rfl⟩
      | ok x j =>
        rw [hx] at hr hR
        obtain ⟨rfl, rfl⟩ := hr
        simp only [nd0, Y1n, Y1o, Y1p, Y1q, Y1w, Y1x, Y1y, Y1z, Y20, Y21, Y28, Y2a, AV.cells?, Nat.reduceAdd, Nat.reduceMul, show fillA [nilE] [(0, 1, x.enc)] = some [x.enc] from by rw [fillA_one (Ex.enc_scalar x) (by simp)]; rfl]
        exact hR _ _ (rd s j) [] n2 (.same _) ⟨rfl, rfl⟩
    rw [if_neg h33] at hR
    simp only [nd0, Y1n, Y1o, Y1p, Y1q, Y1w, Y1x, Y1y, Y1z, Y20, Y21, Y28, Y2a, AV.cells?, Nat.reduceAdd, Nat.reduceMul, decide_eq_false h33, if_neg h33]
    refine wCall.pc (b := 0) (take_spec B.d s k 40 hk hs) rfl rfl ?_
    rintro r cs n1 ⟨rfl, rfl⟩
    rw [hid]
    by_cases h40 : s[k]? = some 40
    · rw [if_pos h40] at hR
      have hlt := lt_of_get h40
      simp only [nd0, Y1n, Y1o, Y1p, Y1q, Y1w, Y1x, Y1y, Y1z, Y20, Y21, Y28, Y2a, AV.cells?, Nat.reduceAdd, Nat.reduceMul, decide_eq_true h40, if_pos h40, hsub]
      refine wCall.pc (b := 0) (or_spec B s hs (oneR s d) hgood d ih (k + 1) (by omega)) rfl rfl ?_
      intro r cs n2 hr
      cases hx : orR s (oneR s d) (k + 1) with
      | no e p =>
        rw [hx] at hr hR
        obtain ⟨zz, rfl, hz, j, rfl⟩ := hr
        simp only [nd0, Y1n, Y1o, Y1p, Y1q, Y1w, Y1x, Y1y, Y1z, Y20, Y21, Y28, Y2a, AV.cells?, Nat.reduceAdd, Nat.reduceMul, eqA_At]
        exact hR _ _ (rd s j) [] n2 (.same _) ⟨_, rfl, trivial, j, rfl⟩
      | ok x j =>
        rw [hx] at hr hR
        obtain ⟨rfl, rfl⟩ := hr
        obtain ⟨a1, a2, a3, a4⟩ := orR_good hgood _ x j (by omega) hx
        simp only [nd0, Y1n, Y1o, Y1p, Y1q, Y1w, Y1x, Y1y, Y1z, Y20, Y21, Y28, Y2a, AV.cells?, Nat.reduceAdd, Nat.reduceMul]
        refine wCall.pc (b := 0) (take_spec B.d s j 41 a2 hs) rfl rfl ?_
        rintro r cs n3 ⟨rfl, rfl⟩
        simp only [closeR] at hR
        have b2 := skipTo_len a2
        by_cases h41 : s[skipTo s j]? = some 41
        · rw [if_pos h41] at hR
          simp only [nd0, Y1n, Y1o, Y1p, Y1q, Y1w, Y1x, Y1y, Y1z, Y20, Y21, Y28, Y2a, AV.cells?, Nat.reduceAdd, Nat.reduceMul, decide_eq_true h41, if_pos h41]
          exact hR _ _ (rd s (skipTo s j + 1)) [] n3 (.same _) ⟨rfl, rfl⟩
        · rw [if_neg h41] at hR
          simp only [nd0, Y1n, Y1o, Y1p, Y1q, Y1w, Y1x, Y1y, Y1z, Y20, Y21, Y28, Y2a, AV.cells?, Nat.reduceAdd, Nat.reduceMul, decide_eq_false h41, if_neg h41]
          refine wCall.pc (b := 0) (fail_spec B.d s (skipTo s j) 3 b2 hs) rfl rfl ?_
          rintro r cs n4 ⟨rfl, rfl⟩
          exact hR _ _ _ [] n4 (.same _) ⟨nilE, by rw [skipTo_idem], trivial, _, rfl⟩
    rw [if_neg h40] at hR
    simp only [nd0, Y1n, Y1o, Y1p, Y1q, Y1w, Y1x, Y1y, Y1z, Y20, Y21, Y28, Y2a, AV.cells?, Nat.reduceAdd, Nat.reduceMul, decide_eq_false h40, if_neg h40]
    refine wCall.pc (b := 0) (take_spec B.d s k 48 hk hs) rfl rfl ?_
    rintro r cs n1 ⟨rfl, rfl⟩
    rw [hid]
    by_cases h48 : s[k]? = some 48
    · rw [if_pos h48] at hR
      simp only [nd0, Y1n, Y1o, Y1p, Y1q, Y1w, Y1x, Y1y, Y1z, Y20, Y21, Y28, Y2a, AV.cells?, Nat.reduceAdd, Nat.reduceMul, decide_eq_true h48, if_pos h48]
      exact hR _ _ (rd s (k + 1)) [] n1 (.same _) ⟨rfl, rfl⟩
    rw [if_neg h48] at hR
    simp only [nd0, Y1n, Y1o, Y1p, Y1q, Y1w, Y1x, Y1y, Y1z, Y20, Y21, Y28, Y2a, AV.cells?, Nat.reduceAdd, Nat.reduceMul, decide_eq_false h48, if_neg h48]
    refine wCall.pc (b := 0) (take_spec B.d s k 49 hk hs) rfl rfl ?_
    rintro r cs n1 ⟨rfl, rfl⟩
    rw [hid]
    by_cases h49 : s[k]? = some 49
    · rw [if_pos h49] at hR
      simp only [nd0, Y1n, Y1o, Y1p, Y1q, Y1w, Y1x, Y1y, Y1z, Y20, Y21, Y28, Y2a, AV.cells?, Nat.reduceAdd, Nat.reduceMul, decide_eq_true h49, if_pos h49]
      exact hR _ _ (rd s (k + 1)) [] n1 (.same _) ⟨rfl, rfl⟩
    rw [if_neg h49] at hR
    simp only [nd0, Y1n, Y1o, Y1p, Y1q, Y1w, Y1x, Y1y, Y1z, Y20, Y21, Y28, Y2a, AV.cells?, Nat.reduceAdd, Nat.reduceMul, decide_eq_false h49, if_neg h49]
    refine wCall.pc (b := 0) (take_spec B.d s k 94 hk hs) rfl rfl ?_
    rintro r cs n1 ⟨rfl, rfl⟩
    rw [hid]
    by_cases h94 : s[k]? = some 94
    · rw [if_pos h94] at hR
      have hlt := lt_of_get h94
      simp only [nd0, Y1n, Y1o, Y1p, Y1q, Y1w, Y1x, Y1y, Y1z, Y20, Y21, Y28, Y2a, AV.cells?, Nat.reduceAdd, Nat.reduceMul, decide_eq_true h94, if_pos h94]
      refine wCall.pc (b := 0) (word_spec B.d s (k + 1) (by omega) hs) rfl rfl ?_
      intro r cs n2 hr
      cases hx : wordR s (k + 1) with
      | no e p =>
        rw [hx] at hr hR
        obtain ⟨rfl, j, rfl⟩ := hr
        simp only [nd0, Y1n, Y1o, Y1p, Y1q, Y1w, Y1x, Y1y, Y1z, Y20, Y21, Y28, Y2a, AV.cells?, Nat.reduceAdd, Nat.reduceMul]
        exact hR _ _ (rd s j) [] n2 (.same _) ⟨_, rfl, trivial, j, rfl⟩
      | ok x j =>
        rw [hx] at hr hR
        obtain ⟨rfl, rfl⟩ := hr
        simp only [nd0, Y1n, Y1o, Y1p, Y1q, Y1w, Y1x, Y1y, Y1z, Y20, Y21, Y28, Y2a, AV.cells?, Nat.reduceAdd, Nat.reduceMul]
        exact hR _ _ (rd s j) [] n2 (.same _) ⟨rfl, rfl⟩
    rw [if_neg h94] at hR
    simp only [nd0, Y1n, Y1o, Y1p, Y1q, Y1w, Y1x, Y1y, Y1z, Y20, Y21, Y28, Y2a, AV.cells?, Nat.reduceAdd, Nat.reduceMul, decide_eq_false h94, if_neg h94]
    refine wCall.pc (b := 0) (take_spec B.d s k 126 hk hs) rfl rfl ?_
    rintro r cs n1 ⟨rfl, rfl⟩
    rw [hid]
    by_cases h126 : s[k]? = some 126
    · rw [if_pos h126] at hR
      have hlt := lt_of_get h126
      simp only [nd0, Y1n, Y1o, Y1p, Y1q, Y1w, Y1x, Y1y, Y1z, Y20, Y21, Y28, Y2a, AV.cells?, Nat.reduceAdd, Nat.reduceMul, decide_eq_true h126, if_pos h126]
      refine wCall.pc (b := 0) (word_spec B.d s (k + 1) (by omega) hs) rfl rfl ?_
      intro r cs n2 hr
      cases hx : wordR s (k + 1) with
      | no e p =>
        rw [hx] at hr hR
        obtain ⟨rfl, j, rfl⟩ := hr
        simp only [nd0, Y1n, Y1o, Y1p, Y1q, Y1w, Y1x, Y1y, Y1z, Y20, Y21, Y28, Y2a, AV.cells?, Nat.reduceAdd, Nat.reduceMul]
        exact hR _ _ (rd s j) [] n2 (.same _) ⟨_, rfl, trivial, j, rfl⟩
      | ok x j =>
        rw [hx] at hr hR
        obtain ⟨rfl, rfl⟩ := hr
        simp only [nd0, Y1n, Y1o, Y1p, Y1q, Y1w, Y1x, Y1y, Y1z, Y20, Y21, Y28, Y2a, AV.cells?, Nat.reduceAdd, Nat.reduceMul]
        exact hR _ _ (rd s j) [] n2 (.same _) ⟨rfl, rfl⟩
    rw [if_neg h126] at hR
    simp only [nd0, Y1n, Y1o, Y1p, Y1q, Y1w, Y1x, Y1y, Y1z, Y20, Y21, Y28, Y2a, AV.cells?, Nat.reduceAdd, Nat.reduceMul, decide_eq_false h126, if_neg h126]
    refine wCall.pc (b := 0) (word_spec B.d s k hk hs) rfl rfl ?_
    intro r cs n2 hr
    cases hx : wordR s k with
    | no e p =>
      rw [hx] at hr hR
      obtain ⟨rfl, j, rfl⟩ := hr
      simp only [nd0, Y1n, Y1o, Y1p, Y1q, Y1w, Y1x, Y1y, Y1z, Y20, Y21, Y28, Y2a, AV.cells?, Nat.reduceAdd, Nat.reduceMul]
      exact hR _ _ (rd s j) [] n2 (.same _) ⟨_, rfl, trivial, j, rfl⟩
    | ok x j =>
      rw [hx] at hr hR
      obtain ⟨rfl, rfl⟩ := hr
      simp only [nd0, Y1n, Y1o, Y1p, Y1q, Y1w, Y1x, Y1y, Y1z, Y20, Y21, Y28, Y2a, AV.cells?, Nat.reduceAdd, Nat.reduceMul]
      exact hR _ _ (rd s j) [] n2 (.same _) ⟨rfl, rfl⟩
/-- what Parse answers -/
def parseA (s : Str) : AV := if 2000 < s.length then .tup [nilE, Er 4] else match parseR s with
  | .ok x _ => .tup [x.enc, nilE]
  | .no e p => .tup [nilE, At e p]
theorem parseA_closed (s : Str) : (parseA s).closed := by
  unfold parseA
  split
  · exact ⟨trivial, Er_closed _, trivial⟩
  split
  · exact ⟨Ex.enc_closed _, trivial, trivial⟩
  · exact ⟨trivial, At_closed _ _, trivial⟩
theorem Parse_spec (B : ParseBodies E P) (s : Str) : FX E P 126 [S s] (parseA s) := by
  refine FX.of' ⟨trivial, trivial⟩ (parseA_closed s) fun n R hR => B.parse _ _ _ ?_
  unfold F.expr_Parse
  unfold parseA at hR
  simp only [nd0, Y1n, Y1o, Y1p, Y1q, Y1w, Y1x, Y1y, Y1z, Y20, Y21, Y28, Y2a, AV.cells?, Nat.reduceAdd, Nat.reduceMul]
  by_cases hl : 2000 < s.length
  · rw [if_pos hl] at hR
    simp only [nd0, Y1n, Y1o, Y1p, Y1q, Y1w, Y1x, Y1y, Y1z, Y20, Y21, Y28, Y2a, AV.cells?, Nat.reduceAdd, Nat.reduceMul, decide_eq_true (show (2000 : Int) < (s.length : Int) by omega)]
    exact hR _ _ rfl
  rw [if_neg hl] at hR
  simp only [nd0, Y1n, Y1o, Y1p, Y1q, Y1w, Y1x, Y1y, Y1z, Y20, Y21, Y28, Y2a, AV.cells?, Nat.reduceAdd, Nat.reduceMul, decide_eq_false (show ¬ (2000 : Int) < (s.length : Int) by omega), show fillA [S [], Z 0] [(0, 1, S s)] = some (rd s 0) from rfl, show (AV.val (.string ⟨#[]⟩)) = S [] from rfl]
  refine wNew.L (l := rd s 0) rfl ?_
  have hs : s.length < 1000000 := by omega
  refine wCall.pc (b := 0) (or_spec B s hs (oneR s 20) (oneR_good s 20) 20 (one_spec B s hs 20 (by omega)) 0 (by omega)) rfl rfl ?_
  intro r cs n2 hr
  unfold parseR at hR
  cases hx : orR s (oneR s 20) 0 with
  | no e p =>
    rw [hx] at hr hR
    obtain ⟨zz, rfl, hz, j, rfl⟩ := hr
    simp only [nd0, Y1n, Y1o, Y1p, Y1q, Y1w, Y1x, Y1y, Y1z, Y20, Y21, Y28, Y2a, AV.cells?, Nat.reduceAdd, Nat.reduceMul, eqA_At]
    exact hR _ _ rfl
  | ok x j =>
    rw [hx] at hr hR
    obtain ⟨rfl, rfl⟩ := hr
    obtain ⟨a1, a2, a3, a4⟩ := orR_good (oneR_good s 20) 0 x j (by omega) hx
    simp only [nd0, Y1n, Y1o, Y1p, Y1q, Y1w, Y1x, Y1y, Y1z, Y20, Y21, Y28, Y2a, AV.cells?, Nat.reduceAdd, Nat.reduceMul]
    refine wCall.pc (b := 0) (blanks_spec B.d s j a2 hs) rfl rfl ?_
    rintro r cs n3 ⟨rfl, rfl⟩
    have b2 := skipTo_len a2
    simp only [nd0, Y1n, Y1o, Y1p, Y1q, Y1w, Y1x, Y1y, Y1z, Y20, Y21, Y28, Y2a, AV.cells?, Nat.reduceAdd, Nat.reduceMul, rd]
    by_cases hlt : skipTo s j < s.length
    · simp only [if_pos hlt] at hR
      simp only [nd0, Y1n, Y1o, Y1p, Y1q, Y1w, Y1x, Y1y, Y1z, Y20, Y21, Y28, Y2a, AV.cells?, Nat.reduceAdd, Nat.reduceMul, decide_eq_true (show ((skipTo s j : Nat) : Int) < (s.length : Int) by omega)]
      refine wCall.pc (b := 0) (fail_spec B.d s (skipTo s j) 3 b2 hs) rfl rfl ?_
      rintro r cs n4 ⟨rfl, rfl⟩
      exact hR _ _ (by rw [skipTo_idem])
    · simp only [if_neg hlt] at hR
      simp only [nd0, Y1n, Y1o, Y1p, Y1q, Y1w, Y1x, Y1y, Y1z, Y20, Y21, Y28, Y2a, AV.cells?, Nat.reduceAdd, Nat.reduceMul, decide_eq_false (show ¬ ((skipTo s j : Nat) : Int) < (s.length : Int) by omega)]
      exact hR _ _ rfl
end
end Go.Sc
namespace Go.Sc
open Go
set_option linter.unusedSimpArgs false
set_option linter.unusedVariables false
set_option linter.unnecessarySimpa false
def pd (s : Str) (i e p : Int) : List AV := [S s, Z i, Z e, Z p]
theorem pd_closed (s : Str) (i e p : Int) : AV.closedL (pd s i e p) := ⟨trivial, trivial, trivial, trivial, trivial⟩
section
variable {E : Env} {P : Program}
end
end Go.Sc
namespace Go.Sc
open Go
set_option linter.unusedSimpArgs false
set_option linter.unusedVariables false
set_option linter.unnecessarySimpa false
/-- what the document's reader answers -/
def PR (s : Str) (r : Rs Ex) (x : AV) (cs : List AV) : Prop := match r with
  | .ok e j => x = e.ref ∧ cs = pd s j 0 (-1)
  | .no e p => x.closed ∧ x.scalar = true ∧ ∃ j : Int, cs = pd s j e p
theorem PR.closed {s : Str} {r : Rs Ex} {x : AV} {cs : List AV} (h : PR s r x cs) : x.closed ∧ AV.closedL cs := by
  unfold PR at h
  split at h
  · obtain ⟨rfl, rfl⟩ := h; exact ⟨Ex.ref_closed _, pd_closed _ _ _ _⟩
  · obtain ⟨hz, _, j, rfl⟩ := h; exact ⟨hz, pd_closed _ _ _ _⟩
section
variable {E : Env} {P : Program}
end
end Go.Sc
namespace Go.Sc
open Go Go.RowKit
section
variable {E : Env} {P : Program}
theorem FX.ofCalls {k : Nat} {fn : Func} {args : List AV} {r : AV} (hf : P.funcs[E.fn k]? = some fn) (hn : (fn.name == "runtime.NumGoroutine") = false) (hb : fn.body.isNone = false) (ca : AV.closedL args) (hfl : r.flat) (hcl : r.closed)
    (h : ∀ (c : Cx) (vs : List Value), (∀ b, c.fz b → b < c.w.heap.size) → (∀ g cs, E.gl g = some cs → CRel E c cs (E.gn g) 0) → LRel E c args vs →
      Calls P (E.fn k) vs.toArray c.w fun e w' => ∃ v, e = .returned v ∧ Below c.w.heap.size c.w w' ∧ VRel E c r v) : FX E P k args r where
  ca := ca
  cr := hcl
  ok := by
    intro n c vs hH hv o a next Q hnext
    have hrun : (callFunc (E.fn k) vs.toArray).run P c.w = .ok (.enter (E.fn k) vs.toArray) c.w := by
      have hn' : ¬ ((fn.name == "runtime.NumGoroutine") = true) := by rw [hn]; simp
      have hb' : ¬ (fn.body.isNone = true) := by rw [hb]; simp
      simp only [callFunc, Sem.run_bind, run_program, Result.andThen_ok, hf, if_neg hn', if_neg hb', Sem.run_pure]
    rw [hrun]
    simp only [Oper.upon]
    have hgen : ∀ b, c.gen b = none := fun b => hH.out b (by simp)
    refine (h c vs hH.fzlt (fun g cs e => (hH.glob g cs e).2) hv).mono ?_
    rintro e w' ⟨v, rfl, bel, hrv⟩
    have hle : c.le { c with w := w' } := ⟨Nat.le_refl _, fun b hb => ⟨hb, bel.block b (hH.fzlt b hb)⟩, fun b o hb => ⟨.inr hb, cell_of_heap (bel.block b (hH.fclt b o hb)) _ _⟩, fun _ _ _ e => ⟨e, rfl, rfl, rfl, rfl⟩, fun _ _ _ _ _ h => h⟩
    have hL : Later c { c with w := w' } := {
      le := hle
      os := bel.os
      tape := bel.tape
      output := bel.output
      size := bel.size
      keep := fun i hi _ => bel.block i hi
      own := fun b hb => .inl ⟨b, hb, rfl⟩
      fz := fun i hi => .inl hi
      fc := fun i j hi => .inl hi }
    refine hnext v w' ⟨r, { c with w := w' }, ⟨[], n⟩, rfl, rfl, ⟨hH.ctr, hH.out, by simp, fun b hb => absurd (hgen b) hb, by simp, fun b _ hb => absurd (hgen b) hb, fun b hb => absurd (hgen b) hb, fun b hb => Nat.lt_of_lt_of_le (hH.fzlt b hb) bel.size, fun b j hb => Nat.lt_of_lt_of_le (hH.fclt b j hb) bel.size, hH.globLe hle⟩, VRel.ofFlat r v hfl hrv, hL⟩
/-- api.Tell: the code in an error -/
theorem FX.tell {k g X : Nat} {fn : Func} {ev : Value} (hf : P.funcs[E.fn k]? = some fn) (hn : (fn.name == "runtime.NumGoroutine") = false) (hb : fn.body.isNone = false) (hty : E.ty 1 = X) (hgl : E.gl g = some [.val ev])
    (h0 : ∀ w, Calls P (E.fn k) #[.nilIface] w fun e w' => e = .returned (.int .i64 0) ∧ Below w.heap.size w w')
    (h1 : ∀ z w, w.cell? ⟨E.gn g, 0, none⟩ = some ev → Calls P (E.fn k) #[.iface X (.int .i64 z)] w fun e w' => e = .returned (.int .i64 z) ∧ Below w.heap.size w w') (e : Int) : FX E P k [Er e] (Z e) := by
  refine FX.ofCalls hf hn hb (by simp [AV.closedL, Er_closed]) (by simp [AV.flat]) (by simp [AV.closed]) fun c vs _ hg hv => ?_
  obtain ⟨v, rfl, hr⟩ := hv.one'
  by_cases he : e = 0
  · subst he
    simp only [Er, if_true, VRel] at hr
    subst hr
    refine (h0 c.w).mono fun e w' h => ?_
    exact ⟨_, h.1, h.2, by simp [VRel]⟩
  · simp only [Er, he, if_false, VRel] at hr
    obtain ⟨u, rfl, _, rfl⟩ := hr
    have hc := hg g _ hgl
    simp only [CRel, VRel] at hc
    obtain ⟨⟨_, u, hu, rfl⟩, _⟩ := hc
    rw [hty]
    refine (h1 e c.w hu).mono fun e w' h => ?_
    exact ⟨_, h.1, h.2, by simp [VRel]⟩
end
end Go.Sc
namespace Go.Sc
open Go
set_option linter.unusedSimpArgs false
set_option linter.unusedVariables false
set_option linter.unnecessarySimpa false
theorem binA_cat {s t : Str} (h : s.length + t.length ≤ 4611686018427387904) : binA .add (S s) (S t) = some (S (s ++ t)) := by
  have h1 : ¬ (((⟨s.toArray⟩ : ByteArray).size + (⟨t.toArray⟩ : ByteArray).size : Nat) : Int) > IntKind.i64.max := by
    simp [ByteArray.size, IntKind.max, IntKind.bits, IntKind.signed]; omega
  simp only [binA, strBin, if_neg h1, Option.map_some]
  congr 3
def Ex.kind : Ex → Str
  | .k b => if b then [49] else [48]
  | .bit _ => [98, 105, 116]
  | .rise _ => [94]
  | .fall _ => [126]
  | .not _ => [33]
  | .and _ => [38]
  | .or _ => [124]
def Ex.nm : Ex → Str
  | .bit s => s
  | .rise s => s
  | .fall s => s
  | _ => []
def Ex.of : Ex → AV
  | .not x => .slN [x.ref] 1
  | .and l => .slN (Ex.refL l) l.length
  | .or l => .slN (Ex.refL l) l.length
  | _ => nilS
def Ex.isAnd : Ex → Bool
  | .and _ => true
  | _ => false
def Ex.isOr : Ex → Bool
  | .or _ => true
  | _ => false
theorem Ex.wr_two (x : Ex) : x.wr 2 = around (x.isAnd || x.isOr) (x.wr 0) := by cases x <;> simp [Ex.wr, Ex.isAnd, Ex.isOr, around]
theorem Ex.wr_one (x : Ex) : x.wr 1 = around x.isOr (x.wr 0) := by cases x <;> simp [Ex.wr, Ex.isAnd, Ex.isOr, around]
theorem Ex.wt_mem {x : Ex} : ∀ {l : List Ex}, x ∈ l → x.wt ≤ Ex.wtL l
  | y :: l, h => by
    rcases List.mem_cons.1 h with rfl | h
    · simp only [Ex.wtL]; omega
    · have := Ex.wt_mem h; simp only [Ex.wtL]; omega
theorem Ex.fine_mem {x : Ex} : ∀ {l : List Ex}, Ex.fineL l → x ∈ l → x.fine
  | y :: l, h, hx => by
    rcases List.mem_cons.1 hx with rfl | hx
    · exact h.1
    · exact Ex.fine_mem h.2 hx
theorem Ex.len_wtL : ∀ {l : List Ex}, Ex.fineL l → l.length ≤ Ex.wtL l
  | [], _ => by simp
  | x :: l, h => by
    have h2 := Ex.len_wtL h.2
    have : 1 ≤ x.wt := by
      have h1 := h.1
      cases x with
      | bit s => cases s with
        | nil => simp [Ex.fine, nameOk] at h1
        | cons a b => simp [Ex.wt]
      | _ => simp only [Ex.wt]; omega
    simp only [Ex.wtL, List.length_cons]; omega
theorem Lm_S {l : List Str} : Lm S l = .slN (l.map fun s => S s) l.length := rfl
section
variable {E : Env} {P : Program}
theorem asA {k k' : Nat} {z a : AV} : assertA k z (.ifc k' a) = some (if k' = k then .tup [a, Bo true] else .tup [z, Bo false]) := by
  simp only [assertA]; split <;> rfl
end
end Go.Sc
namespace Go.Sc.F
open Go Go.Sc
set_option linter.unusedVariables false
/-- signalbox/expr.Size -/
def expr_Size (E : Env) (P : Program) (a0 : AV) (H : AH) (R : Kt) : Prop :=
  wNew 1 (some [(.val (.int .i64 0))]) H fun t3 H =>
  wPut (store1 t3 (.val (.int .i64 0)) H) fun _u H =>
  wCall E P 161 [a0, (.fn 160 [] [t3])] H fun t6 H =>
  wGet (load1 t3 H) H fun t7 H =>
  R t7 H

/-- signalbox/expr.Eval -/
def expr_Eval (E : Env) (P : Program) (a0 a1 a2 : AV) (H : AH) (R : Kt) : Prop :=
  wNew 1 (AV.cells? a1) H fun t4 H =>
  wNew 1 (AV.cells? a2) H fun t5 H =>
  wGet (assertA 11 (.val (.bool false)) a0) H fun t15 H =>
  wGet (extractA t15 1) H fun t16 H =>
  wGet (extractA t15 0) H fun t17 H =>
  wIf t16 (
    R t17 H) (
    wGet (assertA 14 (.val (.string ⟨#[]⟩)) a0) H fun t19 H =>
    wGet (extractA t19 1) H fun t20 H =>
    wGet (extractA t19 0) H fun t21 H =>
    wIf t20 (
      wGet (load1 t4 H) H fun t22 H =>
      wCallV E P t22 [t21] H fun t24 H =>
      R t24 H) (
      wGet (assertA 12 (.val (.string ⟨#[]⟩)) a0) H fun t25 H =>
      wGet (extractA t25 1) H fun t26 H =>
      wGet (extractA t25 0) H fun t27 H =>
      wIf t26 (
        wGet (load1 t4 H) H fun t28 H =>
        wCallV E P t28 [t27] H fun t30 H =>
        wGuard t30 true H (fun k => wGet (load1 t5 H) H k) fun t32 H =>
        wGuard t30 true H (fun k => k t27 H) fun t33 H =>
        wGuard t30 true H (fun k => wCallV E P t32 [t33] H k) fun t34 H =>
        wGuard t30 true H (fun k => wGet (unA .not t34) H k) fun t35 H =>
        wGet (pickA t30 t35 (.val (.bool false))) H fun t36 H =>
        R t36 H) (
        wGet (assertA 13 (.val (.string ⟨#[]⟩)) a0) H fun t37 H =>
        wGet (extractA t37 1) H fun t38 H =>
        wGet (extractA t37 0) H fun t39 H =>
        wIf t38 (
          wGet (load1 t4 H) H fun t40 H =>
          wCallV E P t40 [t39] H fun t42 H =>
          wGet (unA .not t42) H fun t43 H =>
          wGuard t43 true H (fun k => wGet (load1 t5 H) H k) fun t45 H =>
          wGuard t43 true H (fun k => k t39 H) fun t46 H =>
          wGuard t43 true H (fun k => wCallV E P t45 [t46] H k) fun t47 H =>
          wGet (pickA t43 t47 (.val (.bool false))) H fun t48 H =>
          R t48 H) (
          wGet (assertA 10 (.agg [(.val (.nilIface))]) a0) H fun t49 H =>
          wGet (extractA t49 1) H fun t50 H =>
          wGet (extractA t49 0) H fun t51 H =>
          wIf t50 (
            wNew 1 (some [(.val (.nilIface))]) H fun t11 H =>
            wPut (storeN 1 t11 t51 H) fun _u H =>
            wGet (faddr 0 t11) H fun t52 H =>
            wGet (load1 t52 H) H fun t53 H =>
            wGet (load1 t4 H) H fun t54 H =>
            wGet (load1 t5 H) H fun t55 H =>
            wCall E P 158 [t53, t54, t55] H fun t56 H =>
            wGet (unA .not t56) H fun t57 H =>
            R t57 H) (
            wGet (assertA 9 (.val (.slice none 0 0)) a0) H fun t58 H =>
            wGet (extractA t58 1) H fun t59 H =>
            wGet (extractA t58 0) H fun t60 H =>
            wIf t59 (
              wCall E P 163 [t60, (.fn 162 [] [t4, t5])] H fun t63 H =>
              wGet (unA .not t63) H fun t64 H =>
              R t64 H) (
              wGet (assertA 8 (.val (.slice none 0 0)) a0) H fun t65 H =>
              wGet (extractA t65 1) H fun t66 H =>
              wGet (extractA t65 0) H fun t67 H =>
              wIf t66 (
                wCall E P 165 [t67, (.fn 164 [] [t4, t5])] H fun t70 H =>
                R t70 H) (
                R (.val (.bool false)) H)))))))

/-- signalbox/signalboxkeep.among -/
def keep_among (E : Env) (P : Program) (a0 : AV) (H : AH) (R : Kt) : Prop :=
  wNew 1 (AV.cells? a0) H fun t1 H =>
  R (.fn 166 [] [t1]) H

/-- signalbox/expr.walk -/
def expr_walk (E : Env) (P : Program) (a0 a1 : AV) (H : AH) (R : Kt) : Prop :=
  wCallV E P a1 [a0] H fun t13 H =>
  wGet (assertA 10 (.agg [(.val (.nilIface))]) a0) H fun t15 H =>
  wGet (extractA t15 1) H fun t16 H =>
  wGet (extractA t15 0) H fun t17 H =>
  wIf t16 (
    wNew 1 (some [(.val (.nilIface))]) H fun t4 H =>
    wPut (storeN 1 t4 t17 H) fun _u H =>
    wGet (faddr 0 t4) H fun t18 H =>
    wGet (load1 t18 H) H fun t19 H =>
    wCall E P 161 [t19, a1] H fun t21 H =>
    R (.tup []) H) (
    wGet (assertA 9 (.val (.slice none 0 0)) a0) H fun t22 H =>
    wGet (extractA t22 1) H fun t23 H =>
    wGet (extractA t22 0) H fun t24 H =>
    wIf t23 (
      wGet (lenA t24) H fun t26 H =>
      wLoop 1 (fun I1 => I1 (.val (.int .i64 0)) H) fun I1 t27 H =>
        wGet (binA .lss t27 t26) H fun t28 H =>
        wIf t28 (
          wGet (iaddr 1 t24 t27) H fun t29 H =>
          wGet (load1 t29 H) H fun t30 H =>
          wCall E P 161 [t30, a1] H fun t33 H =>
          wGet (binA .add t27 (.val (.int .i64 1))) H fun t34 H =>
          I1 t34 H) (
          R (.tup []) H)) (
      wGet (assertA 8 (.val (.slice none 0 0)) a0) H fun t35 H =>
      wGet (extractA t35 1) H fun t36 H =>
      wGet (extractA t35 0) H fun t37 H =>
      wIf t36 (
        wGet (lenA t37) H fun t39 H =>
        wLoop 1 (fun I2 => I2 (.val (.int .i64 0)) H) fun I2 t40 H =>
          wGet (binA .lss t40 t39) H fun t41 H =>
          wIf t41 (
            wGet (iaddr 1 t37 t40) H fun t42 H =>
            wGet (load1 t42 H) H fun t43 H =>
            wCall E P 161 [t43, a1] H fun t46 H =>
            wGet (binA .add t40 (.val (.int .i64 1))) H fun t47 H =>
            I2 t47 H) (
            R (.tup []) H)) (
        R (.tup []) H)))

/-- signalbox/expr.Size$1 -/
def expr_Size_c1 (E : Env) (P : Program) (a0 a1 : AV) (H : AH) (R : Kt) : Prop :=
  wGet (load1 a1 H) H fun t3 H =>
  wGet (binA .add t3 (.val (.int .i64 1))) H fun t4 H =>
  wPut (store1 a1 t4 H) fun _u H =>
  R (.tup []) H

/-- slices.ContainsFunc[signalbox/expr.And,signalbox/expr.Expr] -/
def slices_ContainsFunc_expr_And_expr_Expr (E : Env) (P : Program) (a0 a1 : AV) (H : AH) (R : Kt) : Prop :=
  wCall E P 167 [a0, a1] H fun t7 H =>
  wGet (binA .geq t7 (.val (.int .i64 0))) H fun t8 H =>
  R t8 H

/-- signalbox/expr.Eval$1 -/
def expr_Eval_c1 (E : Env) (P : Program) (a0 a1 a2 : AV) (H : AH) (R : Kt) : Prop :=
  wGet (load1 a1 H) H fun t6 H =>
  wGet (load1 a2 H) H fun t7 H =>
  wCall E P 158 [a0, t6, t7] H fun t8 H =>
  wGet (unA .not t8) H fun t9 H =>
  R t9 H

/-- slices.ContainsFunc[signalbox/expr.Or,signalbox/expr.Expr] -/
def slices_ContainsFunc_expr_Or_expr_Expr (E : Env) (P : Program) (a0 a1 : AV) (H : AH) (R : Kt) : Prop :=
  wCall E P 168 [a0, a1] H fun t7 H =>
  wGet (binA .geq t7 (.val (.int .i64 0))) H fun t8 H =>
  R t8 H

/-- signalbox/expr.Eval$2 -/
def expr_Eval_c2 (E : Env) (P : Program) (a0 a1 a2 : AV) (H : AH) (R : Kt) : Prop :=
  wGet (load1 a1 H) H fun t6 H =>
  wGet (load1 a2 H) H fun t7 H =>
  wCall E P 158 [a0, t6, t7] H fun t8 H =>
  R t8 H

/-- signalbox/signalboxkeep.among$1 -/
def keep_among_c1 (E : Env) (P : Program) (a0 a1 : AV) (H : AH) (R : Kt) : Prop :=
  wLoop 1 (fun I1 => I1 (.val (.int .i64 0)) H) fun I1 t4 H =>
    wGet (load1 a1 H) H fun t6 H =>
    wGet (lenA t6) H fun t7 H =>
    wGet (binA .lss t4 t7) H fun t8 H =>
    wIf t8 (
      wGet (load1 a1 H) H fun t11 H =>
      wGet (iaddr 1 t11 t4) H fun t13 H =>
      wGet (load1 t13 H) H fun t14 H =>
      wGet (binA .eql t14 a0) H fun t16 H =>
      wIf t16 (
        R (.val (.bool true)) H) (
        wGet (binA .add t4 (.val (.int .i64 1))) H fun t10 H =>
        I1 t10 H)) (
      R (.val (.bool false)) H)

/-- slices.IndexFunc[signalbox/expr.And,signalbox/expr.Expr] -/
def slices_IndexFunc_expr_And_expr_Expr (E : Env) (P : Program) (a0 a1 : AV) (H : AH) (R : Kt) : Prop :=
  wGet (lenA a0) H fun t7 H =>
  wLoop 1 (fun I1 => I1 (.val (.int .i64 0)) H) fun I1 t8 H =>
    wGet (binA .lss t8 t7) H fun t9 H =>
    wIf t9 (
      wGet (iaddr 1 a0 t8) H fun t14 H =>
      wGet (load1 t14 H) H fun t15 H =>
      wCallV E P a1 [t15] H fun t16 H =>
      wIf t16 (
        R t8 H) (
        wGet (binA .add t8 (.val (.int .i64 1))) H fun t18 H =>
        I1 t18 H)) (
      R (.val (.int .i64 (-1))) H)

/-- slices.IndexFunc[signalbox/expr.Or,signalbox/expr.Expr] -/
def slices_IndexFunc_expr_Or_expr_Expr (E : Env) (P : Program) (a0 a1 : AV) (H : AH) (R : Kt) : Prop :=
  wGet (lenA a0) H fun t7 H =>
  wLoop 1 (fun I1 => I1 (.val (.int .i64 0)) H) fun I1 t8 H =>
    wGet (binA .lss t8 t7) H fun t9 H =>
    wIf t9 (
      wGet (iaddr 1 a0 t8) H fun t14 H =>
      wGet (load1 t14 H) H fun t15 H =>
      wCallV E P a1 [t15] H fun t16 H =>
      wIf t16 (
        R t8 H) (
        wGet (binA .add t8 (.val (.int .i64 1))) H fun t18 H =>
        I1 t18 H)) (
      R (.val (.int .i64 (-1))) H)

end Go.Sc.F
namespace Go.Sc
open Go
set_option linter.unusedSimpArgs false
set_option linter.unusedVariables false
set_option linter.unnecessarySimpa false
/-! ### what it says -/
mutual
def Ex.says (p q : Str → Bool) : Ex → Bool
  | .k b => b
  | .bit s => p s
  | .rise s => p s && !q s
  | .fall s => !p s && q s
  | .not x => !x.says p q
  | .and l => Ex.allL p q l
  | .or l => Ex.anyL p q l
def Ex.allL (p q : Str → Bool) : List Ex → Bool
  | [] => true
  | x :: l => x.says p q && Ex.allL p q l
def Ex.anyL (p q : Str → Bool) : List Ex → Bool
  | [] => false
  | x :: l => x.says p q || Ex.anyL p q l
end
theorem Ex.allL_eq (p q : Str → Bool) : ∀ l : List Ex, Ex.allL p q l = l.all fun x => x.says p q
  | [] => rfl
  | x :: l => by simp [Ex.allL, Ex.allL_eq p q l]
theorem Ex.anyL_eq (p q : Str → Bool) : ∀ l : List Ex, Ex.anyL p q l = l.any fun x => x.says p q
  | [] => rfl
  | x :: l => by simp [Ex.anyL, Ex.anyL_eq p q l]
mutual
def Ex.size : Ex → Nat
  | .not x => x.size + 1
  | .and l => Ex.sizeL l + 1
  | .or l => Ex.sizeL l + 1
  | _ => 1
def Ex.sizeL : List Ex → Nat
  | [] => 0
  | x :: l => x.size + Ex.sizeL l
end
mutual
theorem Ex.size_wt : ∀ x : Ex, x.fine → x.size ≤ x.wt
  | .k _, _ => by simp [Ex.size, Ex.wt]
  | .bit s, h => by
    cases s with
    | nil => simp [Ex.fine, nameOk] at h
    | cons a b => simp [Ex.size, Ex.wt]
  | .rise _, _ => by simp [Ex.size, Ex.wt]
  | .fall _, _ => by simp [Ex.size, Ex.wt]
  | .not x, h => by have := Ex.size_wt x h; simp only [Ex.size, Ex.wt]; omega
  | .and l, h => by have := Ex.sizeL_wt l h.2; simp only [Ex.size, Ex.wt]; omega
  | .or l, h => by have := Ex.sizeL_wt l h.2; simp only [Ex.size, Ex.wt]; omega
theorem Ex.sizeL_wt : ∀ l : List Ex, Ex.fineL l → Ex.sizeL l ≤ Ex.wtL l
  | [], _ => by simp [Ex.sizeL, Ex.wtL]
  | x :: l, h => by have h1 := Ex.size_wt x h.1; have h2 := Ex.sizeL_wt l h.2; simp only [Ex.sizeL, Ex.wtL]; omega
end
/-- a question of names -/
structure Asks (E : Env) (P : Program) (f : AV) (p : Str → Bool) : Prop where
  ok : ∃ k cc, f = .fn k [] cc ∧ AV.closedL cc ∧ ∀ s, FX E P k ([S s] ++ cc) (Bo (p s))
theorem Asks.closed {E : Env} {P : Program} {f : AV} {p : Str → Bool} (h : Asks E P f p) : f.closed := by
  obtain ⟨k, cc, rfl, h, _⟩ := h.ok
  exact ⟨trivial, h⟩
theorem Asks.scalar {E : Env} {P : Program} {f : AV} {p : Str → Bool} (h : Asks E P f p) : f.scalar = true := by
  obtain ⟨k, cc, rfl, h, _⟩ := h.ok
  rfl
theorem Asks.call {E : Env} {P : Program} {f : AV} {p : Str → Bool} (h : Asks E P f p) (s : Str) {H : AH} {K : Kt} (hK : ∀ n, K (Bo (p s)) ⟨H.bs, n⟩) : wCallV E P f [S s] H K := by
  obtain ⟨k, cc, rfl, _, h⟩ := h.ok
  exact wCallV.fx (fs := []) (h s) hK
/-- a list of texts, or nil -/
def TXL (a : AV) (l : List Str) : Prop := (a = nilS ∧ l = []) ∨ a = Lm S l
theorem TXL.closed {a : AV} {l : List Str} (h : TXL a l) : a.closed := by
  rcases h with ⟨rfl, _⟩ | rfl
  · trivial
  · exact closed_S l
theorem TXL.scalar {a : AV} {l : List Str} (h : TXL a l) : a.scalar = true := by
  rcases h with ⟨rfl, _⟩ | rfl <;> rfl
theorem TXL.len {a : AV} {l : List Str} (h : TXL a l) : lenA a = some (Z l.length) := by
  rcases h with ⟨rfl, rfl⟩ | rfl <;> rfl
structure EvalBodies0 (E : Env) (P : Program) : Prop where
  eval : Body3 E P 158 F.expr_Eval
  eval1 : Body3 E P 162 F.expr_Eval_c1
  eval2 : Body3 E P 164 F.expr_Eval_c2
  conA : Body2 E P 163 F.slices_ContainsFunc_expr_And_expr_Expr
  conO : Body2 E P 165 F.slices_ContainsFunc_expr_Or_expr_Expr
  ixA : Body2 E P 167 F.slices_IndexFunc_expr_And_expr_Expr
  ixO : Body2 E P 168 F.slices_IndexFunc_expr_Or_expr_Expr
structure EvalBodies (E : Env) (P : Program) : Prop extends EvalBodies0 E P where
  among : Body1 E P 157 F.keep_among
  among1 : Body2 E P 166 F.keep_among_c1
section
variable {E : Env} {P : Program}
theorem among1_spec (B : EvalBodies E P) {a : AV} {l : List Str} (h : TXL a l) (hl : l.length < 1099511627776) (s : Str) : FX E P 166 ([S s] ++ [.ptrF [a] 0]) (Bo (decide (s ∈ l))) := by
  refine FX.of' ⟨trivial, ⟨h.closed, trivial⟩, trivial⟩ trivial fun n R hR => B.among1 _ _ _ _ ?_
  unfold F.keep_among_c1
  refine wLoop.one (fun m i H => ∃ pre rest c, l = pre ++ rest ∧ i = Z pre.length ∧ m = rest.length ∧ s ∉ pre ∧ H = ⟨[], c⟩) l.length (gh1.mk ⟨[], l, n, rfl, rfl, rfl, by simp, rfl⟩) ?_
  rintro m i H ⟨pre, rest, c, rfl, rfl, rfl, hpre, rfl⟩
  simp only [nd0, Y1n, Y1o, Y1p, Y1q, Y1w, Y1x, Y1y, Y1z, Y20, Y21, Y28, Y2a, AV.cells?, Nat.reduceAdd, Nat.reduceMul, h.len]
  cases rest with
  | nil =>
    simp only [nd0, Y1n, Y1o, Y1p, Y1q, Y1w, Y1x, Y1y, Y1z, Y20, Y21, Y28, Y2a, AV.cells?, Nat.reduceAdd, Nat.reduceMul, List.append_nil, Int.lt_irrefl]
    exact hR _ _ (by rw [decide_eq_false (by simpa using hpre)])
  | cons x rest =>
    simp only [nd0, Y1n, Y1o, Y1p, Y1q, Y1w, Y1x, Y1y, Y1z, Y20, Y21, Y28, Y2a, AV.cells?, Nat.reduceAdd, Nat.reduceMul, decide_eq_true (show (pre.length : Int) < ((pre ++ x :: rest).length : Int) by simp; omega)]
    rcases h with ⟨_, h⟩ | rfl
    · simp at h
    rw [iaddr_Nn lt_mid]
    simp only [nd0, Y1n, Y1o, Y1p, Y1q, Y1w, Y1x, Y1y, Y1z, Y20, Y21, Y28, Y2a, AV.cells?, Nat.reduceAdd, Nat.reduceMul, at_mid]
    by_cases hx : x = s
    · simp only [nd0, Y1n, Y1o, Y1p, Y1q, Y1w, Y1x, Y1y, Y1z, Y20, Y21, Y28, Y2a, AV.cells?, Nat.reduceAdd, Nat.reduceMul, decide_eq_true hx]
      exact hR _ _ (by rw [decide_eq_true (by rw [hx]; simp)])
    · simp only [nd0, Y1n, Y1o, Y1p, Y1q, Y1w, Y1x, Y1y, Y1z, Y20, Y21, Y28, Y2a, AV.cells?, Nat.reduceAdd, Nat.reduceMul, decide_eq_false hx]
      rw [binA_succ (by simp at hl; omega)]
      simp only [nd0, Y1n, Y1o, Y1p, Y1q, Y1w, Y1x, Y1y, Y1z, Y20, Y21, Y28, Y2a, AV.cells?, Nat.reduceAdd, Nat.reduceMul]
      exact back1.mk rest.length (by simp) ⟨pre ++ [x], rest, c, by simp, by simp, rfl, by simp [hpre, Ne.symm hx], rfl⟩
def amongA (a : AV) : AV := .fn 166 [] [.ptrF [a] 0]
theorem among_spec (B : EvalBodies E P) {a : AV} {l : List Str} (h : TXL a l) : FX E P 157 [a] (amongA a) := by
  refine FX.of' ⟨h.closed, trivial⟩ ⟨trivial, ⟨h.closed, trivial⟩, trivial⟩ fun n R hR => B.among _ _ _ ?_
  unfold F.keep_among
  rw [cells?_scalar h.scalar]
  refine wNew.F' rfl ?_
  exact hR _ _ rfl
theorem among_asks (B : EvalBodies E P) {a : AV} {l : List Str} (h : TXL a l) (hl : l.length < 1099511627776) : Asks E P (amongA a) (fun s => decide (s ∈ l)) :=
  ⟨166, _, rfl, ⟨⟨h.closed, trivial⟩, trivial⟩, among1_spec B h hl⟩
theorem ixF_spec {G : Env → Program → AV → AV → AH → Kt → Prop} {kk : Nat} (hG : G = F.slices_IndexFunc_expr_And_expr_Expr ∨ G = F.slices_IndexFunc_expr_Or_expr_Expr) (hB : Body2 E P kk G) {k : Nat} {cs : List AV} {p : Ex → Bool} (l : List Ex) (hl : l.length < 4611686018427387904) (hcs : AV.closedL cs)
    (hp : ∀ a ∈ l, FX E P k ([a.enc] ++ cs) (Bo (p a))) : FX E P kk [.slN (Ex.encL l) l.length, .fn k [] cs] (Z (idxO (l.findIdx? p))) := by
  refine FX.of' ⟨Ex.encL_closed l, ⟨trivial, hcs⟩, trivial⟩ (by simp [AV.closed]) fun n R hR => hB _ _ _ _ ?_
  have main : wLoop 1 (fun I1 => I1 (Z 0) ⟨[], n⟩) fun I1 t8 H =>
      wGet (binA .lss t8 (Z l.length)) H fun t9 H =>
      wIf t9 (
        wGet (iaddr 1 (.slN (Ex.encL l) l.length) t8) H fun t14 H =>
        wGet (load1 t14 H) H fun t15 H =>
        wCallV E P (.fn k [] cs) [t15] H fun t16 H =>
        wIf t16 (
          R t8 H) (
          wGet (binA .add t8 (.val (.int .i64 1))) H fun t18 H =>
          I1 t18 H)) (
        R (.val (.int .i64 (-1))) H) := by
    refine wLoop.one (fun m i H => ∃ pre rest, l = pre ++ rest ∧ i = Z pre.length ∧ m = rest.length ∧ ∀ a ∈ pre, p a = false) l.length (gh1.mk ⟨[], l, rfl, rfl, rfl, by simp⟩) ?_
    rintro m i H ⟨pre, rest, rfl, rfl, rfl, hpre⟩
    cases rest with
    | nil =>
      simp only [nd0, Y1n, Y1o, Y1p, Y1q, Y1w, Y1x, Y1y, Y1z, Y20, Y21, Y28, Y2a, AV.cells?, Nat.reduceAdd, Nat.reduceMul, List.append_nil, Int.lt_irrefl]
      refine hR _ _ ?_
      rw [List.append_nil, List.findIdx?_eq_none_iff.2 hpre]
      rfl
    | cons x rest =>
      simp only [nd0, Y1n, Y1o, Y1p, Y1q, Y1w, Y1x, Y1y, Y1z, Y20, Y21, Y28, Y2a, AV.cells?, Nat.reduceAdd, Nat.reduceMul, decide_eq_true (show (pre.length : Int) < ((pre ++ x :: rest).length : Int) by simp; omega)]
      rw [iaddr_Nn lt_mid]
      simp only [nd0, Y1n, Y1o, Y1p, Y1q, Y1w, Y1x, Y1y, Y1z, Y20, Y21, Y28, Y2a, AV.cells?, Nat.reduceAdd, Nat.reduceMul, show (Ex.encL (pre ++ x :: rest))[pre.length]? = some x.enc by rw [Ex.encL_map]; simp]
      refine wCallV.fx (hp x (by simp)) fun n1 => ?_
      refine wIf.bool (fun h => ?_) fun h => ?_
      · refine hR _ _ ?_
        have : (pre ++ x :: rest).findIdx? p = some pre.length := by
          rw [List.findIdx?_append, List.findIdx?_eq_none_iff.2 hpre]
          simp [List.findIdx?_cons, h]
        rw [this]; rfl
      · rw [binA_succ (by simp at hl; omega)]
        simp only [nd0, Y1n, Y1o, Y1p, Y1q, Y1w, Y1x, Y1y, Y1z, Y20, Y21, Y28, Y2a, AV.cells?, Nat.reduceAdd, Nat.reduceMul]
        refine back1.mk rest.length (by simp) ⟨pre ++ [x], rest, by simp, by simp, rfl, fun a ha => ?_⟩
        rcases List.mem_append.1 ha with ha | ha
        · exact hpre a ha
        · simp at ha; subst ha; exact h
  rcases hG with rfl | rfl
  · unfold F.slices_IndexFunc_expr_And_expr_Expr
    simp only [nd0, Y1n, Y1o, Y1p, Y1q, Y1w, Y1x, Y1y, Y1z, Y20, Y21, Y28, Y2a, AV.cells?, Nat.reduceAdd, Nat.reduceMul]
    exact main
  · unfold F.slices_IndexFunc_expr_Or_expr_Expr
    simp only [nd0, Y1n, Y1o, Y1p, Y1q, Y1w, Y1x, Y1y, Y1z, Y20, Y21, Y28, Y2a, AV.cells?, Nat.reduceAdd, Nat.reduceMul]
    exact main
theorem any_idx {α : Type} {l : List α} {p : α → Bool} : decide ((0 : Int) ≤ idxO (l.findIdx? p)) = l.any p := by
  cases hf : l.findIdx? p with
  | none =>
    rw [List.findIdx?_eq_none_iff] at hf
    have : l.any p = false := by rw [List.any_eq_false]; intro x hx; simp [hf x hx]
    rw [this]; rfl
  | some i =>
    rw [List.findIdx?_eq_some_iff_getElem] at hf
    obtain ⟨h1, h2, _⟩ := hf
    have : l.any p = true := by rw [List.any_eq_true]; exact ⟨_, List.getElem_mem h1, h2⟩
    rw [this]
    have : (0 : Int) ≤ idxO (some i) := by simp [idxO]
    rw [decide_eq_true this]
theorem conA_spec (B : EvalBodies0 E P) {k : Nat} {cs : List AV} {p : Ex → Bool} (l : List Ex) (hl : l.length < 4611686018427387904) (hcs : AV.closedL cs) (hp : ∀ a ∈ l, FX E P k ([a.enc] ++ cs) (Bo (p a))) :
    FX E P 163 [.slN (Ex.encL l) l.length, .fn k [] cs] (Bo (l.any p)) := by
  refine FX.of' ⟨Ex.encL_closed l, ⟨trivial, hcs⟩, trivial⟩ trivial fun n R hR => B.conA _ _ _ _ ?_
  unfold F.slices_ContainsFunc_expr_And_expr_Expr
  refine wCall.fx (ixF_spec (.inl rfl) B.ixA l hl hcs hp) fun n => ?_
  simp only [nd0, Y1n, Y1o, Y1p, Y1q, Y1w, Y1x, Y1y, Y1z, Y20, Y21, Y28, Y2a, AV.cells?, Nat.reduceAdd, Nat.reduceMul]
  exact hR _ _ (by rw [any_idx])
theorem conO_spec (B : EvalBodies0 E P) {k : Nat} {cs : List AV} {p : Ex → Bool} (l : List Ex) (hl : l.length < 4611686018427387904) (hcs : AV.closedL cs) (hp : ∀ a ∈ l, FX E P k ([a.enc] ++ cs) (Bo (p a))) :
    FX E P 165 [.slN (Ex.encL l) l.length, .fn k [] cs] (Bo (l.any p)) := by
  refine FX.of' ⟨Ex.encL_closed l, ⟨trivial, hcs⟩, trivial⟩ trivial fun n R hR => B.conO _ _ _ _ ?_
  unfold F.slices_ContainsFunc_expr_Or_expr_Expr
  refine wCall.fx (ixF_spec (.inr rfl) B.ixO l hl hcs hp) fun n => ?_
  simp only [nd0, Y1n, Y1o, Y1p, Y1q, Y1w, Y1x, Y1y, Y1z, Y20, Y21, Y28, Y2a, AV.cells?, Nat.reduceAdd, Nat.reduceMul]
  exact hR _ _ (by rw [any_idx])
theorem all_any {l : List Ex} {p : Ex → Bool} : (!(l.any fun x => !p x)) = l.all p := by
  rw [Bool.eq_iff_iff]; simp
set_option maxHeartbeats 1000000 in
theorem Eval_spec0 (B : EvalBodies0 E P) {f g : AV} {p q : Str → Bool} (hf : Asks E P f p) (hg : Asks E P g q) : ∀ (n : Nat) (x : Ex), x.wt < n → x.wt ≤ 1000000 → x.fine → FX E P 158 [x.enc, f, g] (Bo (x.says p q)) := by
  intro n
  induction n with
  | zero => intro x hx; omega
  | succ n ih =>
    intro x hx hw hfi
    refine FX.of' ⟨Ex.enc_closed x, hf.closed, hg.closed, trivial⟩ trivial fun c R hR => B.eval _ _ _ _ _ ?_
    unfold F.expr_Eval
    rw [cells?_scalar hf.scalar]
    refine wNew.F' rfl ?_
    rw [cells?_scalar hg.scalar]
    refine wNew.F' rfl ?_
    have hbox : ∀ l : List Ex, AV.closedL [AV.ptrF [f] 0, .ptrF [g] 0] := fun _ => ⟨⟨hf.closed, trivial⟩, ⟨hg.closed, trivial⟩, trivial⟩
    cases x with
    | k b =>
      simp only [Ex.enc]
      simp only [nd0, Y1n, Y1o, Y1p, Y1q, Y1w, Y1x, Y1y, Y1z, Y20, Y21, Y28, Y2a, AV.cells?, Nat.reduceAdd, Nat.reduceMul, asA, if_pos rfl]
      exact hR _ _ rfl
    | bit s =>
      simp only [Ex.enc]
      simp only [nd0, Y1n, Y1o, Y1p, Y1q, Y1w, Y1x, Y1y, Y1z, Y20, Y21, Y28, Y2a, AV.cells?, Nat.reduceAdd, Nat.reduceMul, asA, show (14 : Nat) = 11 ↔ False by decide, show (14 : Nat) = 14 ↔ True by decide]
      refine hf.call s fun n => ?_
      exact hR _ _ rfl
    | rise s =>
      simp only [Ex.enc]
      simp only [nd0, Y1n, Y1o, Y1p, Y1q, Y1w, Y1x, Y1y, Y1z, Y20, Y21, Y28, Y2a, AV.cells?, Nat.reduceAdd, Nat.reduceMul, asA, show (12 : Nat) = 11 ↔ False by decide, show (12 : Nat) = 14 ↔ False by decide, show (12 : Nat) = 12 ↔ True by decide]
      refine hf.call s fun n => ?_
      cases hp : p s with
      | false => simp only [nd0, Y1n, Y1o, Y1p, Y1q, Y1w, Y1x, Y1y, Y1z, Y20, Y21, Y28, Y2a, AV.cells?, Nat.reduceAdd, Nat.reduceMul]; exact hR _ _ (by simp [Ex.says, hp])
      | true =>
        simp only [nd0, Y1n, Y1o, Y1p, Y1q, Y1w, Y1x, Y1y, Y1z, Y20, Y21, Y28, Y2a, AV.cells?, Nat.reduceAdd, Nat.reduceMul]
        refine hg.call s fun n => ?_
        simp only [nd0, Y1n, Y1o, Y1p, Y1q, Y1w, Y1x, Y1y, Y1z, Y20, Y21, Y28, Y2a, AV.cells?, Nat.reduceAdd, Nat.reduceMul]
        exact hR _ _ (by simp [Ex.says, hp])
    | fall s =>
      simp only [Ex.enc]
      simp only [nd0, Y1n, Y1o, Y1p, Y1q, Y1w, Y1x, Y1y, Y1z, Y20, Y21, Y28, Y2a, AV.cells?, Nat.reduceAdd, Nat.reduceMul, asA, show (13 : Nat) = 11 ↔ False by decide, show (13 : Nat) = 14 ↔ False by decide, show (13 : Nat) = 12 ↔ False by decide, show (13 : Nat) = 13 ↔ True by decide]
      refine hf.call s fun n => ?_
      cases hp : p s with
      | true => simp only [nd0, Y1n, Y1o, Y1p, Y1q, Y1w, Y1x, Y1y, Y1z, Y20, Y21, Y28, Y2a, AV.cells?, Nat.reduceAdd, Nat.reduceMul]; exact hR _ _ (by simp [Ex.says, hp])
      | false =>
        simp only [nd0, Y1n, Y1o, Y1p, Y1q, Y1w, Y1x, Y1y, Y1z, Y20, Y21, Y28, Y2a, AV.cells?, Nat.reduceAdd, Nat.reduceMul]
        refine hg.call s fun n => ?_
        simp only [nd0, Y1n, Y1o, Y1p, Y1q, Y1w, Y1x, Y1y, Y1z, Y20, Y21, Y28, Y2a, AV.cells?, Nat.reduceAdd, Nat.reduceMul]
        exact hR _ _ (by simp [Ex.says, hp])
    | not x =>
      simp only [Ex.enc]
      simp only [Ex.wt] at hw hx
      simp only [nd0, Y1n, Y1o, Y1p, Y1q, Y1w, Y1x, Y1y, Y1z, Y20, Y21, Y28, Y2a, AV.cells?, Nat.reduceAdd, Nat.reduceMul, asA, show (10 : Nat) = 11 ↔ False by decide, show (10 : Nat) = 14 ↔ False by decide, show (10 : Nat) = 12 ↔ False by decide, show (10 : Nat) = 13 ↔ False by decide, show (10 : Nat) = 10 ↔ True by decide]
      refine wNew.L (l := [nilE]) rfl ?_
      simp only [nd0, Y1n, Y1o, Y1p, Y1q, Y1w, Y1x, Y1y, Y1z, Y20, Y21, Y28, Y2a, AV.cells?, Nat.reduceAdd, Nat.reduceMul]
      rw [storeN_L (n := 1) (xs := [x.enc]) rfl (by simp [Ex.enc_scalar])]
      simp only [nd0, Y1n, Y1o, Y1p, Y1q, Y1w, Y1x, Y1y, Y1z, Y20, Y21, Y28, Y2a, AV.cells?, Nat.reduceAdd, Nat.reduceMul, show putL [nilE] 0 [x.enc] = some [x.enc] from rfl]
      refine wCall.fx (ih x (by omega) (by omega) hfi) fun n2 => ?_
      simp only [nd0, Y1n, Y1o, Y1p, Y1q, Y1w, Y1x, Y1y, Y1z, Y20, Y21, Y28, Y2a, AV.cells?, Nat.reduceAdd, Nat.reduceMul]
      exact hR _ _ rfl
    | and l =>
      simp only [Ex.enc]
      simp only [Ex.wt] at hw hx
      have hll := Ex.len_wtL hfi.2
      simp only [nd0, Y1n, Y1o, Y1p, Y1q, Y1w, Y1x, Y1y, Y1z, Y20, Y21, Y28, Y2a, AV.cells?, Nat.reduceAdd, Nat.reduceMul, asA, show (9 : Nat) = 11 ↔ False by decide, show (9 : Nat) = 14 ↔ False by decide, show (9 : Nat) = 12 ↔ False by decide, show (9 : Nat) = 13 ↔ False by decide, show (9 : Nat) = 10 ↔ False by decide, show (9 : Nat) = 9 ↔ True by decide]
      refine wCall.fx (conA_spec B (p := fun x => !x.says p q) l (by omega) (hbox l) fun y hy => ?_) fun n2 => ?_
      · refine FX.of' ⟨Ex.enc_closed y, hbox l⟩ trivial fun c R hR => B.eval1 _ _ _ _ _ ?_
        unfold F.expr_Eval_c1
        simp only [nd0, Y1n, Y1o, Y1p, Y1q, Y1w, Y1x, Y1y, Y1z, Y20, Y21, Y28, Y2a, AV.cells?, Nat.reduceAdd, Nat.reduceMul]
        have := Ex.wt_mem hy
        refine wCall.fx (ih y (by omega) (by omega) (Ex.fine_mem hfi.2 hy)) fun n2 => ?_
        simp only [nd0, Y1n, Y1o, Y1p, Y1q, Y1w, Y1x, Y1y, Y1z, Y20, Y21, Y28, Y2a, AV.cells?, Nat.reduceAdd, Nat.reduceMul]
        exact hR _ _ rfl
      · simp only [nd0, Y1n, Y1o, Y1p, Y1q, Y1w, Y1x, Y1y, Y1z, Y20, Y21, Y28, Y2a, AV.cells?, Nat.reduceAdd, Nat.reduceMul]
        exact hR _ _ (by rw [all_any, Ex.says, Ex.allL_eq])
    | or l =>
      simp only [Ex.enc]
      simp only [Ex.wt] at hw hx
      have hll := Ex.len_wtL hfi.2
      simp only [nd0, Y1n, Y1o, Y1p, Y1q, Y1w, Y1x, Y1y, Y1z, Y20, Y21, Y28, Y2a, AV.cells?, Nat.reduceAdd, Nat.reduceMul, asA, show (8 : Nat) = 11 ↔ False by decide, show (8 : Nat) = 14 ↔ False by decide, show (8 : Nat) = 12 ↔ False by decide, show (8 : Nat) = 13 ↔ False by decide, show (8 : Nat) = 10 ↔ False by decide, show (8 : Nat) = 9 ↔ False by decide, show (8 : Nat) = 8 ↔ True by decide]
      refine wCall.fx (conO_spec B (p := fun x => x.says p q) l (by omega) (hbox l) fun y hy => ?_) fun n2 => ?_
      · refine FX.of' ⟨Ex.enc_closed y, hbox l⟩ trivial fun c R hR => B.eval2 _ _ _ _ _ ?_
        unfold F.expr_Eval_c2
        simp only [nd0, Y1n, Y1o, Y1p, Y1q, Y1w, Y1x, Y1y, Y1z, Y20, Y21, Y28, Y2a, AV.cells?, Nat.reduceAdd, Nat.reduceMul]
        have := Ex.wt_mem hy
        refine wCall.fx (ih y (by omega) (by omega) (Ex.fine_mem hfi.2 hy)) fun n2 => ?_
        exact hR _ _ rfl
      · exact hR _ _ (by rw [Ex.says, Ex.anyL_eq])
theorem Eval_spec (B : EvalBodies E P) {f g : AV} {p q : Str → Bool} (hf : Asks E P f p) (hg : Asks E P g q) : ∀ (n : Nat) (x : Ex), x.wt < n → x.wt ≤ 1000000 → x.fine → FX E P 158 [x.enc, f, g] (Bo (x.says p q)) := Eval_spec0 B.toEvalBodies0 hf hg
end
end Go.Sc
namespace Go.Sc
open Go
set_option linter.unusedSimpArgs false
set_option linter.unusedVariables false
/-! ### how deep -/
mutual
def Ex.dep : Ex → Nat
  | .not x => x.dep + 1
  | .and l => Ex.depL l + 1
  | .or l => Ex.depO l + 1
  | _ => 1
def Ex.depL : List Ex → Nat
  | [] => 0
  | x :: l => max x.dep (Ex.depL l)
def Ex.depO : List Ex → Nat
  | [] => 0
  | x :: l => max (if x.isAnd then x.dep - 1 else x.dep) (Ex.depO l)
end
def Ex.dA (x : Ex) : Nat := if x.isAnd then x.dep - 1 else x.dep
def Ex.dO (x : Ex) : Nat := if x.isOr then x.dep - 1 else x.dA
theorem Ex.depL_le {d : Nat} : ∀ {l : List Ex}, Ex.depL l ≤ d ↔ ∀ x ∈ l, x.dep ≤ d
  | [] => by simp [Ex.depL]
  | x :: l => by simp [Ex.depL, Ex.depL_le (l := l), Nat.max_le]
theorem Ex.depO_le {d : Nat} : ∀ {l : List Ex}, Ex.depO l ≤ d ↔ ∀ x ∈ l, x.dA ≤ d
  | [] => by simp [Ex.depO]
  | x :: l => by simp only [Ex.depO, Nat.max_le, Ex.depO_le (l := l), List.mem_cons, forall_eq_or_imp, Ex.dA]
/-! ### what stands behind -/
def T9 (r : Str) : Prop := r = [] ∨ ∃ c r', r = c :: r' ∧ (c = 32 ∨ c = 41)
def fnb (r : Str) : Option UInt8 := (r.dropWhile (· == 32)).head?
def TA (r : Str) : Prop := T9 r ∧ fnb r ≠ some 38
def TO (r : Str) : Prop := T9 r ∧ fnb r ≠ some 38 ∧ fnb r ≠ some 124
theorem at_app {pre r : Str} {k : Nat} : (pre ++ r)[pre.length + k]? = r[k]? := by rw [List.getElem?_append_right (by omega)]; congr 1; omega
theorem at_app0 {pre r : Str} : (pre ++ r)[pre.length]? = r[0]? := at_app (k := 0)
theorem take_drop {p : UInt8 → Bool} : ∀ r : Str, r[(r.takeWhile p).length]? = (r.dropWhile p).head?
  | [] => rfl
  | c :: r => by
    rw [List.takeWhile_cons, List.dropWhile_cons]
    split
    · simpa using take_drop r
    · simp
theorem skip_app (pre r : Str) : (pre ++ r)[skipTo (pre ++ r) pre.length]? = fnb r := by
  unfold skipTo
  rw [List.drop_left, at_app, take_drop]; rfl
theorem skip_stay {pre r : Str} (h : r[0]? ≠ some 32) : skipTo (pre ++ r) pre.length = pre.length := skipTo_stop (by rw [at_app0]; exact h)

/-! ### names -/
theorem nch_stop {c : UInt8} (h : nch c = true) : c ∉ stop9 := by
  have : ∀ i : Fin 256, nch (UInt8.ofNat i.val) = true → UInt8.ofNat i.val ∉ stop9 := by decide +kernel
  have h2 := this ⟨c.toNat, c.toNat_lt⟩
  simpa using h2 (by simpa using h)
theorem low_not {c : UInt8} (h : low c = true) : c ≠ 32 ∧ c ≠ 33 ∧ c ≠ 40 ∧ c ≠ 48 ∧ c ≠ 49 ∧ c ≠ 94 ∧ c ≠ 126 ∧ nch c = true := by
  refine ⟨?_, ?_, ?_, ?_, ?_, ?_, ?_, by simp [nch, h]⟩ <;> (rintro rfl; revert h; decide)
theorem name_chars {w : Str} (h : nameOk w = true) : ∃ c r, w = c :: r ∧ low c = true ∧ ∀ x ∈ w, nch x = true := by
  cases w with
  | nil => simp [nameOk] at h
  | cons c r =>
    simp only [nameOk, Bool.and_eq_true] at h
    refine ⟨c, r, rfl, h.1.1.1, fun x hx => ?_⟩
    rcases List.mem_cons.1 hx with rfl | hx
    · simp [nch, h.1.1.1]
    · exact List.all_eq_true.1 h.1.1.2 x hx
theorem T9_stop {r : Str} (h : T9 r) : ∀ c, r[0]? = some c → c ∈ stop9 := by
  rintro c hc
  rcases h with rfl | ⟨d, r', rfl, h⟩
  · simp at hc
  · simp at hc; subst hc
    rcases h with rfl | rfl <;> simp [stop9]
theorem wEnd_app {w : Str} (hw : nameOk w = true) (pre r : Str) (hr : T9 r) : ∀ (n k : Nat), k + n = w.length → wEnd (pre ++ w ++ r) pre.length (pre.length + k) = pre.length + w.length
  | 0, k, hk => by
    have hk' : k = w.length := by omega
    subst hk'
    refine wEnd_stop ?_
    unfold wc
    have e : (pre ++ w ++ r)[pre.length + w.length]? = r[0]? := by rw [List.append_assoc, at_app]; exact at_app0
    rw [e]
    cases h0 : r[0]? with
    | none => rfl
    | some c => simp [T9_stop hr c h0]
  | n + 1, k, hk => by
    have hkl : k < w.length := by omega
    have e : (pre ++ w ++ r)[pre.length + k]? = some w[k] := by
      rw [List.append_assoc, at_app, List.getElem?_append_left hkl, List.getElem?_eq_getElem hkl]
    obtain ⟨c0, r0, hc0, hlow, hall⟩ := name_chars hw
    have hwc : wc (pre ++ w ++ r) pre.length (pre.length + k) = true := by
      unfold wc
      rw [e]
      have h9 := nch_stop (hall w[k] (List.getElem_mem hkl))
      simp only [decide_eq_false h9, Bool.not_false, Bool.true_and]
      by_cases h0 : k = 0
      · subst h0
        have : w[0] = c0 := by subst hc0; rfl
        have hl := low_not hlow
        simp [this, hl.2.2.2.1, hl.2.2.2.2.1]
      · simp; left; omega
    rw [wEnd_step hwc]
    exact wEnd_app hw pre r hr n (k + 1) (by omega)
theorem wordR_app {w : Str} (hw : nameOk w = true) (pre r : Str) (hr : T9 r) : wordR (pre ++ w ++ r) pre.length = .ok w (pre.length + w.length) := by
  obtain ⟨c0, r0, hc0, hlow, hall⟩ := name_chars hw
  have hl := low_not hlow
  have hs : skipTo (pre ++ w ++ r) pre.length = pre.length := by
    rw [List.append_assoc]; refine skip_stay ?_
    subst hc0; simpa using hl.1
  have he : wEnd (pre ++ w ++ r) pre.length pre.length = pre.length + w.length := wEnd_app hw pre r hr w.length 0 (by omega)
  have hwd : wordAt (pre ++ w ++ r) pre.length = w := by
    unfold wordAt
    rw [he, List.append_assoc, List.take_append, List.take_of_length_le (by omega)]
    simp
  unfold wordR
  rw [hs, hwd, he, if_neg (by rw [hc0]; simp), if_neg (by rw [hw]; simp)]

/-! ### blanks ahead count for nothing -/
def Blk0 (F : Str → Nat → Rs Ex) : Prop := ∀ s i, s[i]? = some 32 → F s i = F s (i + 1)
theorem oneR_blk (d : Nat) : Blk0 (fun s => oneR s d) := by
  intro s i h
  cases d with
  | zero => simp only [oneR]; rw [skipTo_step h]
  | succ d => simp only [oneR]; rw [skipTo_step h]
theorem rowR_blk {c : UInt8} {F : Str → Nat → Rs Ex} (hF : Blk0 F) : ∀ (s : Str) (n i : Nat) (l : List Ex), s[i]? = some 32 → rowR s c (F s) (n + 1) i l = rowR s c (F s) (n + 1) (i + 1) l := by
  intro s n i l h
  simp only [rowR]
  rw [hF s i h]
theorem allR_blk {c : UInt8} {mk : List Ex → Ex} {F : Str → Nat → Rs Ex} (hF : Blk0 F) : Blk0 (fun s => allR s c mk (F s)) := by
  intro s i h
  simp only [allR]
  rw [rowR_blk hF s _ i _ h]
/-- F reads the text t as x, where what is behind is as T says -/
def Reads (F : Str → Nat → Rs Ex) (T : Str → Prop) (t : Str) (x : Ex) : Prop := ∀ pre r, T r → ∃ j, F (pre ++ t ++ r) pre.length = .ok x j ∧ skipTo (pre ++ t ++ r) j = skipTo (pre ++ t ++ r) (pre.length + t.length)
/-- a row of parts is read -/
theorem row_reads {F : Str → Nat → Rs Ex} {T Tp : Str → Prop} {c : UInt8} {u : Ex → Str} (hF : Blk0 F) (hc : c ≠ 32) (hTp : ∀ r, T r → Tp r) (hTs : ∀ r, Tp (32 :: c :: 32 :: r)) (hT : ∀ r, T r → fnb r ≠ some c) :
    ∀ (l : List Ex), l ≠ [] → (∀ x ∈ l, Reads F Tp (u x) x) → ∀ (n : Nat) (acc : List Ex) (pre r : Str), l.length ≤ n → T r →
      rowR (pre ++ joinS [32, c, 32] (l.map u) ++ r) c (F (pre ++ joinS [32, c, 32] (l.map u) ++ r)) n pre.length acc = .ok (acc ++ l) (skipTo (pre ++ joinS [32, c, 32] (l.map u) ++ r) (pre.length + (joinS [32, c, 32] (l.map u)).length))
  | [], h, _, _, _, _, _, _, _ => absurd rfl h
  | [x], _, hx, 0, _, _, _, hn, _ => by simp at hn
  | [x], _, hx, n + 1, acc, pre, r, hn, hr => by
    simp only [List.map_cons, List.map_nil, joinS, rowR]
    obtain ⟨j, hj1, hj2⟩ := hx x (by simp) pre r (hTp r hr)
    rw [hj1]
    simp only
    rw [hj2]
    have : (pre ++ u x ++ r)[skipTo (pre ++ u x ++ r) (pre.length + (u x).length)]? = fnb r := by
      have := skip_app (pre ++ u x) r
      rwa [List.length_append] at this
    rw [this, if_neg (hT r hr)]
  | x :: y :: l, _, hx, 0, _, _, _, hn, _ => by simp at hn
  | x :: y :: l, _, hx, n + 1, acc, pre, r, hn, hr => by
    have hj : joinS [32, c, 32] ((x :: y :: l).map u) = u x ++ [32, c, 32] ++ joinS [32, c, 32] ((y :: l).map u) := rfl
    rw [hj]
    generalize hJ : joinS [32, c, 32] ((y :: l).map u) = J
    have e1 : pre ++ (u x ++ [32, c, 32] ++ J) ++ r = pre ++ u x ++ (32 :: c :: 32 :: (J ++ r)) := by simp
    have e2 : pre ++ (u x ++ [32, c, 32] ++ J) ++ r = (pre ++ u x ++ [32, c, 32]) ++ J ++ r := by simp
    obtain ⟨jj, h0, h00⟩ := hx x (by simp) pre (32 :: c :: 32 :: (J ++ r)) (hTs _)
    rw [← e1] at h0 h00
    simp only [rowR]
    rw [h0]
    simp only
    rw [h00]
    have hsk : skipTo (pre ++ (u x ++ [32, c, 32] ++ J) ++ r) (pre.length + (u x).length) = pre.length + (u x).length + 1 := by
      rw [e1, ← List.length_append]
      rw [skipTo_step (by rw [at_app0]; rfl)]
      refine skipTo_stop ?_
      rw [at_app]; simpa using hc
    have hch : (pre ++ (u x ++ [32, c, 32] ++ J) ++ r)[pre.length + (u x).length + 1]? = some c := by
      rw [e1, ← List.length_append, at_app]; rfl
    rw [hsk, hch, if_pos rfl]
    have hb : (pre ++ (u x ++ [32, c, 32] ++ J) ++ r)[pre.length + (u x).length + 1 + 1]? = some 32 := by
      rw [e1, ← List.length_append, Nat.add_assoc, at_app]; rfl
    obtain ⟨n, rfl⟩ : ∃ k, n = k + 1 := ⟨n - 1, by simp at hn; omega⟩
    rw [rowR_blk hF _ _ _ _ hb]
    have ih := row_reads hF hc hTp hTs hT (y :: l) (by simp) (fun z hz => hx z (by simp at hz ⊢; exact .inr hz)) (n + 1) (acc ++ [x]) (pre ++ u x ++ [32, c, 32]) r (by simpa using hn) hr
    rw [hJ, ← e2] at ih
    have hl1 : (pre ++ u x ++ [32, c, 32]).length = pre.length + (u x).length + 1 + 1 + 1 := by simp; omega
    rw [hl1] at ih
    rw [ih]
    have hl2 : pre.length + (u x ++ [32, c, 32] ++ J).length = pre.length + (u x).length + 1 + 1 + 1 + J.length := by simp; omega
    rw [hl2]
    simp
theorem joinS_count (sep : Str) (hs : sep.length = 3) : ∀ l : List Str, l.length ≤ (joinS sep l).length + 1
  | [] => by simp
  | [x] => by simp
  | x :: y :: l => by
    have := joinS_count sep hs (y :: l)
    simp only [joinS, List.length_append, List.length_cons, hs] at this ⊢
    omega
theorem all_reads {F : Str → Nat → Rs Ex} {T Tp : Str → Prop} {c : UInt8} {mk : List Ex → Ex} {u : Ex → Str} (hF : Blk0 F) (hc : c ≠ 32) (hTp : ∀ r, T r → Tp r) (hTs : ∀ r, Tp (32 :: c :: 32 :: r)) (hT : ∀ r, T r → fnb r ≠ some c)
    (l : List Ex) (hl : l ≠ []) (hx : ∀ x ∈ l, Reads F Tp (u x) x) : Reads (fun s => allR s c mk (F s)) T (joinS [32, c, 32] (l.map u)) (foldR mk l) := by
  intro pre r hr
  have hn : l.length ≤ (pre ++ joinS [32, c, 32] (l.map u) ++ r).length + 1 := by
    have := joinS_count [32, c, 32] rfl (l.map u)
    simp only [List.length_append, List.length_map] at this ⊢
    omega
  have := row_reads hF hc hTp hTs hT l hl hx _ [] pre r hn hr
  refine ⟨_, ?_, skipTo_idem _ _⟩
  simp only [allR]
  rw [this]
  rfl
theorem TA_T9 : ∀ r, TA r → T9 r := fun _ h => h.1
theorem TO_TA : ∀ r, TO r → TA r := fun _ h => ⟨h.1, h.2.1⟩
theorem T9_sp (r : Str) : T9 (32 :: r) := .inr ⟨32, r, rfl, .inl rfl⟩
theorem TA_or (r : Str) : TA (32 :: 124 :: 32 :: r) := ⟨T9_sp _, by simp [fnb]⟩
theorem TO_close (r : Str) : TO (41 :: r) := ⟨.inr ⟨41, r, rfl, .inr rfl⟩, by simp [fnb], by simp [fnb]⟩
theorem andR_blk (d : Nat) : Blk0 (fun s => andR s (oneR s d)) := allR_blk (oneR_blk d)
theorem and_parts {d : Nat} {l : List Ex} (hl : 2 ≤ l.length) (hx : ∀ x ∈ l, Reads (fun s => oneR s d) T9 (x.wr 2) x) : Reads (fun s => andR s (oneR s d)) TA ((Ex.and l).wr 1) (.and l) := by
  have := all_reads (mk := .and) (oneR_blk d) (c := 38) (by decide) TA_T9 (fun r => T9_sp _) (fun r h => h.2) l (by intro e; rw [e] at hl; simp at hl) hx
  have e1 : (Ex.and l).wr 1 = joinS [32, 38, 32] (l.map (Ex.wr 2)) := by simp [Ex.wr, around, Ex.wrL_map]
  have e2 : foldR Ex.and l = .and l := by
    match l, hl with
    | x :: y :: r, _ => rfl
  rw [e2] at this
  rw [e1]
  exact this
theorem or_parts {d : Nat} {l : List Ex} (hl : 2 ≤ l.length) (hx : ∀ x ∈ l, Reads (fun s => andR s (oneR s d)) TA (x.wr 1) x) : Reads (fun s => orR s (oneR s d)) TO ((Ex.or l).wr 0) (.or l) := by
  have := all_reads (mk := .or) (andR_blk d) (c := 124) (by decide) TO_TA (fun r => TA_or _) (fun r h => h.2.2) l (by intro e; rw [e] at hl; simp at hl) hx
  have e1 : (Ex.or l).wr 0 = joinS [32, 124, 32] (l.map (Ex.wr 1)) := by simp [Ex.wr, around, Ex.wrL_map]
  have e2 : foldR Ex.or l = .or l := by
    match l, hl with
    | x :: y :: r, _ => rfl
  rw [e2] at this
  rw [e1]
  exact this
theorem and_one {d : Nat} {x : Ex} (h : Reads (fun s => oneR s d) T9 (x.wr 2) x) (hx : x.isAnd = false) : Reads (fun s => andR s (oneR s d)) TA (x.wr 1) x := by
  have := all_reads (mk := .and) (oneR_blk d) (c := 38) (by decide) TA_T9 (fun r => T9_sp _) (fun r h => h.2) (u := Ex.wr 2) [x] (by simp) (by simpa using h)
  have e1 : x.wr 1 = x.wr 2 := by rw [Ex.wr_one, Ex.wr_two, hx]; rfl
  rw [e1]
  exact this
theorem or_one {d : Nat} {x : Ex} (h : Reads (fun s => andR s (oneR s d)) TA (x.wr 1) x) (hx : x.isOr = false) : Reads (fun s => orR s (oneR s d)) TO (x.wr 0) x := by
  have := all_reads (mk := .or) (andR_blk d) (c := 124) (by decide) TO_TA (fun r => TA_or _) (fun r h => h.2.2) (u := Ex.wr 1) [x] (by simp) (by simpa using h)
  have e1 : x.wr 0 = x.wr 1 := by rw [Ex.wr_one, hx]; rfl
  rw [e1]
  exact this
theorem one_paren {d : Nat} {x : Ex} {t : Str} (h : Reads (fun s => orR s (oneR s d)) TO t x) : Reads (fun s => oneR s (d + 1)) T9 (40 :: t ++ [41]) x := by
  intro pre r hr
  have e1 : pre ++ (40 :: t ++ [41]) ++ r = (pre ++ [40]) ++ t ++ (41 :: r) := by simp
  have e0 : pre ++ (40 :: t ++ [41]) ++ r = pre ++ (40 :: (t ++ 41 :: r)) := by simp
  obtain ⟨j, h1, h2⟩ := h (pre ++ [40]) (41 :: r) (TO_close r)
  simp only at h1
  have hs : skipTo (pre ++ (40 :: t ++ [41]) ++ r) pre.length = pre.length := by rw [e0]; exact skip_stay (by simp)
  have h40 : (pre ++ (40 :: t ++ [41]) ++ r)[pre.length]? = some 40 := by rw [e0, at_app0]; rfl
  have e2 : (pre ++ [40] ++ t ++ (41 :: r)) = (pre ++ [40] ++ t) ++ (41 :: r) := rfl
  have h41 : (pre ++ [40] ++ t ++ (41 :: r))[(pre ++ [40]).length + t.length]? = some 41 := by
    rw [← List.length_append, at_app0]; rfl
  have hs2 : skipTo (pre ++ [40] ++ t ++ (41 :: r)) ((pre ++ [40]).length + t.length) = (pre ++ [40]).length + t.length := skipTo_stop (by rw [h41]; simp)
  rw [hs2] at h2
  refine ⟨(pre ++ [40]).length + t.length + 1, ?_, by simp; congr 1; omega⟩
  simp only [oneR]
  rw [hs, h40]
  simp only [show ((some (40 : UInt8) = some 33) = False) by simp, if_false, if_true]
  rw [e1]
  have hl : pre.length + 1 = (pre ++ [40]).length := by simp
  rw [hl, h1]
  simp only [closeR]
  rw [h2, h41, if_pos rfl]
theorem reads_all : ∀ (n : Nat) (x : Ex), x.wt < n → x.fine →
    (∀ d, x.dep ≤ d → Reads (fun s => oneR s d) T9 (x.wr 2) x) ∧ (∀ d, x.dA ≤ d → Reads (fun s => andR s (oneR s d)) TA (x.wr 1) x) ∧ (∀ d, x.dO ≤ d → Reads (fun s => orR s (oneR s d)) TO (x.wr 0) x) := by
  intro n
  induction n with
  | zero => intro x h; omega
  | succ n ih =>
    intro x hw hf
    have lift : x.isAnd = false → x.isOr = false → (∀ d, x.dep ≤ d → Reads (fun s => oneR s d) T9 (x.wr 2) x) → (∀ d, x.dep ≤ d → Reads (fun s => oneR s d) T9 (x.wr 2) x) ∧ (∀ d, x.dA ≤ d → Reads (fun s => andR s (oneR s d)) TA (x.wr 1) x) ∧ (∀ d, x.dO ≤ d → Reads (fun s => orR s (oneR s d)) TO (x.wr 0) x) := by
      intro h1 h2 h
      have hA : x.dA = x.dep := by simp [Ex.dA, h1]
      have hO : x.dO = x.dep := by simp [Ex.dO, h2, hA]
      rw [hA, hO]
      exact ⟨h, fun d hd => and_one (h d hd) h1, fun d hd => or_one (and_one (h d hd) h1) h2⟩
    cases x with
    | k b =>
      refine lift rfl rfl fun d hd pre r hr => ⟨_, ?_, rfl⟩
      obtain ⟨d, rfl⟩ : ∃ k, d = k + 1 := ⟨d - 1, by simp [Ex.dep] at hd; omega⟩
      have hs : skipTo (pre ++ (Ex.k b).wr 2 ++ r) pre.length = pre.length := by rw [List.append_assoc]; exact skip_stay (by cases b <;> simp [Ex.wr])
      have hc : (pre ++ (Ex.k b).wr 2 ++ r)[pre.length]? = some (if b then 49 else 48) := by rw [List.append_assoc, at_app0]; cases b <;> rfl
      simp only [oneR]
      rw [hs, hc]
      cases b <;> simp [Ex.wr]
    | bit w =>
      refine lift rfl rfl fun d hd pre r hr => ⟨_, ?_, rfl⟩
      obtain ⟨d, rfl⟩ : ∃ k, d = k + 1 := ⟨d - 1, by simp [Ex.dep] at hd; omega⟩
      obtain ⟨c0, r0, hc0, hlow, _⟩ := name_chars hf
      have hl := low_not hlow
      have hc : (pre ++ (Ex.bit w).wr 2 ++ r)[pre.length]? = some c0 := by rw [List.append_assoc, at_app0]; simp [Ex.wr, hc0]
      have hs : skipTo (pre ++ (Ex.bit w).wr 2 ++ r) pre.length = pre.length := skipTo_stop (by rw [hc]; simpa using hl.1)
      simp only [oneR]
      rw [hs, hc]
      simp only [Option.some.injEq, hl.2.1, hl.2.2.1, hl.2.2.2.1, hl.2.2.2.2.1, hl.2.2.2.2.2.1, hl.2.2.2.2.2.2.1, if_false]
      simp only [Ex.wr]
      rw [wordR_app hf pre r hr]
      rfl
    | rise w =>
      refine lift rfl rfl fun d hd pre r hr => ⟨_, ?_, rfl⟩
      obtain ⟨d, rfl⟩ : ∃ k, d = k + 1 := ⟨d - 1, by simp [Ex.dep] at hd; omega⟩
      have hc : (pre ++ (Ex.rise w).wr 2 ++ r)[pre.length]? = some 94 := by rw [List.append_assoc, at_app0]; rfl
      have hs : skipTo (pre ++ (Ex.rise w).wr 2 ++ r) pre.length = pre.length := skipTo_stop (by rw [hc]; simp)
      have e1 : pre ++ (Ex.rise w).wr 2 ++ r = (pre ++ [94]) ++ w ++ r := by simp [Ex.wr]
      simp only [oneR]
      rw [hs, hc]
      simp only [show (some (94 : UInt8) = some 33) = False by simp, show (some (94 : UInt8) = some 40) = False by simp, show (some (94 : UInt8) = some 48) = False by simp, show (some (94 : UInt8) = some 49) = False by simp, if_false, if_true]
      have hl : pre.length + 1 = (pre ++ [94]).length := by simp
      rw [e1, hl, wordR_app hf (pre ++ [94]) r hr]
      simp [Rs.map, Ex.wr]; omega
    | fall w =>
      refine lift rfl rfl fun d hd pre r hr => ⟨_, ?_, rfl⟩
      obtain ⟨d, rfl⟩ : ∃ k, d = k + 1 := ⟨d - 1, by simp [Ex.dep] at hd; omega⟩
      have hc : (pre ++ (Ex.fall w).wr 2 ++ r)[pre.length]? = some 126 := by rw [List.append_assoc, at_app0]; rfl
      have hs : skipTo (pre ++ (Ex.fall w).wr 2 ++ r) pre.length = pre.length := skipTo_stop (by rw [hc]; simp)
      have e1 : pre ++ (Ex.fall w).wr 2 ++ r = (pre ++ [126]) ++ w ++ r := by simp [Ex.wr]
      simp only [oneR]
      rw [hs, hc]
      simp only [show (some (126 : UInt8) = some 33) = False by simp, show (some (126 : UInt8) = some 40) = False by simp, show (some (126 : UInt8) = some 48) = False by simp, show (some (126 : UInt8) = some 49) = False by simp, show (some (126 : UInt8) = some 94) = False by simp, if_false, if_true]
      have hl : pre.length + 1 = (pre ++ [126]).length := by simp
      rw [e1, hl, wordR_app hf (pre ++ [126]) r hr]
      simp [Rs.map, Ex.wr]; omega
    | not y =>
      refine lift rfl rfl fun d hd pre r hr => ?_
      simp only [Ex.dep] at hd
      simp only [Ex.wt] at hw
      obtain ⟨d, rfl⟩ : ∃ k, d = k + 1 := ⟨d - 1, by omega⟩
      have hc : (pre ++ (Ex.not y).wr 2 ++ r)[pre.length]? = some 33 := by rw [List.append_assoc, at_app0]; rfl
      have hs : skipTo (pre ++ (Ex.not y).wr 2 ++ r) pre.length = pre.length := skipTo_stop (by rw [hc]; simp)
      have e1 : pre ++ (Ex.not y).wr 2 ++ r = (pre ++ [33]) ++ y.wr 2 ++ r := by simp [Ex.wr]
      obtain ⟨j, h1, h2⟩ := (ih y (by omega) hf).1 d (by omega) (pre ++ [33]) r hr
      simp only at h1
      refine ⟨j, ?_, ?_⟩
      · simp only [oneR]
        rw [hs, hc]
        simp only [if_true]
        have hl : pre.length + 1 = (pre ++ [33]).length := by simp
        rw [e1, hl, h1]
        rfl
      · rw [e1, h2]
        congr 1
        simp [Ex.wr]; omega
    | and l =>
      simp only [Ex.wt] at hw
      have hA : ∀ d, (Ex.and l).dA ≤ d → Reads (fun s => andR s (oneR s d)) TA ((Ex.and l).wr 1) (.and l) := fun d hd => and_parts hf.1 fun y hy => (ih y (by have := Ex.wt_mem hy; omega) (Ex.fine_mem hf.2 hy)).1 d (by
        have : Ex.depL l ≤ d := by simpa [Ex.dA, Ex.isAnd, Ex.dep] using hd
        exact Ex.depL_le.1 this y hy)
      have hO : ∀ d, (Ex.and l).dO ≤ d → Reads (fun s => orR s (oneR s d)) TO ((Ex.and l).wr 0) (.and l) := fun d hd => or_one (hA d (by simpa [Ex.dO, Ex.isOr] using hd)) rfl
      refine ⟨fun d hd => ?_, hA, hO⟩
      obtain ⟨d, rfl⟩ : ∃ k, d = k + 1 := ⟨d - 1, by simp only [Ex.dep] at hd; omega⟩
      have e : (Ex.and l).wr 2 = 40 :: (Ex.and l).wr 0 ++ [41] := by rw [Ex.wr_two]; rfl
      rw [e]
      exact one_paren (hO d (by simp [Ex.dO, Ex.isOr, Ex.dA, Ex.isAnd, Ex.dep] at hd ⊢; omega))
    | or l =>
      simp only [Ex.wt] at hw
      have hO : ∀ d, (Ex.or l).dO ≤ d → Reads (fun s => orR s (oneR s d)) TO ((Ex.or l).wr 0) (.or l) := fun d hd => or_parts hf.1 fun y hy => (ih y (by have := Ex.wt_mem hy; omega) (Ex.fine_mem hf.2 hy)).2.1 d (by
        have : Ex.depO l ≤ d := by simpa [Ex.dO, Ex.isOr, Ex.dep] using hd
        exact Ex.depO_le.1 this y hy)
      have h1 : ∀ d, (Ex.or l).dep ≤ d → Reads (fun s => oneR s d) T9 ((Ex.or l).wr 2) (.or l) := fun d hd => by
        obtain ⟨d, rfl⟩ : ∃ k, d = k + 1 := ⟨d - 1, by simp only [Ex.dep] at hd; omega⟩
        have e : (Ex.or l).wr 2 = 40 :: (Ex.or l).wr 0 ++ [41] := by rw [Ex.wr_two]; rfl
        rw [e]
        exact one_paren (hO d (by simp [Ex.dO, Ex.isOr, Ex.dep] at hd ⊢; omega))
      exact ⟨h1, fun d hd => and_one (h1 d (by simpa [Ex.dA, Ex.isAnd] using hd)) rfl, hO⟩
/-- what a text tells is the expression again -/
theorem orR_text {x : Ex} (hf : x.fine) {d : Nat} (hd : x.dO ≤ d) : ∃ j, orR (x.wr 0) (oneR (x.wr 0) d) 0 = .ok x j ∧ skipTo (x.wr 0) j = (x.wr 0).length := by
  obtain ⟨j, h1, h2⟩ := (reads_all (x.wt + 1) x (by omega) hf).2.2 d hd [] [] ⟨.inl rfl, by simp [fnb], by simp [fnb]⟩
  simp only [List.nil_append, List.append_nil, List.length_nil, Nat.zero_add] at h1 h2
  refine ⟨j, h1, h2.trans (skipTo_stop (by rw [List.getElem?_eq_none (by omega)]; simp))⟩
theorem parse_text {x : Ex} (hf : x.fine) (hd : x.dO ≤ 20) : parseR (x.wr 0) = .ok x (x.wr 0).length := by
  obtain ⟨j, h1, h2⟩ := orR_text hf hd
  unfold parseR
  rw [h1]
  simp only
  rw [h2, if_neg (by omega)]
end Go.Sc
namespace Go.Sc
open Go
set_option linter.unusedSimpArgs false
set_option linter.unusedVariables false
set_option linter.unnecessarySimpa false
structure SizeBodies (E : Env) (P : Program) : Prop where
  size : Body1 E P 156 F.expr_Size
  size1 : Body2 E P 160 F.expr_Size_c1
  walk : Body2 E P 161 F.expr_walk
section
variable {E : Env} {P : Program}
theorem size1_spec (B : SizeBodies E P) (y : Ex) (n : Nat) (hn : n < 1000000000) : PC E P 160 1 [Z n] (fun b g => [y.enc, .ptrL b 0 g]) (fun r cs => r = .tup [] ∧ cs = [Z ((n + 1 : Nat) : Int)]) := by
  refine PC.of (fun f g => by simp only [AV.renL, AV.ren, AV.ren_closed _ (Ex.enc_closed y)]) ⟨trivial, trivial⟩ (by rintro r cs ⟨rfl, rfl⟩; exact ⟨trivial, trivial, trivial⟩) fun c g R hR => B.size1 _ _ _ _ ?_
  unfold F.expr_Size_c1
  simp only [nd0, Y1n, Y1o, Y1p, Y1q, Y1w, Y1x, Y1y, Y1z, Y20, Y21, Y28, Y2a, AV.cells?, Nat.reduceAdd, Nat.reduceMul]
  rw [binA_succ (by omega)]
  simp only [nd0, Y1n, Y1o, Y1p, Y1q, Y1w, Y1x, Y1y, Y1z, Y20, Y21, Y28, Y2a, AV.cells?, Nat.reduceAdd, Nat.reduceMul]
  rw [store1_L rfl]
  simp only [nd0, Y1n, Y1o, Y1p, Y1q, Y1w, Y1x, Y1y, Y1z, Y20, Y21, Y28, Y2a, AV.cells?, Nat.reduceAdd, Nat.reduceMul, Nat.reduceLT]
  exact hR _ _ [Z ((n + 1 : Nat) : Int)] [] c (.same _) ⟨rfl, rfl⟩
theorem walkL_spec (B : SizeBodies E P) (l : List Ex) (hl : ∀ x ∈ l, ∀ n : Nat, n + x.size < 1000000000 → PC E P 161 1 [Z n] (fun b g => [x.enc, .fn 160 [] [.ptrL b 0 g]]) (fun r cs => r = .tup [] ∧ cs = [Z ((n + x.size : Nat) : Int)])) (hlen : l.length < 1000000000) (n : Nat) (hn : n + Ex.sizeL l < 1000000000) {g c : Nat} {R : Kt} (rest : List Blk)
    (hR : ∀ c, R (.tup []) ⟨.cells g 1 [Z ((n + Ex.sizeL l : Nat) : Int)] :: rest, c⟩) :
    wLoop 1 (fun I1 => I1 (Z 0) ⟨.cells g 1 [Z n] :: rest, c⟩) fun I1 t27 H =>
      wGet (binA .lss t27 (Z l.length)) H fun t28 H =>
      wIf t28 (
        wGet (iaddr 1 (.slN (Ex.encL l) l.length) t27) H fun t29 H =>
        wGet (load1 t29 H) H fun t30 H =>
        wCall E P 161 [t30, .fn 160 [] [.ptrL 0 0 g]] H fun t33 H =>
        wGet (binA .add t27 (.val (.int .i64 1))) H fun t34 H =>
        I1 t34 H) (
        R (.tup []) H) := by
  refine wLoop.one (fun m i H => ∃ pre r c, l = pre ++ r ∧ i = Z pre.length ∧ m = r.length ∧ H = ⟨.cells g 1 [Z ((n + Ex.sizeL pre : Nat) : Int)] :: rest, c⟩) l.length (gh1.mk ⟨[], l, c, rfl, rfl, rfl, by simp [Ex.sizeL]⟩) ?_
  rintro m i H ⟨pre, r, c, rfl, rfl, rfl, rfl⟩
  have happ : ∀ a b : List Ex, Ex.sizeL (a ++ b) = Ex.sizeL a + Ex.sizeL b := fun a b => by
    induction a with
    | nil => simp [Ex.sizeL]
    | cons x a ih => simp only [List.cons_append, Ex.sizeL, ih]; omega
  cases r with
  | nil =>
    rw [List.append_nil] at hR ⊢
    simp only [nd0, Y1n, Y1o, Y1p, Y1q, Y1w, Y1x, Y1y, Y1z, Y20, Y21, Y28, Y2a, AV.cells?, Nat.reduceAdd, Nat.reduceMul, Int.lt_irrefl]
    exact hR c
  | cons x r =>
    rw [happ] at hn
    simp only [Ex.sizeL] at hn
    simp only [nd0, Y1n, Y1o, Y1p, Y1q, Y1w, Y1x, Y1y, Y1z, Y20, Y21, Y28, Y2a, AV.cells?, Nat.reduceAdd, Nat.reduceMul, decide_eq_true (show (pre.length : Int) < ((pre ++ x :: r).length : Int) by simp; omega)]
    rw [iaddr_Nn lt_mid]
    simp only [nd0, Y1n, Y1o, Y1p, Y1q, Y1w, Y1x, Y1y, Y1z, Y20, Y21, Y28, Y2a, AV.cells?, Nat.reduceAdd, Nat.reduceMul, show (Ex.encL (pre ++ x :: r))[pre.length]? = some x.enc by rw [Ex.encL_map]; simp]
    refine wCall.pc (b := 0) (hl x (by simp) (n + Ex.sizeL pre) (by omega)) rfl rfl ?_
    rintro rr cs n3 ⟨rfl, rfl⟩
    rw [binA_succ (by simp at hlen; omega)]
    simp only [nd0, Y1n, Y1o, Y1p, Y1q, Y1w, Y1x, Y1y, Y1z, Y20, Y21, Y28, Y2a, AV.cells?, Nat.reduceAdd, Nat.reduceMul]
    refine back1.mk r.length (by simp) ⟨pre ++ [x], r, n3, by simp, by simp, rfl, ?_⟩
    rw [happ]
    simp only [Ex.sizeL]
    congr 5; omega
theorem walk_spec (B : SizeBodies E P) : ∀ (k : Nat) (x : Ex), x.wt < k → x.wt ≤ 1000000 → x.fine → ∀ n : Nat, n + x.size < 1000000000 → PC E P 161 1 [Z n] (fun b g => [x.enc, .fn 160 [] [.ptrL b 0 g]]) (fun r cs => r = .tup [] ∧ cs = [Z ((n + x.size : Nat) : Int)]) := by
  intro k
  induction k with
  | zero => intro x h; omega
  | succ k ih =>
    intro x hx hw hf n hn
    refine PC.of (fun f g => by simp only [AV.renL, AV.ren, AV.ren_closed _ (Ex.enc_closed x)]) ⟨trivial, trivial⟩ (by rintro r cs ⟨rfl, rfl⟩; exact ⟨trivial, trivial, trivial⟩) fun c g R hR => B.walk _ _ _ _ ?_
    unfold F.expr_walk
    have h1 : 1 ≤ x.size := by cases x <;> simp [Ex.size]
    refine wCallV.pc (b := 0) (size1_spec B x n (by omega)) rfl rfl ?_
    rintro r cs c2 ⟨rfl, rfl⟩
    have fin : ∀ rest c, x.size = 1 → R (.tup []) ⟨.cells g 1 [Z ((n + 1 : Nat) : Int)] :: rest, c⟩ := fun rest c h => hR _ _ _ rest c (.same _) ⟨rfl, by rw [h]⟩
    cases x with
    | k b => simp only [Ex.enc]; simp only [nd0, Y1n, Y1o, Y1p, Y1q, Y1w, Y1x, Y1y, Y1z, Y20, Y21, Y28, Y2a, AV.cells?, Nat.reduceAdd, Nat.reduceMul, asA, show (11 : Nat) = 10 ↔ False by decide, show (11 : Nat) = 9 ↔ False by decide, show (11 : Nat) = 8 ↔ False by decide]; exact fin [] c2 rfl
    | bit b => simp only [Ex.enc]; simp only [nd0, Y1n, Y1o, Y1p, Y1q, Y1w, Y1x, Y1y, Y1z, Y20, Y21, Y28, Y2a, AV.cells?, Nat.reduceAdd, Nat.reduceMul, asA, show (14 : Nat) = 10 ↔ False by decide, show (14 : Nat) = 9 ↔ False by decide, show (14 : Nat) = 8 ↔ False by decide]; exact fin [] c2 rfl
    | rise b => simp only [Ex.enc]; simp only [nd0, Y1n, Y1o, Y1p, Y1q, Y1w, Y1x, Y1y, Y1z, Y20, Y21, Y28, Y2a, AV.cells?, Nat.reduceAdd, Nat.reduceMul, asA, show (12 : Nat) = 10 ↔ False by decide, show (12 : Nat) = 9 ↔ False by decide, show (12 : Nat) = 8 ↔ False by decide]; exact fin [] c2 rfl
    | fall b => simp only [Ex.enc]; simp only [nd0, Y1n, Y1o, Y1p, Y1q, Y1w, Y1x, Y1y, Y1z, Y20, Y21, Y28, Y2a, AV.cells?, Nat.reduceAdd, Nat.reduceMul, asA, show (13 : Nat) = 10 ↔ False by decide, show (13 : Nat) = 9 ↔ False by decide, show (13 : Nat) = 8 ↔ False by decide]; exact fin [] c2 rfl
    | not y =>
      simp only [Ex.enc]
      simp only [Ex.wt] at hw hx
      simp only [Ex.size] at hn hR
      simp only [nd0, Y1n, Y1o, Y1p, Y1q, Y1w, Y1x, Y1y, Y1z, Y20, Y21, Y28, Y2a, AV.cells?, Nat.reduceAdd, Nat.reduceMul, asA, show (10 : Nat) = 10 ↔ True by decide]
      refine wNew.L (l := [nilE]) rfl ?_
      simp only [nd0, Y1n, Y1o, Y1p, Y1q, Y1w, Y1x, Y1y, Y1z, Y20, Y21, Y28, Y2a, AV.cells?, Nat.reduceAdd, Nat.reduceMul]
      rw [storeN_L (n := 1) (xs := [y.enc]) rfl (by simp [Ex.enc_scalar])]
      simp only [nd0, Y1n, Y1o, Y1p, Y1q, Y1w, Y1x, Y1y, Y1z, Y20, Y21, Y28, Y2a, AV.cells?, Nat.reduceAdd, Nat.reduceMul, show putL [nilE] 0 [y.enc] = some [y.enc] from rfl]
      refine wCall.pc (b := 0) (ih y (by omega) (by omega) hf (n + 1) (by omega)) rfl rfl ?_
      rintro r cs c3 ⟨rfl, rfl⟩
      refine hR _ _ _ _ c3 (.same _) ⟨rfl, ?_⟩
      congr 3; omega
    | and l =>
      simp only [Ex.enc]
      simp only [Ex.wt] at hw hx
      simp only [Ex.size] at hn hR
      have hll := Ex.len_wtL hf.2
      simp only [nd0, Y1n, Y1o, Y1p, Y1q, Y1w, Y1x, Y1y, Y1z, Y20, Y21, Y28, Y2a, AV.cells?, Nat.reduceAdd, Nat.reduceMul, asA, show (9 : Nat) = 10 ↔ False by decide, show (9 : Nat) = 9 ↔ True by decide]
      refine walkL_spec B l (fun y hy => ih y (by have := Ex.wt_mem hy; omega) (by have := Ex.wt_mem hy; omega) (Ex.fine_mem hf.2 hy)) (by omega) (n + 1) (by omega) [] fun c => ?_
      refine hR _ _ _ [] c (.same _) ⟨rfl, ?_⟩
      congr 3; omega
    | or l =>
      simp only [Ex.enc]
      simp only [Ex.wt] at hw hx
      simp only [Ex.size] at hn hR
      have hll := Ex.len_wtL hf.2
      simp only [nd0, Y1n, Y1o, Y1p, Y1q, Y1w, Y1x, Y1y, Y1z, Y20, Y21, Y28, Y2a, AV.cells?, Nat.reduceAdd, Nat.reduceMul, asA, show (8 : Nat) = 10 ↔ False by decide, show (8 : Nat) = 9 ↔ False by decide, show (8 : Nat) = 8 ↔ True by decide]
      refine walkL_spec B l (fun y hy => ih y (by have := Ex.wt_mem hy; omega) (by have := Ex.wt_mem hy; omega) (Ex.fine_mem hf.2 hy)) (by omega) (n + 1) (by omega) [] fun c => ?_
      refine hR _ _ _ [] c (.same _) ⟨rfl, ?_⟩
      congr 3; omega
theorem Size_spec (B : SizeBodies E P) (x : Ex) (hw : x.wt ≤ 1000000) (hf : x.fine) : FX E P 156 [x.enc] (Z x.size) := by
  refine FX.of' ⟨Ex.enc_closed x, trivial⟩ trivial fun n R hR => B.size _ _ _ ?_
  unfold F.expr_Size
  refine wNew.L (l := [Z 0]) rfl ?_
  simp only [nd0, Y1n, Y1o, Y1p, Y1q, Y1w, Y1x, Y1y, Y1z, Y20, Y21, Y28, Y2a, AV.cells?, Nat.reduceAdd, Nat.reduceMul]
  rw [store1_L rfl]
  simp only [nd0, Y1n, Y1o, Y1p, Y1q, Y1w, Y1x, Y1y, Y1z, Y20, Y21, Y28, Y2a, AV.cells?, Nat.reduceAdd, Nat.reduceMul, Nat.reduceLT]
  have := Ex.size_wt x hf
  refine wCall.pc (b := 0) (walk_spec B (x.wt + 1) x (by omega) hw hf 0 (by omega)) rfl rfl ?_
  rintro r cs c2 ⟨rfl, rfl⟩
  simp only [nd0, Y1n, Y1o, Y1p, Y1q, Y1w, Y1x, Y1y, Y1z, Y20, Y21, Y28, Y2a, AV.cells?, Nat.reduceAdd, Nat.reduceMul]
  exact hR _ _ (by simp)
end
/-! ### a fact: an expression of two -/
section
variable {E : Env} {P : Program}
end
end Go.Sc
namespace Go.Sc
set_option linter.unusedSimpArgs false
open Go Go.RowKit
section
variable {E : Env} {P : Program}
theorem indexByte_idx (c : UInt8) : ∀ s : Str, Lib.indexByte s c = idx s c
  | [] => by simp [Lib.indexByte, idx]
  | x :: s => by
    have ih := indexByte_idx c s
    unfold Lib.indexByte
    by_cases h : x = c
    · subst h; simp [idx]
    · have h' : ¬ c = x := fun e => h e.symm
      have hb : (x == c) = false := by simpa using h
      by_cases hm : c ∈ s
      · simp [idx, hm, h, h', ih, List.idxOf_cons, hb] <;> omega
      · simp [idx, hm, h, h', ih]
theorem FX.indexByte {k : Nat} {fn : Func} (hf : P.funcs[E.fn k]? = some fn) (hn : (fn.name == "runtime.NumGoroutine") = false) (hb : fn.body.isNone = false)
    (h : ∀ (s : ByteArray) (c : Int) (w : World), Calls P (E.fn k) #[.string s, .int .u8 c] w fun e w' => e = .returned (.int .i64 (Lib.indexByte s.data.toList c.toNat.toUInt8)) ∧ w' = w) (s : Str) (c : UInt8) : FX E P k [S s, By c] (Z (idx s c)) := by
  refine FX.ofCalls hf hn hb (by simp [AV.closedL, AV.closed]) (by simp [AV.flat]) (by simp [AV.closed]) fun cx vs _ _ hv => ?_
  simp only [LRel, VRel] at hv
  obtain ⟨v0, _, rfl, rfl, v1, _, rfl, rfl, rfl⟩ := hv
  refine (h ⟨s.toArray⟩ c.toNat cx.w).mono ?_
  rintro e w' ⟨rfl, rfl⟩
  refine ⟨_, rfl, Below.refl _ _, ?_⟩
  have e1 : (((c.toNat : Nat) : Int).toNat).toUInt8 = c := by simp
  rw [e1, indexByte_idx]
  simp [VRel]
end
end Go.Sc
namespace Go.Sc
open Go Go.RowKit Go.Sort Go.Proofs
set_option linter.unusedSimpArgs false
set_option linter.unusedVariables false
section
variable {E : Env} {P : Program} {c : Cx} {H : AH}
theorem HRel.more (h : HRel E c H) (os : Array Obj) : HRel E { c with w := grow c.w os } H ∧ Later c { c with w := grow c.w os } := by
  have hsame : ∀ k, k < c.w.heap.size → (grow c.w os).heap[k]? = c.w.heap[k]? := fun k hk => by
    show (c.w.heap ++ os)[k]? = _
    rw [Array.getElem?_append_left hk]
  have hsz : c.w.heap.size ≤ (grow c.w os).heap.size := by show c.w.heap.size ≤ (c.w.heap ++ os).size; simp
  have hL : Later c { c with w := grow c.w os } := {
    le := ⟨Nat.le_refl _, fun b hb => ⟨hb, hsame b (h.fzlt b hb)⟩, fun k j hk => ⟨.inr hk, cell_of_heap (hsame k (h.fclt k j hk)) _ _⟩, fun b g _ e => ⟨e, rfl, rfl, rfl, rfl⟩, fun _ _ _ _ _ hj => hj⟩
    os := rfl
    tape := rfl
    output := rfl
    size := hsz
    keep := fun k hk _ => hsame k hk
    own := fun b hb => .inl ⟨b, hb, rfl⟩
    fz := fun k hk => .inl hk
    fc := fun k j hk => .inl hk }
  exact ⟨⟨h.ctr, h.out, fun b x e => (h.blk b x e).mono hL.le rfl rfl rfl rfl rfl (fun hd => hsame _ (h.lt b (h.live' e hd))), h.apart, h.solid, h.inj, fun b hb => Nat.lt_of_lt_of_le (h.lt b hb) hsz, fun b hb => Nat.lt_of_lt_of_le (h.fzlt b hb) hsz, fun b j hb => Nat.lt_of_lt_of_le (h.fclt b j hb) hsz, h.globLe hL.le⟩, hL⟩
theorem rel_texts : ∀ {l : List Str} {vs : List Value}, LRel E c (l.map fun s => S s) vs → vs = l.map encStr
  | [], vs, h => by simpa [LRel] using h
  | s :: l, vs, h => by
    simp only [List.map_cons, LRel] at h
    obtain ⟨u, us, rfl, hu, h⟩ := h
    simp only [VRel] at hu
    rw [rel_texts h, hu]
    rfl
theorem texts_rel : ∀ {l : List Str}, LRel E c (l.map fun s => S s) (l.map encStr)
  | [] => by simp [LRel]
  | s :: l => by simp only [List.map_cons, LRel]; exact ⟨_, _, rfl, by simp only [VRel], texts_rel⟩
/-- where a row of texts lies -/
theorem HRel.row (h : HRel E c H) {b g : Nat} {l : List Str} (hb : H.bs[b]? = some (.cells g 1 (l.map fun s => S s))) : ∃ p0 rest e, c.w.heap[c.al b]? = some (.cells (p0 ++ l.map encStr ++ rest).toArray e (0, 0)) ∧ p0.length = c.base b ∧ c.gen b = some g ∧ c.sz b = 1 ∧ c.csz b = (p0 ++ l.map encStr ++ rest).length := by
  have hB := h.blk b _ hb
  simp only [BRel] at hB
  obtain ⟨h1, h2, h3, arr, e, h4, h5, p0, pre, rest, rfl, h7, h8⟩ := hB
  have := rel_texts h8
  subst this
  exact ⟨p0, rest, e, h4, h7, h2, h3, h5⟩
theorem HRel.holds (h : HRel E c H) {b g : Nat} {l : List Str} (hb : H.bs[b]? = some (.cells g 1 (l.map fun s => S s))) : Holds encStr c.w (c.al b) (c.base b) l.toArray := by
  obtain ⟨p0, rest, e, h4, h7, -⟩ := h.row hb
  intro j hj
  simp at hj
  rw [← h7]
  refine ⟨?_, ?_⟩
  · simp only [World.cell?, h4]
    simp [List.getElem?_append_right, List.getElem?_append_left, hj]
  · simp [World.frozen?, h4]
theorem HRel.putTexts (h : HRel E c H) {b g : Nat} {l l' : List Str} (hl : l'.length = l.length) (hb : H.bs[b]? = some (.cells g 1 (l.map fun s => S s))) (q : Nat) (os : Array Obj) :
    HRel E { c with w := grow (putRow encStr (Sort.ahead c.w q) (c.al b) (c.base b) l'.toArray) os } ⟨H.bs.set b (.cells g 1 (l'.map fun s => S s)), H.ctr⟩ ∧ Later c { c with w := grow (putRow encStr (Sort.ahead c.w q) (c.al b) (c.base b) l'.toArray) os } := by
  obtain ⟨p0, rest, e, h4, h7, -⟩ := h.row hb
  have hlt := h.lt (b := b) (h.live' hb)
  have hheap : (putRow encStr (Sort.ahead c.w q) (c.al b) (c.base b) l'.toArray).heap = c.w.heap.setIfInBounds (c.al b) (.cells (p0 ++ l'.map encStr ++ rest).toArray e (0, 0)) := by
    have hput : putCells encStr (c.base b) l'.toArray (p0 ++ l.map encStr ++ rest).toArray = (p0 ++ l'.map encStr ++ rest).toArray := by
      apply Array.ext_getElem?
      intro k
      unfold putCells
      simp only [Array.getElem?_mapIdx, List.size_toArray, List.getElem?_toArray, ← h7]
      by_cases h1 : k < p0.length
      · rw [List.append_assoc, List.append_assoc, List.getElem?_append_left h1, List.getElem?_append_left h1]
        have : ¬ (p0.length ≤ k ∧ k < p0.length + l'.length) := by omega
        simp only [if_neg this]
        cases p0[k]? <;> rfl
      · by_cases h2 : k < p0.length + l'.length
        · have e1 : (p0 ++ l'.map encStr ++ rest)[k]? = some (encStr (l'[k - p0.length]'(by omega))) := by
            rw [List.getElem?_append_left (by simp; omega), List.getElem?_append_right (by omega), List.getElem?_map, List.getElem?_eq_getElem (by omega)]; rfl
          have e2 : ∃ v, (p0 ++ l.map encStr ++ rest)[k]? = some v := ⟨_, List.getElem?_eq_getElem (by simp; omega)⟩
          obtain ⟨v, e2⟩ := e2
          rw [e1, e2]
          have : (p0.length ≤ k ∧ k < p0.length + l'.length) := by omega
          simp only [Option.map_some, if_pos this]
          congr 2
          simp [getElem!_pos, show k - p0.length < l'.length by omega]
        · have : ¬ (p0.length ≤ k ∧ k < p0.length + l'.length) := by omega
          simp only [if_neg this]
          rw [List.getElem?_append_right (by simp; omega), List.getElem?_append_right (by simp; omega)]
          simp only [List.length_append, List.length_map, hl]
          cases rest[k - (p0.length + l.length)]? <;> rfl
    apply Array.ext_getElem?
    intro k
    unfold putRow mapBlock
    show (c.w.heap.modify (c.al b) _)[k]? = _
    rw [Array.getElem?_modify, Array.getElem?_setIfInBounds]
    by_cases hk : c.al b = k
    · subst hk
      rw [if_pos rfl, if_pos rfl, h4, if_pos hlt]
      simp only [Option.map_some, onCells, hput]
    · rw [if_neg hk, if_neg hk]
  obtain ⟨k1, k2⟩ := h.setRow (w' := putRow encStr (Sort.ahead c.w q) (c.al b) (c.base b) l'.toArray) hb h4 h7 (pre' := l'.map encStr) (by simp [hl]) texts_rel hheap rfl rfl rfl
  obtain ⟨k3, k4⟩ := k1.more os
  exact ⟨k3, k2.trans k4⟩
/-- a walk of the kit's, as a call of ours -/
theorem ACalls.ofWalk {k : Nat} {fn : Func} {args : List AV} {R : Kt} (hf : P.funcs[E.fn k]? = some fn) (hn : (fn.name == "runtime.NumGoroutine") = false) (hb : fn.body.isNone = false)
    (h : ∀ (c : Cx) (vs : List Value), HRel E c H → LRel E c args vs → Calls P (E.fn k) vs.toArray c.w fun e w' => ∃ v r c' H', e = .returned v ∧ c'.w = w' ∧ R r H' ∧ HRel E c' H' ∧ VRel E c' r v ∧ Later c c') : ACalls E P k args H R := by
  intro c vs hH hv o a next Q hnext
  have hrun : (callFunc (E.fn k) vs.toArray).run P c.w = .ok (.enter (E.fn k) vs.toArray) c.w := by
    have hn' : ¬ ((fn.name == "runtime.NumGoroutine") = true) := by rw [hn]; simp
    have hb' : ¬ (fn.body.isNone = true) := by rw [hb]; simp
    simp only [callFunc, Sem.run_bind, run_program, Result.andThen_ok, hf, if_neg hn', if_neg hb', Sem.run_pure]
  rw [hrun]
  simp only [Oper.upon]
  refine (h c vs hH hv).mono ?_
  rintro e w' ⟨v, r, c', H', rfl, h1, h2, h3, h4, h5⟩
  exact hnext v w' ⟨r, c', H', h1, h2, h3, h4, h5⟩
def sortS (l : List Str) : List Str := l.mergeSort fun x y => decide (x ≤ y)
theorem sortS_length (l : List Str) : (sortS l).length = l.length := by simp [sortS]
/-- slices.Sort of texts -/
theorem sort_calls {k : Nat} {fn : Func} (hf : P.funcs[E.fn k]? = some fn) (hn : (fn.name == "runtime.NumGoroutine") = false) (hbd : fn.body.isNone = false)
    (h0 : ∀ (p : Option Addr) (cap : Nat) (w : World), Calls P (E.fn k) #[.slice p 0 cap] w fun e w' => e = .returned (.tuple #[]) ∧ w' = w)
    (h1 : ∀ (blk off cap : Nat) (ss : List (List UInt8)) (w : World), Holds encStr w blk off ss.toArray → blk < w.heap.size → ss.length < 4611686018427387904 → Calls P (E.fn k) #[.slice (some ⟨blk, off, none⟩) ss.length cap] w fun e w' =>
      e = .returned (.tuple #[]) ∧ ∃ n os, w' = grow (putRow encStr (Sort.ahead w n) blk off (ss.mergeSort fun x y => decide (x ≤ y)).toArray) os)
    {b g : Nat} {l : List Str} (hl : l.length < 4611686018427387904) (hb : H.bs[b]? = some (.cells g 1 (l.map fun s => S s))) : ACalls E P k [.slL b 0 l.length g] H fun r H' => r = .tup [] ∧ H' = ⟨H.bs.set b (.cells g 1 ((sortS l).map fun s => S s)), H.ctr⟩ := by
  refine ACalls.ofWalk hf hn hbd fun c vs hH hv => ?_
  obtain ⟨v, rfl, hr⟩ := hv.one'
  simp only [VRel] at hr
  obtain ⟨_, p, cap, rfl, hcap, hp⟩ := hr
  obtain ⟨p0, rest, e, h4, h7, hg, _⟩ := hH.row hb
  rcases hp hg with hz | ⟨rfl, _⟩
  · subst hz
    have hl0 : l = [] := List.eq_nil_of_length_eq_zero (by omega)
    subst hl0
    refine (h0 (some p) 0 c.w).mono ?_
    rintro e w' ⟨rfl, rfl⟩
    obtain ⟨k1, k2⟩ := hH.more #[]
    refine ⟨_, .tup [], c, H, rfl, rfl, ⟨rfl, ?_⟩, hH, by simp [VRel, LRel], Later.refl c⟩
    have : sortS [] = [] := by simp [sortS]
    rw [this]
    have hlt := lt_of_get hb
    have : H.bs[b] = .cells g 1 (([] : List Str).map fun s => S s) := by rw [List.getElem?_eq_getElem hlt] at hb; injection hb
    rw [← this, List.set_getElem_self]
  · refine (h1 (c.al b) (c.base b) cap l c.w (hH.holds hb) (hH.lt b (hH.live' hb)) hl).mono ?_
    rintro e w' ⟨rfl, n, os, rfl⟩
    obtain ⟨k1, k2⟩ := hH.putTexts (l' := sortS l) (sortS_length l) hb n os
    exact ⟨_, .tup [], _, _, rfl, rfl, ⟨rfl, rfl⟩, k1, by simp [VRel, LRel], k2⟩
def packS (l : List Str) : List Str := Lib.compact l
theorem packS_length (l : List Str) : (packS l).length ≤ l.length := by
  have h := List.length_filter_le (Lib.keeps l.toArray) (List.range l.length)
  simp only [packS, Lib.compact, Lib.compactUpTo, List.length_map]
  simpa using h
theorem packS_mem {l : List Str} {x : Str} : x ∈ packS l ↔ x ∈ l := by
  simp only [packS, Lib.compact, Lib.compactUpTo, List.mem_map, List.mem_filter, List.mem_range]
  constructor
  · rintro ⟨j, ⟨hj, _⟩, rfl⟩
    have : (l.toArray)[j]! = l[j] := by simp [getElem!_pos, hj]
    rw [this]; exact List.getElem_mem hj
  · intro hx
    obtain ⟨j, hj, rfl⟩ := List.getElem_of_mem hx
    induction j with
    | zero => exact ⟨0, ⟨hj, by simp [Lib.keeps]⟩, by simp [getElem!_pos, hj]⟩
    | succ j ih =>
      by_cases hk : Lib.keeps l.toArray (j + 1) = true
      · exact ⟨j + 1, ⟨hj, hk⟩, by simp [getElem!_pos, hj]⟩
      · have heq : (l.toArray)[j + 1]! = (l.toArray)[j]! := by
          simp only [Lib.keeps] at hk
          simpa using hk
        have h1 : (l.toArray)[j + 1]! = l[j + 1] := by simp [getElem!_pos, hj]
        have h2 : (l.toArray)[j]! = l[j] := by simp [getElem!_pos, show j < l.length by omega]
        obtain ⟨i, hi, he⟩ := ih (by omega) (List.getElem_mem (by omega))
        exact ⟨i, hi, by rw [he, ← h2, ← heq, h1]⟩
theorem sortS_mem {l : List Str} {x : Str} : x ∈ sortS l ↔ x ∈ l := by simp [sortS]
/-- slices.Compact of texts -/
theorem compact_calls {k : Nat} {fn : Func} (hf : P.funcs[E.fn k]? = some fn) (hn : (fn.name == "runtime.NumGoroutine") = false) (hbd : fn.body.isNone = false)
    (h0 : ∀ (a : Option Addr) (cap : Nat) (w : World), Calls P (E.fn k) #[.slice a 0 cap] w fun e w' => e = .returned (.slice a 0 cap) ∧ w' = w)
    (h1 : ∀ (blk off cap : Nat) (zs : List (List UInt8)) (w : World), Holds encStr w blk off zs.toArray → zs.length ≤ 9223372036854775807 → zs.length ≤ cap → Calls P (E.fn k) #[.slice (some ⟨blk, off, none⟩) zs.length cap] w fun e w' =>
      e = .returned (.slice (some ⟨blk, off, none⟩) (Lib.compact zs).length cap) ∧ ∃ q, w' = putRow encStr (Sort.ahead w q) blk off (Lib.compact zs ++ List.replicate (zs.length - (Lib.compact zs).length) []).toArray)
    {b g : Nat} {l : List Str} (hl : l.length < 4611686018427387904) (hb : H.bs[b]? = some (.cells g 1 (l.map fun s => S s))) : ACalls E P k [.slL b 0 l.length g] H fun r H' => r = .slL b 0 (packS l).length g ∧ H' = ⟨H.bs.set b (.cells g 1 ((packS l ++ List.replicate (l.length - (packS l).length) []).map fun s => S s)), H.ctr⟩ := by
  refine ACalls.ofWalk hf hn hbd fun c vs hH hv => ?_
  obtain ⟨v, rfl, hr⟩ := hv.one'
  simp only [VRel] at hr
  obtain ⟨hgl, p, cap, rfl, hcap, hp⟩ := hr
  obtain ⟨p0, rest, e, h4, h7, hg, _⟩ := hH.row hb
  have hpl := packS_length l
  rcases hp hg with hz | ⟨rfl, hroom⟩
  · subst hz
    have hl0 : l = [] := List.eq_nil_of_length_eq_zero (by omega)
    subst hl0
    have hp0 : packS [] = [] := List.eq_nil_of_length_eq_zero (by simpa using hpl)
    refine (h0 (some p) 0 c.w).mono ?_
    rintro e w' ⟨rfl, rfl⟩
    refine ⟨_, .slL b 0 (packS []).length g, c, H, rfl, rfl, ⟨rfl, ?_⟩, hH, ?_, Later.refl c⟩
    · rw [hp0]
      have hlt := lt_of_get hb
      have : H.bs[b] = .cells g 1 (([] : List Str).map fun s => S s) := by rw [List.getElem?_eq_getElem hlt] at hb; injection hb
      simp only [List.length_nil, Nat.sub_self, List.replicate_zero, List.append_nil]
      rw [← this, List.set_getElem_self]
    · simp only [VRel]
      exact ⟨hgl, p, 0, by rw [hp0]; rfl, by rw [hp0]; exact Nat.le_refl _, fun _ => .inl rfl⟩
  · refine (h1 (c.al b) (c.base b) cap l c.w (hH.holds hb) (by omega) hcap).mono ?_
    rintro e w' ⟨rfl, q, rfl⟩
    obtain ⟨k1, k2⟩ := hH.putTexts (l' := packS l ++ List.replicate (l.length - (packS l).length) []) (by simp; omega) hb q #[]
    rw [grow_empty] at k1 k2
    refine ⟨_, .slL b 0 (packS l).length g, _, _, rfl, rfl, ⟨rfl, rfl⟩, k1, ?_, k2⟩
    simp only [VRel]
    exact ⟨hgl, _, cap, rfl, Nat.le_trans hpl hcap, fun _ => .inr ⟨rfl, hroom⟩⟩
theorem FX.sortNil {k : Nat} {fn : Func} (hf : P.funcs[E.fn k]? = some fn) (hn : (fn.name == "runtime.NumGoroutine") = false) (hbd : fn.body.isNone = false)
    (h0 : ∀ (p : Option Addr) (cap : Nat) (w : World), Calls P (E.fn k) #[.slice p 0 cap] w fun e w' => e = .returned (.tuple #[]) ∧ w' = w) : FX E P k [nilS] (.tup []) := by
  refine FX.ofCalls hf hn hbd ⟨trivial, trivial⟩ trivial trivial fun c vs _ _ hv => ?_
  obtain ⟨v, rfl, hr⟩ := hv.one'
  simp only [VRel] at hr
  subst hr
  refine (h0 none 0 c.w).mono ?_
  rintro e w' ⟨rfl, rfl⟩
  exact ⟨_, rfl, Below.refl _ _, by simp [VRel, LRel]⟩
theorem FX.compactNil {k : Nat} {fn : Func} (hf : P.funcs[E.fn k]? = some fn) (hn : (fn.name == "runtime.NumGoroutine") = false) (hbd : fn.body.isNone = false)
    (h0 : ∀ (a : Option Addr) (cap : Nat) (w : World), Calls P (E.fn k) #[.slice a 0 cap] w fun e w' => e = .returned (.slice a 0 cap) ∧ w' = w) : FX E P k [nilS] nilS := by
  refine FX.ofCalls hf hn hbd ⟨trivial, trivial⟩ trivial trivial fun c vs _ _ hv => ?_
  obtain ⟨v, rfl, hr⟩ := hv.one'
  simp only [VRel] at hr
  subst hr
  refine (h0 none 0 c.w).mono ?_
  rintro e w' ⟨rfl, rfl⟩
  exact ⟨_, rfl, Below.refl _ _, by simp [VRel]⟩
end
end Go.Sc
namespace Go.Sc.F
open Go Go.Sc
set_option linter.unusedVariables false
/-- signalbox/expr.Names -/
def expr_Names (E : Env) (P : Program) (a0 : AV) (H : AH) (R : Kt) : Prop :=
  wCall E P 190 [a0, (.fn 189 [] [])] H fun t4 H =>
  R t4 H

/-- signalbox/expr.Edges -/
def expr_Edges (E : Env) (P : Program) (a0 : AV) (H : AH) (R : Kt) : Prop :=
  wCall E P 190 [a0, (.fn 192 [] [])] H fun t4 H =>
  R t4 H

/-- signalbox/expr.sorted -/
def expr_sorted (E : Env) (P : Program) (a0 a1 : AV) (H : AH) (R : Kt) : Prop :=
  wNew 1 (AV.cells? a1) H fun t3 H =>
  wNew 1 (some [(.val (.slice none 0 0))]) H fun t5 H =>
  wCall E P 161 [a0, (.fn 193 [] [t3, t5])] H fun t8 H =>
  wGet (load1 t5 H) H fun t9 H =>
  wCall E P 194 [t9] H fun t10 H =>
  wGet (load1 t5 H) H fun t11 H =>
  wCall E P 195 [t11] H fun t12 H =>
  R t12 H

/-- signalbox/expr.Names$1 -/
def expr_Names_c1 (E : Env) (P : Program) (a0 : AV) (H : AH) (R : Kt) : Prop :=
  wGet (assertA 14 (.val (.string ⟨#[]⟩)) a0) H fun t7 H =>
  wGet (extractA t7 1) H fun t8 H =>
  wGet (extractA t7 0) H fun t9 H =>
  wIf t8 (
    R t9 H) (
    wGet (assertA 12 (.val (.string ⟨#[]⟩)) a0) H fun t11 H =>
    wGet (extractA t11 1) H fun t12 H =>
    wGet (extractA t11 0) H fun t13 H =>
    wIf t12 (
      R t13 H) (
      wGet (assertA 13 (.val (.string ⟨#[]⟩)) a0) H fun t15 H =>
      wGet (extractA t15 1) H fun t16 H =>
      wGet (extractA t15 0) H fun t17 H =>
      wIf t16 (
        R t17 H) (
        R (.val (.string ⟨#[]⟩)) H)))

/-- signalbox/expr.Edges$1 -/
def expr_Edges_c1 (E : Env) (P : Program) (a0 : AV) (H : AH) (R : Kt) : Prop :=
  wGet (assertA 12 (.val (.string ⟨#[]⟩)) a0) H fun t6 H =>
  wGet (extractA t6 1) H fun t7 H =>
  wGet (extractA t6 0) H fun t8 H =>
  wIf t7 (
    R t8 H) (
    wGet (assertA 13 (.val (.string ⟨#[]⟩)) a0) H fun t10 H =>
    wGet (extractA t10 1) H fun t11 H =>
    wGet (extractA t10 0) H fun t12 H =>
    wIf t11 (
      R t12 H) (
      R (.val (.string ⟨#[]⟩)) H))

/-- signalbox/expr.sorted$1 -/
def expr_sorted_c1 (E : Env) (P : Program) (a0 a1 a2 : AV) (H : AH) (R : Kt) : Prop :=
  wGet (load1 a1 H) H fun t5 H =>
  wCallV E P t5 [a0] H fun t7 H =>
  wGet (binA .neq t7 (.val (.string ⟨#[]⟩))) H fun t9 H =>
  wIf t9 (
    wGet (load1 a2 H) H fun t10 H =>
    wNewS 1 1 (fillA (List.replicate 1 [(.val (.string ⟨#[]⟩))]).flatten [(0, 1, t7)]) H fun t12 H =>
    wApp 1 16 t10 t12 H fun t13 H =>
    wPut (store1 a2 t13 H) fun _u H =>
    R (.tup []) H) (
    R (.tup []) H)

end Go.Sc.F
