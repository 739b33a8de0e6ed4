/- CONTRACTS: package expr: how a text is read as an expression. CONTRACTS: package signalboxref: how a text is read as an expression. CONTRACTS: package signalboxref: a whole expression. ARGUMENTS AS ABSTRACT VALUES: what a call is given lies in memory that the call does not write: frozen. DECODING: what arguments are, by their types, with their sizes; and variables that are known. A CONTRACT OUT OF A WALK OF THE KIT's OWN: a call that leaves all old memory as it was, and answers without memory. CONTRACTS: errors taken apart: plain.Place. CONTRACTS: package signalboxref: expressions are read. CONTRACTS: how expressions are written. CONTRACTS: lists of numbers are compared, searched, copied. (of the seat YtldomhanfhfonaaGreatDoor) -/
import Derived.Test.YtldomhanfhfonaaGreatDoorCore6
import Derived.Below
import Derived.ChangeArms
import Derived.SizedLaws
import Derived.WideShapes
import Derived.OpenShut
import Derived.LaidSub
namespace Go.Sc
open Go
set_option linter.unusedSimpArgs false
set_option linter.unusedVariables false
set_option linter.unnecessarySimpa false
structure ParseBodies (E : Env) (P : Program) : Prop where
  d : ReadBodies E P
  several : Body4 E P 140 F.pexpr_reader_several
  or : Body2 E P 133 F.pexpr_reader_or
  and : Body2 E P 139 F.pexpr_reader_and
  one : Body2 E P 144 F.pexpr_reader_one
  parse : Body1 E P 126 F.expr_Parse
/-- what a reader of expressions answers -/
def PX (s : Str) (r : Rs Ex) (x : AV) (cs : List AV) : Prop := match r with
  | .ok e j => x = .tup [e.enc, nilE] ∧ cs = rd s j
  | .no e p => ∃ z, x = .tup [z, At e p] ∧ z.closed ∧ ∃ j, cs = rd s j
theorem PX.closed {s : Str} {r : Rs Ex} {x : AV} {cs : List AV} (h : PX s r x cs) : x.closed ∧ AV.closedL cs := by
  unfold PX at h
  split at h
  · obtain ⟨rfl, rfl⟩ := h; exact ⟨⟨Ex.enc_closed _, trivial, trivial⟩, rd_closed _ _⟩
  · obtain ⟨z, rfl, hz, j, rfl⟩ := h; exact ⟨⟨hz, At_closed _ _, trivial⟩, rd_closed _ _⟩
def PL (s : Str) (r : Rs (List Ex)) (x : AV) (cs : List AV) : Prop := match r with
  | .ok l j => x = .tup [.slN (Ex.encL l) l.length, nilE] ∧ cs = rd s j
  | .no e p => x = .tup [nilS, At e p] ∧ ∃ j, cs = rd s j
theorem PL.closed {s : Str} {r : Rs (List Ex)} {x : AV} {cs : List AV} (h : PL s r x cs) : x.closed ∧ AV.closedL cs := by
  unfold PL at h
  split at h
  · obtain ⟨rfl, rfl⟩ := h; exact ⟨⟨Ex.encL_closed _, trivial, trivial⟩, rd_closed _ _⟩
  · obtain ⟨rfl, j, rfl⟩ := h; exact ⟨⟨trivial, At_closed _ _, trivial⟩, rd_closed _ _⟩
theorem fill1 {z x : AV} (h : x.scalar = true) : fillA (List.replicate 1 [z]).flatten [(0, 1, x)] = some [x] := by
  show fillA [z] _ = _
  rw [fillA_one h (by simp)]; rfl
theorem eqA_At {e p : Int} : eqA .iface (At e p) nilE = some false := rfl
theorem Ex.encL_len (l : List Ex) : (Ex.encL l).length = l.length := by rw [Ex.encL_map, List.length_map]
theorem Ex.encL_snoc (l : List Ex) (x : Ex) : Ex.encL (l ++ [x]) = Ex.encL l ++ [x.enc] := by simp [Ex.encL_map]
section
variable {E : Env} {P : Program}
theorem several_spec (B : ParseBodies E P) (s : Str) (hs : s.length < 1000000) (c : UInt8) (f : Nat → Rs Ex) (hgood : GoodR s f) (kf : Nat) (d : Nat) (hf : ∀ i, i ≤ s.length → PC E P kf 2 (rd s i) (fun b g => [.ptrL b 0 g, Z d]) (PX s (f i))) (i : Nat) (hi : i ≤ s.length) :
    PC E P 140 2 (rd s i) (fun b g => [.ptrL b 0 g, By c, Z d, .fn kf [.ptrL b 0 g] []]) (PL s (rowR s c f (s.length + 1) i [])) := by
  refine PC.of (fun _ _ => rfl) (rd_closed s i) (fun _ _ h => h.closed) fun n g R hR => B.several _ _ _ _ _ _ ?_
  unfold F.pexpr_reader_several
  refine wLoop.one (fun m t H => ∃ i' l n z c', m = s.length - i' ∧ i' ≤ s.length ∧ l.length ≤ i' ∧ s.length < n + i' ∧ rowR s c f (s.length + 1) i [] = rowR s c f n i' l ∧ Gr 1 z 1 t (Ex.encL l) l.length ∧ H = ⟨[.cells g 2 (rd s i'), z], c'⟩) (s.length - i)
    (gh1.of (ghost_room [.dead] (by simp)) ⟨i, [], s.length + 1, .dead, n, rfl, hi, by simp, by omega, rfl, .nil, rfl⟩) ?_
  rintro m t H ⟨i', l, n', z, c', rfl, hi', hl, hn, hrow, hg, rfl⟩
  obtain ⟨n', rfl⟩ : ∃ k, n' = k + 1 := ⟨n' - 1, by omega⟩
  refine wCallV.pc (b := 0) (hf i' hi') rfl rfl ?_
  intro r cs n2 hr
  rw [hrow] at hR
  simp only [rowR] at hR
  cases hx : f i' with
  | no e p =>
    rw [hx] at hr hR
    obtain ⟨zz, rfl, hz, j, rfl⟩ := hr
    simp only [nd0, Y1n, Y1o, Y1p, Y1q, Y1w, Y1x, Y1y, Y1z, Y20, Y21, Y28, Y2a, AV.cells?, Nat.reduceAdd, Nat.reduceMul, eqA_At]
    exact hR _ _ (rd s j) [z] n2 (.same _) ⟨rfl, j, rfl⟩
  | ok x j =>
    rw [hx] at hr hR
    obtain ⟨rfl, rfl⟩ := hr
    obtain ⟨a1, a2, a3, a4⟩ := hgood i' x j hi' hx
    have b1 := skipTo_le s j
    have b2 := skipTo_len a2
    simp only [nd0, Y1n, Y1o, Y1p, Y1q, Y1w, Y1x, Y1y, Y1z, Y20, Y21, Y28, Y2a, AV.cells?, Nat.reduceAdd, Nat.reduceMul]
    refine wNewS.F' (l := [x.enc]) (fill1 (Ex.enc_scalar x)) rfl ?_
    refine wApp.one hg rfl (Ex.encL_len l) (.refl _) (Ex.enc_scalar x) (by simp [mostBytes]; omega) ?_
    intro z' x' c2 hg'
    simp only [nd0, Y1n, Y1o, Y1p, Y1q, Y1w, Y1x, Y1y, Y1z, Y20, Y21, Y28, Y2a, AV.cells?, Nat.reduceAdd, Nat.reduceMul]
    refine wCall.pc (b := 0) (take_spec B.d s j c a2 hs) rfl rfl ?_
    rintro r cs n3 ⟨rfl, rfl⟩
    by_cases hc : s[skipTo s j]? = some c
    · have hlt := lt_of_get hc
      simp only [hc, if_true] at hR ⊢
      simp only [nd0, Y1n, Y1o, Y1p, Y1q, Y1w, Y1x, Y1y, Y1z, Y20, Y21, Y28, Y2a, AV.cells?, Nat.reduceAdd, Nat.reduceMul]
      refine back1.mk (s.length - (skipTo s j + 1)) (by omega) ⟨skipTo s j + 1, l ++ [x], n', z', n3, rfl, by omega, by simp; omega, by omega, ?_, ?_, rfl⟩
      · rw [hrow, rowR, hx]; simp only [hc, if_true]
      · rw [Ex.encL_snoc, List.length_append]; exact hg'
    · simp only [if_neg hc] at hR ⊢
      simp only [nd0, Y1n, Y1o, Y1p, Y1q, Y1w, Y1x, Y1y, Y1z, Y20, Y21, Y28, Y2a, AV.cells?, Nat.reduceAdd, Nat.reduceMul, decide_eq_false hc]
      have hg2 : Gr 1 z' 1 x' (Ex.encL (l ++ [x])) (l ++ [x]).length := by rw [Ex.encL_snoc, List.length_append]; exact hg'
      exact hR _ _ (rd s (skipTo s j)) [z'] n3 (.tup (.cons (.sub hg2.sub) (FkL.same _))) ⟨rfl, rfl⟩
theorem and_spec (B : ParseBodies E P) (s : Str) (hs : s.length < 1000000) (f : Nat → Rs Ex) (hgood : GoodR s f) (d : Nat) (hf : ∀ i, i ≤ s.length → PC E P 144 2 (rd s i) (fun b g => [.ptrL b 0 g, Z d]) (PX s (f i))) (i : Nat) (hi : i ≤ s.length) :
    PC E P 139 2 (rd s i) (fun b g => [.ptrL b 0 g, Z d]) (PX s (andR s f i)) := by
  refine PC.of (fun _ _ => rfl) (rd_closed s i) (fun _ _ h => h.closed) fun n g R hR => B.and _ _ _ _ ?_
  unfold F.pexpr_reader_and
  refine wCall.pc (b := 0) (several_spec B s hs 38 f hgood 144 d hf i hi) rfl rfl ?_
  intro r cs n2 hr
  unfold andR allR at hR
  cases hx : rowR s 38 f (s.length + 1) i [] with
  | no e p =>
    rw [hx] at hr hR
    obtain ⟨rfl, j, rfl⟩ := hr
    simp only [nd0, Y1n, Y1o, Y1p, Y1q, Y1w, Y1x, Y1y, Y1z, Y20, Y21, Y28, Y2a, AV.cells?, Nat.reduceAdd, Nat.reduceMul, eqA_At]
    exact hR _ _ (rd s j) [] n2 (.same _) ⟨_, rfl, trivial, j, rfl⟩
  | ok l j =>
    rw [hx] at hr hR
    obtain ⟨rfl, rfl⟩ := hr
    simp only [nd0, Y1n, Y1o, Y1p, Y1q, Y1w, Y1x, Y1y, Y1z, Y20, Y21, Y28, Y2a, AV.cells?, Nat.reduceAdd, Nat.reduceMul]
    by_cases hl : l.length = 1
    · obtain ⟨x, rfl⟩ := List.length_eq_one_iff.1 hl
      simp only [nd0, Y1n, Y1o, Y1p, Y1q, Y1w, Y1x, Y1y, Y1z, Y20, Y21, Y28, Y2a, AV.cells?, Nat.reduceAdd, Nat.reduceMul, show (((1 : Nat)) : Int) = 1 from rfl]
      rw [show ((0 : Int)) = ((0 : Nat) : Int) from rfl, iaddr_Nn (by simp)]
      simp only [nd0, Y1n, Y1o, Y1p, Y1q, Y1w, Y1x, Y1y, Y1z, Y20, Y21, Y28, Y2a, AV.cells?, Nat.reduceAdd, Nat.reduceMul, Ex.encL]
      exact hR _ _ (rd s j) [] n2 (.same _) ⟨rfl, rfl⟩
    · simp only [nd0, Y1n, Y1o, Y1p, Y1q, Y1w, Y1x, Y1y, Y1z, Y20, Y21, Y28, Y2a, AV.cells?, Nat.reduceAdd, Nat.reduceMul, decide_eq_false (show ¬ (l.length : Int) = 1 by omega)]
      refine hR _ _ (rd s j) [] n2 (.same _) ⟨?_, rfl⟩
      have : foldR .and l = .and l := by
        match l with
        | [] => rfl
        | [x] => simp at hl
        | x :: y :: r => rfl
      rw [this]; rfl
theorem or_spec (B : ParseBodies E P) (s : Str) (hs : s.length < 1000000) (f : Nat → Rs Ex) (hgood : GoodR s f) (d : Nat) (hf : ∀ i, i ≤ s.length → PC E P 144 2 (rd s i) (fun b g => [.ptrL b 0 g, Z d]) (PX s (f i))) (i : Nat) (hi : i ≤ s.length) :
    PC E P 133 2 (rd s i) (fun b g => [.ptrL b 0 g, Z d]) (PX s (orR s f i)) := by
  refine PC.of (fun _ _ => rfl) (rd_closed s i) (fun _ _ h => h.closed) fun n g R hR => B.or _ _ _ _ ?_
  unfold F.pexpr_reader_or
  refine wCall.pc (b := 0) (several_spec B s hs 124 (andR s f) (andR_good hgood) 139 d (and_spec B s hs f hgood d hf) i hi) rfl rfl ?_
  intro r cs n2 hr
  unfold orR allR at hR
  cases hx : rowR s 124 (andR s f) (s.length + 1) i [] with
  | no e p =>
    rw [hx] at hr hR
    obtain ⟨rfl, j, rfl⟩ := hr
    simp only [nd0, Y1n, Y1o, Y1p, Y1q, Y1w, Y1x, Y1y, Y1z, Y20, Y21, Y28, Y2a, AV.cells?, Nat.reduceAdd, Nat.reduceMul, eqA_At]
    exact hR _ _ (rd s j) [] n2 (.same _) ⟨_, rfl, trivial, j, rfl⟩
  | ok l j =>
    rw [hx] at hr hR
    obtain ⟨rfl, rfl⟩ := hr
    simp only [nd0, Y1n, Y1o, Y1p, Y1q, Y1w, Y1x, Y1y, Y1z, Y20, Y21, Y28, Y2a, AV.cells?, Nat.reduceAdd, Nat.reduceMul]
    by_cases hl : l.length = 1
    · obtain ⟨x, rfl⟩ := List.length_eq_one_iff.1 hl
      simp only [nd0, Y1n, Y1o, Y1p, Y1q, Y1w, Y1x, Y1y, Y1z, Y20, Y21, Y28, Y2a, AV.cells?, Nat.reduceAdd, Nat.reduceMul, show (((1 : Nat)) : Int) = 1 from rfl]
      rw [show ((0 : Int)) = ((0 : Nat) : Int) from rfl, iaddr_Nn (by simp)]
      simp only [nd0, Y1n, Y1o, Y1p, Y1q, Y1w, Y1x, Y1y, Y1z, Y20, Y21, Y28, Y2a, AV.cells?, Nat.reduceAdd, Nat.reduceMul, Ex.encL]
      exact hR _ _ (rd s j) [] n2 (.same _) ⟨rfl, rfl⟩
    · simp only [nd0, Y1n, Y1o, Y1p, Y1q, Y1w, Y1x, Y1y, Y1z, Y20, Y21, Y28, Y2a, AV.cells?, Nat.reduceAdd, Nat.reduceMul, decide_eq_false (show ¬ (l.length : Int) = 1 by omega)]
      refine hR _ _ (rd s j) [] n2 (.same _) ⟨?_, rfl⟩
      have : foldR .or l = .or l := by
        match l with
        | [] => rfl
        | [x] => simp at hl
        | x :: y :: r => rfl
      rw [this]; rfl
set_option maxHeartbeats 1000000 in
theorem one_spec (B : ParseBodies E P) (s : Str) (hs : s.length < 1000000) : ∀ (d : Nat), d < 1000 → ∀ i, i ≤ s.length → PC E P 144 2 (rd s i) (fun b g => [.ptrL b 0 g, Z d]) (PX s (oneR s d i)) := by
  intro d
  induction d with
  | zero =>
    intro _ i hi
    refine PC.of (fun _ _ => rfl) (rd_closed s i) (fun _ _ h => h.closed) fun n g R hR => B.one _ _ _ _ ?_
    unfold F.pexpr_reader_one
    simp only [nd0, Y1n, Y1o, Y1p, Y1q, Y1w, Y1x, Y1y, Y1z, Y20, Y21, Y28, Y2a, AV.cells?, Nat.reduceAdd, Nat.reduceMul, show ((0 : Nat) : Int) = 0 from rfl]
    refine wCall.pc (b := 0) (fail_spec B.d s i 4 hi hs) rfl rfl ?_
    rintro r cs n2 ⟨rfl, rfl⟩
    exact hR _ _ _ [] n2 (.same _) ⟨_, rfl, trivial, _, rfl⟩
  | succ d ih =>
    intro hd i hi
    refine PC.of (fun _ _ => rfl) (rd_closed s i) (fun _ _ h => h.closed) fun n g R hR => B.one _ _ _ _ ?_
    have hgood := oneR_good s d
    have ih := ih (by omega)
    unfold F.pexpr_reader_one
    have hk := skipTo_len hi
    have hid := skipTo_idem s i
    have hsub : binA .sub (Z ((d + 1 : Nat) : Int)) (Z 1) = some (Z d) := by
      rw [binA_sub (by omega)]; congr 3; omega
    simp only [nd0, Y1n, Y1o, Y1p, Y1q, Y1w, Y1x, Y1y, Y1z, Y20, Y21, Y28, Y2a, AV.cells?, Nat.reduceAdd, Nat.reduceMul, decide_eq_false (show ¬ ((d + 1 : Nat) : Int) = 0 by omega)]
    refine wCall.pc (b := 0) (take_spec B.d s i 33 hi hs) rfl rfl ?_
    rintro r cs n1 ⟨rfl, rfl⟩
    unfold oneR at hR
    generalize skipTo s i = k at hk hid hR
    by_cases h33 : s[k]? = some 33
    · rw [if_pos h33] at hR
      have hlt := lt_of_get h33
      simp only [nd0, Y1n, Y1o, Y1p, Y1q, Y1w, Y1x, Y1y, Y1z, Y20, Y21, Y28, Y2a, AV.cells?, Nat.reduceAdd, Nat.reduceMul, decide_eq_true h33, if_pos h33, hsub]
      refine wCall.pc (b := 0) (ih (k + 1) (by omega)) rfl rfl ?_
      intro r cs n2 hr
      cases hx : oneR s d (k + 1) with
      | no e p =>
        rw [hx] at hr hR
        obtain ⟨zz, rfl, hz, j, rfl⟩ := hr
        simp only [nd0, Y1n, Y1o, Y1p, Y1q, Y1w, Y1x, Y1y, Y1z, Y20, Y21, Y28, Y2a, AV.cells?, Nat.reduceAdd, Nat.reduceMul, eqA_At]
        exact hR _ _ (rd s j) [] n2 (.same _) ⟨_, rfl, trivial, j, rfl⟩
      | ok x j =>
        rw [hx] at hr hR
        obtain ⟨rfl, rfl⟩ := hr
        simp only [nd0, Y1n, Y1o, Y1p, Y1q, Y1w, Y1x, Y1y, Y1z, Y20, Y21, Y28, Y2a, AV.cells?, Nat.reduceAdd, Nat.reduceMul, show fillA [nilE] [(0, 1, x.enc)] = some [x.enc] from by rw [fillA_one (Ex.enc_scalar x) (by simp)]; rfl]
        exact hR _ _ (rd s j) [] n2 (.same _) ⟨rfl, rfl⟩
    rw [if_neg h33] at hR
    simp only [nd0, Y1n, Y1o, Y1p, Y1q, Y1w, Y1x, Y1y, Y1z, Y20, Y21, Y28, Y2a, AV.cells?, Nat.reduceAdd, Nat.reduceMul, decide_eq_false h33, if_neg h33]
    refine wCall.pc (b := 0) (take_spec B.d s k 40 hk hs) rfl rfl ?_
    rintro r cs n1 ⟨rfl, rfl⟩
    rw [hid]
    by_cases h40 : s[k]? = some 40
    · rw [if_pos h40] at hR
      have hlt := lt_of_get h40
      simp only [nd0, Y1n, Y1o, Y1p, Y1q, Y1w, Y1x, Y1y, Y1z, Y20, Y21, Y28, Y2a, AV.cells?, Nat.reduceAdd, Nat.reduceMul, decide_eq_true h40, if_pos h40, hsub]
      refine wCall.pc (b := 0) (or_spec B s hs (oneR s d) hgood d ih (k + 1) (by omega)) rfl rfl ?_
      intro r cs n2 hr
      cases hx : orR s (oneR s d) (k + 1) with
      | no e p =>
        rw [hx] at hr hR
        obtain ⟨zz, rfl, hz, j, rfl⟩ := hr
        simp only [nd0, Y1n, Y1o, Y1p, Y1q, Y1w, Y1x, Y1y, Y1z, Y20, Y21, Y28, Y2a, AV.cells?, Nat.reduceAdd, Nat.reduceMul, eqA_At]
        exact hR _ _ (rd s j) [] n2 (.same _) ⟨_, rfl, trivial, j, rfl⟩
      | ok x j =>
        rw [hx] at hr hR
        obtain ⟨rfl, rfl⟩ := hr
        obtain ⟨a1, a2, a3, a4⟩ := orR_good hgood _ x j (by omega) hx
        simp only [nd0, Y1n, Y1o, Y1p, Y1q, Y1w, Y1x, Y1y, Y1z, Y20, Y21, Y28, Y2a, AV.cells?, Nat.reduceAdd, Nat.reduceMul]
        refine wCall.pc (b := 0) (take_spec B.d s j 41 a2 hs) rfl rfl ?_
        rintro r cs n3 ⟨rfl, rfl⟩
        simp only [closeR] at hR
        have b2 := skipTo_len a2
        by_cases h41 : s[skipTo s j]? = some 41
        · rw [if_pos h41] at hR
          simp only [nd0, Y1n, Y1o, Y1p, Y1q, Y1w, Y1x, Y1y, Y1z, Y20, Y21, Y28, Y2a, AV.cells?, Nat.reduceAdd, Nat.reduceMul, decide_eq_true h41, if_pos h41]
          exact hR _ _ (rd s (skipTo s j + 1)) [] n3 (.same _) ⟨rfl, rfl⟩
        · rw [if_neg h41] at hR
          simp only [nd0, Y1n, Y1o, Y1p, Y1q, Y1w, Y1x, Y1y, Y1z, Y20, Y21, Y28, Y2a, AV.cells?, Nat.reduceAdd, Nat.reduceMul, decide_eq_false h41, if_neg h41]
          refine wCall.pc (b := 0) (fail_spec B.d s (skipTo s j) 3 b2 hs) rfl rfl ?_
          rintro r cs n4 ⟨rfl, rfl⟩
          exact hR _ _ _ [] n4 (.same _) ⟨nilE, by rw [skipTo_idem], trivial, _, rfl⟩
    rw [if_neg h40] at hR
    simp only [nd0, Y1n, Y1o, Y1p, Y1q, Y1w, Y1x, Y1y, Y1z, Y20, Y21, Y28, Y2a, AV.cells?, Nat.reduceAdd, Nat.reduceMul, decide_eq_false h40, if_neg h40]
    refine wCall.pc (b := 0) (take_spec B.d s k 48 hk hs) rfl rfl ?_
    rintro r cs n1 ⟨rfl, rfl⟩
    rw [hid]
    by_cases h48 : s[k]? = some 48
    · rw [if_pos h48] at hR
      simp only [nd0, Y1n, Y1o, Y1p, Y1q, Y1w, Y1x, Y1y, Y1z, Y20, Y21, Y28, Y2a, AV.cells?, Nat.reduceAdd, Nat.reduceMul, decide_eq_true h48, if_pos h48]
      exact hR _ _ (rd s (k + 1)) [] n1 (.same _) ⟨rfl, rfl⟩
    rw [if_neg h48] at hR
    simp only [nd0, Y1n, Y1o, Y1p, Y1q, Y1w, Y1x, Y1y, Y1z, Y20, Y21, Y28, Y2a, AV.cells?, Nat.reduceAdd, Nat.reduceMul, decide_eq_false h48, if_neg h48]
    refine wCall.pc (b := 0) (take_spec B.d s k 49 hk hs) rfl rfl ?_
    rintro r cs n1 ⟨rfl, rfl⟩
    rw [hid]
    by_cases h49 : s[k]? = some 49
    · rw [if_pos h49] at hR
      simp only [nd0, Y1n, Y1o, Y1p, Y1q, Y1w, Y1x, Y1y, Y1z, Y20, Y21, Y28, Y2a, AV.cells?, Nat.reduceAdd, Nat.reduceMul, decide_eq_true h49, if_pos h49]
      exact hR _ _ (rd s (k + 1)) [] n1 (.same _) ⟨rfl, rfl⟩
    rw [if_neg h49] at hR
    simp only [nd0, Y1n, Y1o, Y1p, Y1q, Y1w, Y1x, Y1y, Y1z, Y20, Y21, Y28, Y2a, AV.cells?, Nat.reduceAdd, Nat.reduceMul, decide_eq_false h49, if_neg h49]
    refine wCall.pc (b := 0) (take_spec B.d s k 94 hk hs) rfl rfl ?_
    rintro r cs n1 ⟨rfl, rfl⟩
    rw [hid]
    by_cases h94 : s[k]? = some 94
    · rw [if_pos h94] at hR
      have hlt := lt_of_get h94
      simp only [nd0, Y1n, Y1o, Y1p, Y1q, Y1w, Y1x, Y1y, Y1z, Y20, Y21, Y28, Y2a, AV.cells?, Nat.reduceAdd, Nat.reduceMul, decide_eq_true h94, if_pos h94]
      refine wCall.pc (b := 0) (word_spec B.d s (k + 1) (by omega) hs) rfl rfl ?_
      intro r cs n2 hr
      cases hx : wordR s (k + 1) with
      | no e p =>
        rw [hx] at hr hR
        obtain ⟨rfl, j, rfl⟩ := hr
        simp only [nd0, Y1n, Y1o, Y1p, Y1q, Y1w, Y1x, Y1y, Y1z, Y20, Y21, Y28, Y2a, AV.cells?, Nat.reduceAdd, Nat.reduceMul]
        exact hR _ _ (rd s j) [] n2 (.same _) ⟨_, rfl, trivial, j, rfl⟩
      | ok x j =>
        rw [hx] at hr hR
        obtain ⟨rfl, rfl⟩ := hr
        simp only [nd0, Y1n, Y1o, Y1p, Y1q, Y1w, Y1x, Y1y, Y1z, Y20, Y21, Y28, Y2a, AV.cells?, Nat.reduceAdd, Nat.reduceMul]
        exact hR _ _ (rd s j) [] n2 (.same _) ⟨rfl, rfl⟩
    rw [if_neg h94] at hR
    simp only [nd0, Y1n, Y1o, Y1p, Y1q, Y1w, Y1x, Y1y, Y1z, Y20, Y21, Y28, Y2a, AV.cells?, Nat.reduceAdd, Nat.reduceMul, decide_eq_false h94, if_neg h94]
    refine wCall.pc (b := 0) (take_spec B.d s k 126 hk hs) rfl rfl ?_
    rintro r cs n1 ⟨rfl, rfl⟩
    rw [hid]
    by_cases h126 : s[k]? = some 126
    · rw [if_pos h126] at hR
      have hlt := lt_of_get h126
      simp only [nd0, Y1n, Y1o, Y1p, Y1q, Y1w, Y1x, Y1y, Y1z, Y20, Y21, Y28, Y2a, AV.cells?, Nat.reduceAdd, Nat.reduceMul, decide_eq_true h126, if_pos h126]
      refine wCall.pc (b := 0) (word_spec B.d s (k + 1) (by omega) hs) rfl rfl ?_
      intro r cs n2 hr
      cases hx : wordR s (k + 1) with
      | no e p =>
        rw [hx] at hr hR
        obtain ⟨rfl, j, rfl⟩ := hr
        simp only [nd0, Y1n, Y1o, Y1p, Y1q, Y1w, Y1x, Y1y, Y1z, Y20, Y21, Y28, Y2a, AV.cells?, Nat.reduceAdd, Nat.reduceMul]
        exact hR _ _ (rd s j) [] n2 (.same _) ⟨_, rfl, trivial, j, rfl⟩
      | ok x j =>
        rw [hx] at hr hR
        obtain ⟨rfl, rfl⟩ := hr
        simp only [nd0, Y1n, Y1o, Y1p, Y1q, Y1w, Y1x, Y1y, Y1z, Y20, Y21, Y28, Y2a, AV.cells?, Nat.reduceAdd, Nat.reduceMul]
        exact hR _ _ (rd s j) [] n2 (.same _) ⟨rfl, rfl⟩
    rw [if_neg h126] at hR
    simp only [nd0, Y1n, Y1o, Y1p, Y1q, Y1w, Y1x, Y1y, Y1z, Y20, Y21, Y28, Y2a, AV.cells?, Nat.reduceAdd, Nat.reduceMul, decide_eq_false h126, if_neg h126]
    refine wCall.pc (b := 0) (word_spec B.d s k hk hs) rfl rfl ?_
    intro r cs n2 hr
    cases hx : wordR s k with
    | no e p =>
      rw [hx] at hr hR
      obtain ⟨rfl, j, rfl⟩ := hr
      simp only [nd0, Y1n, Y1o, Y1p, Y1q, Y1w, Y1x, Y1y, Y1z, Y20, Y21, Y28, Y2a, AV.cells?, Nat.reduceAdd, Nat.reduceMul]
      exact hR _ _ (rd s j) [] n2 (.same _) ⟨_, rfl, trivial, j, rfl⟩
    | ok x j =>
      rw [hx] at hr hR
      obtain ⟨rfl, rfl⟩ := hr
      simp only [nd0, Y1n, Y1o, Y1p, Y1q, Y1w, Y1x, Y1y, Y1z, Y20, Y21, Y28, Y2a, AV.cells?, Nat.reduceAdd, Nat.reduceMul]
      exact hR _ _ (rd s j) [] n2 (.same _) ⟨rfl, rfl⟩
/-- what Parse answers -/
def parseA (s : Str) : AV := if 2000 < s.length then .tup [nilE, Er 4] else match parseR s with
  | .ok x _ => .tup [x.enc, nilE]
  | .no e p => .tup [nilE, At e p]
theorem parseA_closed (s : Str) : (parseA s).closed := by
  unfold parseA
  split
  · exact ⟨trivial, Er_closed _, trivial⟩
  split
  · exact ⟨Ex.enc_closed _, trivial, trivial⟩
  · exact ⟨trivial, At_closed _ _, trivial⟩
theorem Parse_spec (B : ParseBodies E P) (s : Str) : FX E P 126 [S s] (parseA s) := by
  refine FX.of' ⟨trivial, trivial⟩ (parseA_closed s) fun n R hR => B.parse _ _ _ ?_
  unfold F.expr_Parse
  unfold parseA at hR
  simp only [nd0, Y1n, Y1o, Y1p, Y1q, Y1w, Y1x, Y1y, Y1z, Y20, Y21, Y28, Y2a, AV.cells?, Nat.reduceAdd, Nat.reduceMul]
  by_cases hl : 2000 < s.length
  · rw [if_pos hl] at hR
    simp only [nd0, Y1n, Y1o, Y1p, Y1q, Y1w, Y1x, Y1y, Y1z, Y20, Y21, Y28, Y2a, AV.cells?, Nat.reduceAdd, Nat.reduceMul, decide_eq_true (show (2000 : Int) < (s.length : Int) by omega)]
    exact hR _ _ rfl
  rw [if_neg hl] at hR
  simp only [nd0, Y1n, Y1o, Y1p, Y1q, Y1w, Y1x, Y1y, Y1z, Y20, Y21, Y28, Y2a, AV.cells?, Nat.reduceAdd, Nat.reduceMul, decide_eq_false (show ¬ (2000 : Int) < (s.length : Int) by omega), show fillA [S [], Z 0] [(0, 1, S s)] = some (rd s 0) from rfl, show (AV.val (.string ⟨#[]⟩)) = S [] from rfl]
  refine wNew.L (l := rd s 0) rfl ?_
  have hs : s.length < 1000000 := by omega
  refine wCall.pc (b := 0) (or_spec B s hs (oneR s 20) (oneR_good s 20) 20 (one_spec B s hs 20 (by omega)) 0 (by omega)) rfl rfl ?_
  intro r cs n2 hr
  unfold parseR at hR
  cases hx : orR s (oneR s 20) 0 with
  | no e p =>
    rw [hx] at hr hR
    obtain ⟨zz, rfl, hz, j, rfl⟩ := hr
    simp only [nd0, Y1n, Y1o, Y1p, Y1q, Y1w, Y1x, Y1y, Y1z, Y20, Y21, Y28, Y2a, AV.cells?, Nat.reduceAdd, Nat.reduceMul, eqA_At]
    exact hR _ _ rfl
  | ok x j =>
    rw [hx] at hr hR
    obtain ⟨rfl, rfl⟩ := hr
    obtain ⟨a1, a2, a3, a4⟩ := orR_good (oneR_good s 20) 0 x j (by omega) hx
    simp only [nd0, Y1n, Y1o, Y1p, Y1q, Y1w, Y1x, Y1y, Y1z, Y20, Y21, Y28, Y2a, AV.cells?, Nat.reduceAdd, Nat.reduceMul]
    refine wCall.pc (b := 0) (blanks_spec B.d s j a2 hs) rfl rfl ?_
    rintro r cs n3 ⟨rfl, rfl⟩
    have b2 := skipTo_len a2
    simp only [nd0, Y1n, Y1o, Y1p, Y1q, Y1w, Y1x, Y1y, Y1z, Y20, Y21, Y28, Y2a, AV.cells?, Nat.reduceAdd, Nat.reduceMul, rd]
    by_cases hlt : skipTo s j < s.length
    · simp only [if_pos hlt] at hR
      simp only [nd0, Y1n, Y1o, Y1p, Y1q, Y1w, Y1x, Y1y, Y1z, Y20, Y21, Y28, Y2a, AV.cells?, Nat.reduceAdd, Nat.reduceMul, decide_eq_true (show ((skipTo s j : Nat) : Int) < (s.length : Int) by omega)]
      refine wCall.pc (b := 0) (fail_spec B.d s (skipTo s j) 3 b2 hs) rfl rfl ?_
      rintro r cs n4 ⟨rfl, rfl⟩
      exact hR _ _ (by rw [skipTo_idem])
    · simp only [if_neg hlt] at hR
      simp only [nd0, Y1n, Y1o, Y1p, Y1q, Y1w, Y1x, Y1y, Y1z, Y20, Y21, Y28, Y2a, AV.cells?, Nat.reduceAdd, Nat.reduceMul, decide_eq_false (show ¬ ((skipTo s j : Nat) : Int) < (s.length : Int) by omega)]
      exact hR _ _ rfl
end
end Go.Sc
namespace Go.Sc.F
open Go Go.Sc
set_option linter.unusedVariables false
/-- signalbox/signalboxlaw.bare -/
def law_bare (E : Env) (P : Program) (a0 a1 : AV) (H : AH) (R : Kt) : Prop :=
  wCall E P 87 [a1] H fun t7 H =>
  wCall E P 77 [a0, t7] H fun t8 H =>
  R t8 H

end Go.Sc.F
namespace Go.Sc.F
open Go Go.Sc
set_option linter.unusedVariables false
/-- signalbox/signalboxlaw.at -/
def law_at (E : Env) (P : Program) (a0 a1 : AV) (H : AH) (R : Kt) : Prop :=
  wNew 2 (AV.cells? a1) H fun t3 H =>
  wCall E P 84 [a0] H fun t9 H =>
  wGet (extractA t9 0) H fun t10 H =>
  wGet (extractA t9 1) H fun t11 H =>
  wGet (faddr 0 t3) H fun t13 H =>
  wGet (load1 t13 H) H fun t14 H =>
  wGet (binA .eql t10 t14) H fun t15 H =>
  wGuard t15 true H (fun k => k t11 H) fun t17 H =>
  wGuard t15 true H (fun k => wGet (faddr 1 t3) H k) fun t18 H =>
  wGuard t15 true H (fun k => wGet (load1 t18 H) H k) fun t19 H =>
  wGuard t15 true H (fun k => wGet (binA .eql t17 t19) H k) fun t20 H =>
  wGet (pickA t15 t20 (.val (.bool false))) H fun t21 H =>
  R t21 H

/-- signalbox/plain.Place -/
def plain_Place (E : Env) (P : Program) (a0 : AV) (H : AH) (R : Kt) : Prop :=
  wCall E P 53 [a0] H fun t10 H =>
  wJoin 0 (fun J1 =>
    wLoop 1 (fun I2 => I2 a0 H) fun I2 t0 H =>
      wBool (eqA .iface t0 (.val (.nilIface))) H true fun t12 H =>
      wIf t12 (
        wGet (assertA 2 (.val (.pointer none)) t0) H fun t15 H =>
        wGet (extractA t15 0) H fun t16 H =>
        wGet (extractA t15 1) H fun t17 H =>
        wGuard t17 true H (fun k => k t16 H) fun t20 H =>
        wGuard t17 true H (fun k => wBool (eqA .ptr t20 (.val (.pointer none))) H true k) fun t21 H =>
        wGet (pickA t17 t21 (.val (.bool false))) H fun t22 H =>
        wIf t22 (
          wGet (nilA t16) H fun t25 H =>
          wGet (faddr 1 t25) H fun t26 H =>
          wGet (load1 t26 H) H fun t27 H =>
          (wGet (load1 t26 H) H (fun y H2 => y = t27 ∧ H2 = H)) ∧
          R (.tup [t10, t27]) H) (
          wAsI E P 6 t0 H fun t30 H =>
          wGet (extractA t30 0) H fun t31 H =>
          wGet (extractA t30 1) H fun t32 H =>
          wGet (unA .not t32) H fun t34 H =>
          wIf t34 (
            J1 H) (
            wInv E P t31 "Unwrap" [] H fun t36 H =>
            I2 t36 H))) (
        J1 H)) fun H =>
    R (.tup [t10, (.val (.int .i64 (-1)))]) H

/-- signalbox/signalboxref.Bare -/
def ref_Bare (E : Env) (P : Program) (a0 : AV) (H : AH) (R : Kt) : Prop :=
  wNew 2 (some [(.val (.int .i64 0)), (.val (.int .i64 0))]) H fun t2 H =>
  wAgg (fillA [(.val (.int .i64 0)), (.val (.int .i64 0))] [(0, 1, a0), (1, 1, (.val (.int .i64 (-1))))]) H fun t4 H =>
  wPut (storeN 2 t2 t4 H) fun _u H =>
  wGet (retPack [loadN 2 t2 H]) H R

end Go.Sc.F
namespace Go.Sc
open Go
set_option linter.unusedSimpArgs false
set_option linter.unusedVariables false
set_option linter.unnecessarySimpa false
def pd (s : Str) (i e p : Int) : List AV := [S s, Z i, Z e, Z p]
theorem pd_closed (s : Str) (i e p : Int) : AV.closedL (pd s i e p) := ⟨trivial, trivial, trivial, trivial, trivial⟩
structure RefReadBodies (E : Env) (P : Program) : Prop where
  r : RuneBodies E P
  name : Body1 E P 2 F.ref_NameCheck
  skip : Body1 E P 138 F.pref_parser_skip
  next : Body1 E P 131 F.pref_parser_next
  fail : Body2 E P 132 F.pref_parser_fail
  word : Body1 E P 142 F.pref_parser_word
  row : Body4 E P 137 F.pref_parser_row
  whole : Body2 E P 130 F.pref_parser_whole
  whole1 : Body2 E P 136 F.pref_parser_whole_c1
  piece : Body2 E P 141 F.pref_parser_piece
  bare : Body1 E P 87 F.ref_Bare
  parse : Body1 E P 125 F.ref_ExprParse
  fine : E.gl 5 = some [Z 0, Z (-1)]
def nextC (s : Str) (i : Nat) : UInt8 := (s[skipTo s i]?).getD 0
theorem nextC_eq {s : Str} {i : Nat} {c : UInt8} (hc : c ≠ 0) : ((nextC s i).toNat : Int) = c.toNat ↔ s[skipTo s i]? = some c := by
  unfold nextC
  cases h : s[skipTo s i]? with
  | none => simp; intro e; exact hc (UInt8.toNat_inj.1 (by simp; omega))
  | some d =>
    simp
    constructor
    · intro e; exact UInt8.toNat_inj.1 (by omega)
    · intro e; rw [e]
theorem nextC_get {s : Str} {i : Nat} {c : UInt8} (h : s[skipTo s i]? = some c) : nextC s i = c := by simp [nextC, h]
theorem conv_byte (c : UInt8) (h : c.toNat < 128) : convA .string (By c) = some (S [c]) := by
  have hv : Utf8.valid (c.toNat : Int) = true := by unfold Utf8.valid; simp; omega
  simp only [convA]
  unfold Utf8.encode
  simp only [hv, if_true, Int.toNat_natCast]
  rw [if_pos (by omega)]
  simp
section
variable {E : Env} {P : Program}
theorem skip_spec (B : RefReadBodies E P) (s : Str) (i : Nat) (e p : Int) (hi : i ≤ s.length) (hs : s.length < 1000000) : PC E P 138 4 (pd s i e p) (fun b g => [.ptrL b 0 g]) (fun r cs => r = .tup [] ∧ cs = pd s (skipTo s i) e p) := by
  refine PC.of (fun _ _ => rfl) (pd_closed _ _ _ _) (by rintro r cs ⟨rfl, rfl⟩; exact ⟨trivial, pd_closed _ _ _ _⟩) fun n g R hR => B.skip _ _ _ ?_
  unfold F.pref_parser_skip
  refine wLoop.zero (fun m H => ∃ (j : Nat) (c : Nat), m = s.length - j ∧ j ≤ s.length ∧ skipTo s j = skipTo s i ∧ H = ⟨[.cells g 4 [S s, Z j, Z e, Z p]], c⟩) (s.length - i) (gh0.mk ⟨i, n, rfl, hi, rfl, rfl⟩) ?_
  rintro m H ⟨j, c, rfl, hj, he, rfl⟩
  simp only [nd0, Y1n, Y1o, Y1p, Y1q, Y1w, Y1x, Y1y, Y1z, Y20, Y21, Y28, Y2a, AV.cells?, Nat.reduceAdd, Nat.reduceMul]
  by_cases h : j < s.length
  · simp only [nd0, Y1n, Y1o, Y1p, Y1q, Y1w, Y1x, Y1y, Y1z, Y20, Y21, Y28, Y2a, AV.cells?, Nat.reduceAdd, Nat.reduceMul, decide_eq_true (show (j : Int) < (s.length : Int) by omega)]
    rw [idxS h]
    simp only [nd0, Y1n, Y1o, Y1p, Y1q, Y1w, Y1x, Y1y, Y1z, Y20, Y21, Y28, Y2a, AV.cells?, Nat.reduceAdd, Nat.reduceMul]
    by_cases h2 : (s[j].toNat : Int) = 32
    · simp only [nd0, Y1n, Y1o, Y1p, Y1q, Y1w, Y1x, Y1y, Y1z, Y20, Y21, Y28, Y2a, AV.cells?, Nat.reduceAdd, Nat.reduceMul, decide_eq_true h2]
      rw [binA_succ (by omega)]
      simp only [nd0, Y1n, Y1o, Y1p, Y1q, Y1w, Y1x, Y1y, Y1z, Y20, Y21, Y28, Y2a, AV.cells?, Nat.reduceAdd, Nat.reduceMul]
      rw [store1_L rfl]
      simp only [nd0, Y1n, Y1o, Y1p, Y1q, Y1w, Y1x, Y1y, Y1z, Y20, Y21, Y28, Y2a, AV.cells?, Nat.reduceAdd, Nat.reduceMul, Nat.reduceLT]
      refine back0.mk (s.length - (j + 1)) (by omega) ⟨j + 1, c, rfl, by omega, ?_, rfl⟩
      rw [← he]
      exact (skipTo_step ((at_eq h).2 h2)).symm
    · simp only [nd0, Y1n, Y1o, Y1p, Y1q, Y1w, Y1x, Y1y, Y1z, Y20, Y21, Y28, Y2a, AV.cells?, Nat.reduceAdd, Nat.reduceMul, decide_eq_false h2]
      refine hR _ _ (pd s j e p) [] c (.same _) ⟨rfl, ?_⟩
      rw [← he, skipTo_stop (fun e => h2 ((at_eq h).1 e))]
  · simp only [nd0, Y1n, Y1o, Y1p, Y1q, Y1w, Y1x, Y1y, Y1z, Y20, Y21, Y28, Y2a, AV.cells?, Nat.reduceAdd, Nat.reduceMul, decide_eq_false (show ¬ (j : Int) < (s.length : Int) by omega)]
    refine hR _ _ (pd s j e p) [] c (.same _) ⟨rfl, ?_⟩
    rw [← he, skipTo_stop (by rw [List.getElem?_eq_none (by omega)]; simp)]
theorem rnext_spec (B : RefReadBodies E P) (s : Str) (i : Nat) (e p : Int) (hi : i ≤ s.length) (hs : s.length < 1000000) : PC E P 131 4 (pd s i e p) (fun b g => [.ptrL b 0 g]) (fun r cs => r = By (nextC s i) ∧ cs = pd s (skipTo s i) e p) := by
  refine PC.of (fun _ _ => rfl) (pd_closed _ _ _ _) (by rintro r cs ⟨rfl, rfl⟩; exact ⟨trivial, pd_closed _ _ _ _⟩) fun n g R hR => B.next _ _ _ ?_
  unfold F.pref_parser_next
  refine wCall.pc (b := 0) (skip_spec B s i e p hi hs) rfl rfl ?_
  rintro r cs n ⟨rfl, rfl⟩
  unfold nextC at hR
  generalize skipTo s i = k at hR
  unfold pd
  simp only [nd0, Y1n, Y1o, Y1p, Y1q, Y1w, Y1x, Y1y, Y1z, Y20, Y21, Y28, Y2a, AV.cells?, Nat.reduceAdd, Nat.reduceMul]
  by_cases h : k < s.length
  · simp only [nd0, Y1n, Y1o, Y1p, Y1q, Y1w, Y1x, Y1y, Y1z, Y20, Y21, Y28, Y2a, AV.cells?, Nat.reduceAdd, Nat.reduceMul, decide_eq_true (show (k : Int) < (s.length : Int) by omega)]
    rw [idxS h]
    simp only [nd0, Y1n, Y1o, Y1p, Y1q, Y1w, Y1x, Y1y, Y1z, Y20, Y21, Y28, Y2a, AV.cells?, Nat.reduceAdd, Nat.reduceMul]
    refine hR _ _ (pd s k e p) [] n (.same _) ⟨?_, rfl⟩
    simp [at_some h]
  · simp only [nd0, Y1n, Y1o, Y1p, Y1q, Y1w, Y1x, Y1y, Y1z, Y20, Y21, Y28, Y2a, AV.cells?, Nat.reduceAdd, Nat.reduceMul, decide_eq_false (show ¬ (k : Int) < (s.length : Int) by omega)]
    refine hR _ _ (pd s k e p) [] n (.same _) ⟨?_, rfl⟩
    rw [List.getElem?_eq_none (by omega)]; rfl
theorem rfail_spec (B : RefReadBodies E P) (s : Str) (i : Nat) (e : Nat) (hi : i ≤ s.length) (hs : s.length < 1000000) : PC E P 132 4 (pd s i 0 (-1)) (fun b g => [.ptrL b 0 g, Z e]) (fun r cs => r = nilP ∧ cs = pd s (skipTo s i) e (skipTo s i)) := by
  refine PC.of (fun _ _ => rfl) (pd_closed _ _ _ _) (by rintro r cs ⟨rfl, rfl⟩; exact ⟨trivial, pd_closed _ _ _ _⟩) fun n g R hR => B.fail _ _ _ _ ?_
  unfold F.pref_parser_fail
  refine wCall.pc (b := 0) (skip_spec B s i 0 (-1) hi hs) rfl rfl ?_
  rintro r cs n ⟨rfl, rfl⟩
  generalize skipTo s i = k at hR
  refine wJoin.zero (fun H => ∃ n, H = ⟨[.cells g 4 (pd s k e k)], n⟩) ?_ ?_
  · unfold pd
    simp only [nd0, Y1n, Y1o, Y1p, Y1q, Y1w, Y1x, Y1y, Y1z, Y20, Y21, Y28, Y2a, AV.cells?, Nat.reduceAdd, Nat.reduceMul, decide_eq_true (show (0 : Int) = 0 from rfl), show fillA [Z 0, Z 0] [(0, 1, Z e), (1, 1, Z k)] = some [Z e, Z k] from rfl]
    rw [storeN_L (n := 2) (xs := [Z e, Z k]) rfl rfl]
    simp only [nd0, Y1n, Y1o, Y1p, Y1q, Y1w, Y1x, Y1y, Y1z, Y20, Y21, Y28, Y2a, AV.cells?, Nat.reduceAdd, Nat.reduceMul, show putL [S s, Z k, Z 0, Z (-1)] 2 [Z e, Z k] = some [S s, Z k, Z e, Z k] from rfl]
    exact gh0.mk ⟨n, rfl⟩
  · rintro H ⟨n, rfl⟩
    exact hR _ _ (pd s k e k) [] n (.same _) ⟨rfl, rfl⟩
theorem rword_cond (B : RefReadBodies E P) {s : Str} {k j g c : Nat} {K : Kt} (hj : j ≤ s.length) (hkj : k ≤ j) (hs : s.length < 1000000) (h : ∀ c, K (Bo (wc s k j)) ⟨[.cells g 4 [S s, Z k, Z 0, Z (-1)]], c⟩) :
  wGet (nilA (.ptrL 0 0 g)) ⟨[.cells g 4 [S s, Z k, Z 0, Z (-1)]], c⟩ fun t13 H =>
  wGet (faddr 0 t13) H fun t14 H =>
  wGet (load1 t14 H) H fun t15 H =>
  wGet (lenS t15) H fun t16 H =>
  wGet (binA .lss (Z j) t16) H fun t17 H =>
  wGuard t17 true H (fun k => k (.ptrL 0 0 g) H) fun t19 H =>
  wGuard t17 true H (fun k => wGet (nilA t19) H k) fun t20 H =>
  wGuard t17 true H (fun k => wGet (faddr 0 t20) H k) fun t21 H =>
  wGuard t17 true H (fun k => wGet (load1 t21 H) H k) fun t22 H =>
  wGuard t17 true H (fun k => k (Z j) H) fun t23 H =>
  wGuard t17 true H (fun k => wGet (idxStr t22 t23) H k) fun t24 H =>
  wGuard t17 true H (fun k => wGet (convA (.int .i32) t24) H k) fun t25 H =>
  wGuard t17 true H (fun k => wCall E P 16 [(.val (.string ⟨#[32, 38, 124, 33, 94, 126, 40, 41, 61]⟩)), t25] H k) fun t26 H =>
  wGuard t17 true H (fun k => wGet (unA .not t26) H k) fun t27 H =>
  wGet (pickA t17 t27 (.val (.bool false))) H fun t28 H =>
  wGuard t28 true H (fun k => k (Z j) H) fun t30 H =>
  wGuard t28 true H (fun k => k (.ptrL 0 0 g) H) fun t31 H =>
  wGuard t28 true H (fun k => wGet (nilA t31) H k) fun t32 H =>
  wGuard t28 true H (fun k => wGet (faddr 1 t32) H k) fun t33 H =>
  wGuard t28 true H (fun k => wGet (load1 t33 H) H k) fun t34 H =>
  wGuard t28 true H (fun k => wGet (binA .gtr t30 t34) H k) fun t35 H =>
  wGuard t28 true H (fun k => k t35 H) fun t36 H =>
  wGuard t36 false H (fun k => k (.ptrL 0 0 g) H) fun t37 H =>
  wGuard t36 false H (fun k => wGet (nilA t37) H k) fun t38 H =>
  wGuard t36 false H (fun k => wGet (faddr 0 t38) H k) fun t39 H =>
  wGuard t36 false H (fun k => wGet (load1 t39 H) H k) fun t40 H =>
  wGuard t36 false H (fun k => k (Z j) H) fun t41 H =>
  wGuard t36 false H (fun k => wGet (idxStr t40 t41) H k) fun t42 H =>
  wGuard t36 false H (fun k => wGet (binA .neq t42 (.val (.int .u8 48))) H k) fun t43 H =>
  wGuard t36 false H (fun k => k t43 H) fun t44 H =>
  wGuard t44 true H (fun k => k (.ptrL 0 0 g) H) fun t45 H =>
  wGuard t44 true H (fun k => wGet (nilA t45) H k) fun t46 H =>
  wGuard t44 true H (fun k => wGet (faddr 0 t46) H k) fun t47 H =>
  wGuard t44 true H (fun k => wGet (load1 t47 H) H k) fun t48 H =>
  wGuard t44 true H (fun k => k (Z j) H) fun t49 H =>
  wGuard t44 true H (fun k => wGet (idxStr t48 t49) H k) fun t50 H =>
  wGuard t44 true H (fun k => wGet (binA .neq t50 (.val (.int .u8 49))) H k) fun t51 H =>
  wGuard t36 false H (fun k => wGet (pickA t44 t51 (.val (.bool false))) H k) fun t52 H =>
  wGuard t28 true H (fun k => wGet (pickA t36 (.val (.bool true)) t52) H k) fun t53 H =>
  wGet (pickA t28 t53 (.val (.bool false))) H K := by
  simp only [nd0, Y1n, Y1o, Y1p, Y1q, Y1w, Y1x, Y1y, Y1z, Y20, Y21, Y28, Y2a, AV.cells?, Nat.reduceAdd, Nat.reduceMul]
  by_cases hl : j < s.length
  · have hat := at_some hl
    simp only [nd0, Y1n, Y1o, Y1p, Y1q, Y1w, Y1x, Y1y, Y1z, Y20, Y21, Y28, Y2a, AV.cells?, Nat.reduceAdd, Nat.reduceMul, decide_eq_true (show (j : Int) < (s.length : Int) by omega)]
    rw [idxS hl]
    simp only [nd0, Y1n, Y1o, Y1p, Y1q, Y1w, Y1x, Y1y, Y1z, Y20, Y21, Y28, Y2a, AV.cells?, Nat.reduceAdd, Nat.reduceMul, wrap_i32]
    refine wCall.fx (ContainsRune_spec B.r stop9 s[j] (by unfold ascii; decide) (by decide)) fun n2 => ?_
    simp only [nd0, Y1n, Y1o, Y1p, Y1q, Y1w, Y1x, Y1y, Y1z, Y20, Y21, Y28, Y2a, AV.cells?, Nat.reduceAdd, Nat.reduceMul]
    by_cases hm : s[j] ∈ stop9
    · simp only [nd0, Y1n, Y1o, Y1p, Y1q, Y1w, Y1x, Y1y, Y1z, Y20, Y21, Y28, Y2a, AV.cells?, Nat.reduceAdd, Nat.reduceMul, decide_eq_true hm]
      have : wc s k j = false := by simp only [wc, hat, decide_eq_true hm]; simp
      rw [this] at h
      exact h _
    · simp only [nd0, Y1n, Y1o, Y1p, Y1q, Y1w, Y1x, Y1y, Y1z, Y20, Y21, Y28, Y2a, AV.cells?, Nat.reduceAdd, Nat.reduceMul, decide_eq_false hm]
      by_cases hjk : k < j
      · simp only [nd0, Y1n, Y1o, Y1p, Y1q, Y1w, Y1x, Y1y, Y1z, Y20, Y21, Y28, Y2a, AV.cells?, Nat.reduceAdd, Nat.reduceMul, decide_eq_true (show (k : Int) < (j : Int) by omega)]
        have : wc s k j = true := by simp only [wc, hat, decide_eq_false hm, decide_eq_true hjk]; simp
        rw [this] at h
        exact h _
      · simp only [nd0, Y1n, Y1o, Y1p, Y1q, Y1w, Y1x, Y1y, Y1z, Y20, Y21, Y28, Y2a, AV.cells?, Nat.reduceAdd, Nat.reduceMul, decide_eq_false (show ¬ (k : Int) < (j : Int) by omega)]
        rw [idxS hl]
        simp only [nd0, Y1n, Y1o, Y1p, Y1q, Y1w, Y1x, Y1y, Y1z, Y20, Y21, Y28, Y2a, AV.cells?, Nat.reduceAdd, Nat.reduceMul]
        by_cases h48 : (s[j].toNat : Int) = 48
        · simp only [nd0, Y1n, Y1o, Y1p, Y1q, Y1w, Y1x, Y1y, Y1z, Y20, Y21, Y28, Y2a, AV.cells?, Nat.reduceAdd, Nat.reduceMul, decide_eq_true h48]
          have e := (byk (n := 48) (by omega)).1 h48
          have : wc s k j = false := by simp only [wc, hat, e]; simp [hjk]
          rw [this] at h
          exact h _
        · simp only [nd0, Y1n, Y1o, Y1p, Y1q, Y1w, Y1x, Y1y, Y1z, Y20, Y21, Y28, Y2a, AV.cells?, Nat.reduceAdd, Nat.reduceMul, decide_eq_false h48]
          rw [idxS hl]
          simp only [nd0, Y1n, Y1o, Y1p, Y1q, Y1w, Y1x, Y1y, Y1z, Y20, Y21, Y28, Y2a, AV.cells?, Nat.reduceAdd, Nat.reduceMul]
          have n48 : s[j] ≠ 48 := fun e => h48 ((byk (n := 48) (by omega)).2 e)
          by_cases h49 : (s[j].toNat : Int) = 49
          · simp only [nd0, Y1n, Y1o, Y1p, Y1q, Y1w, Y1x, Y1y, Y1z, Y20, Y21, Y28, Y2a, AV.cells?, Nat.reduceAdd, Nat.reduceMul, decide_eq_true h49]
            have e := (byk (n := 49) (by omega)).1 h49
            have : wc s k j = false := by simp only [wc, hat, e]; simp [hjk]
            rw [this] at h
            exact h _
          · simp only [nd0, Y1n, Y1o, Y1p, Y1q, Y1w, Y1x, Y1y, Y1z, Y20, Y21, Y28, Y2a, AV.cells?, Nat.reduceAdd, Nat.reduceMul, decide_eq_false h49]
            have n49 : s[j] ≠ 49 := fun e => h49 ((byk (n := 49) (by omega)).2 e)
            have : wc s k j = true := by simp only [wc, hat, decide_eq_false hm]; simp [n48, n49]
            rw [this] at h
            exact h _
  · have : wc s k j = false := by
      cases hw : wc s k j
      · rfl
      · exact absurd (wc_lt hw) hl
    rw [this] at h
    simp only [nd0, Y1n, Y1o, Y1p, Y1q, Y1w, Y1x, Y1y, Y1z, Y20, Y21, Y28, Y2a, AV.cells?, Nat.reduceAdd, Nat.reduceMul, decide_eq_false (show ¬ (j : Int) < (s.length : Int) by omega)]
    exact h _
def WJ (s : Str) (k j : Nat) (g : Nat) (H : AH) : Prop := ∃ cs n, H = ⟨[.cells g 4 cs], n⟩ ∧ (if wordAt s k = [] then cs = pd s k 3 k else if nameOk (wordAt s k) = false then cs = pd s k 5 k else cs = pd s j 0 (-1))
theorem rword_spec (B : RefReadBodies E P) (s : Str) (i : Nat) (hi : i ≤ s.length) (hs : s.length < 1000000) : PC E P 142 4 (pd s i 0 (-1)) (fun b g => [.ptrL b 0 g]) (fun r cs => match wordR s i with
    | .ok w j => r = S w ∧ cs = pd s j 0 (-1)
    | .no e p => ∃ w, r = S w ∧ ∃ j : Int, cs = pd s j e p) := by
  refine PC.of (fun _ _ => rfl) (pd_closed _ _ _ _) ?_ fun n g R hR => B.word _ _ _ ?_
  · intro r cs h
    cases hw : wordR s i with
    | ok w j => rw [hw] at h; obtain ⟨rfl, rfl⟩ := h; exact ⟨trivial, pd_closed _ _ _ _⟩
    | no e p => rw [hw] at h; obtain ⟨w, rfl, j, rfl⟩ := h; exact ⟨trivial, pd_closed _ _ _ _⟩
  unfold F.pref_parser_word
  refine wCall.pc (b := 0) (skip_spec B s i 0 (-1) hi hs) rfl rfl ?_
  rintro r cs n ⟨rfl, rfl⟩
  have hk := skipTo_len hi
  have hid := skipTo_idem s i
  unfold wordR at hR
  generalize skipTo s i = k at hk hR hid
  refine wGet_some.2 (wGet_some.2 ⟨⟨Z k, by simp [load1, AH.cells, pd], ?_⟩⟩)
  refine wLoop.one (fun m t H => ∃ (j c : Nat), m = s.length - j ∧ k ≤ j ∧ j ≤ s.length ∧ wEnd s k j = wEnd s k k ∧ t = Z j ∧ H = ⟨[.cells g 4 [S s, Z k, Z 0, Z (-1)]], c⟩) (s.length - k) (gh1.mk ⟨k, n, rfl, Nat.le_refl _, hk, rfl, rfl, rfl⟩) ?_
  rintro m t H ⟨j, c, rfl, hkj, hj, he, rfl, rfl⟩
  refine rword_cond B hj hkj hs fun c => ?_
  cases hw : wc s k j with
  | true =>
    have := wc_lt hw
    simp only [nd0, Y1n, Y1o, Y1p, Y1q, Y1w, Y1x, Y1y, Y1z, Y20, Y21, Y28, Y2a, AV.cells?, Nat.reduceAdd, Nat.reduceMul]
    rw [binA_succ (by omega)]
    simp only [nd0, Y1n, Y1o, Y1p, Y1q, Y1w, Y1x, Y1y, Y1z, Y20, Y21, Y28, Y2a, AV.cells?, Nat.reduceAdd, Nat.reduceMul]
    exact back1.mk (s.length - (j + 1)) (by omega) ⟨j + 1, c, rfl, by omega, by omega, by rw [← he, wEnd_step hw], rfl, rfl⟩
  | false =>
    simp only [nd0, Y1n, Y1o, Y1p, Y1q, Y1w, Y1x, Y1y, Y1z, Y20, Y21, Y28, Y2a, AV.cells?, Nat.reduceAdd, Nat.reduceMul]
    rw [wEnd_stop hw] at he
    rw [sliceS_S (l := k) (h := j) rfl rfl (by omega) (by omega) (by omega)]
    have hwd : (s.take ((j : Int)).toNat).drop ((k : Int)).toNat = wordAt s k := by
      rw [wordAt, ← he]; simp
    rw [hwd]
    simp only [nd0, Y1n, Y1o, Y1p, Y1q, Y1w, Y1x, Y1y, Y1z, Y20, Y21, Y28, Y2a, AV.cells?, Nat.reduceAdd, Nat.reduceMul]
    refine wJoin.zero (WJ s k j g) ?_ ?_
    · by_cases h1 : wordAt s k = []
      · rw [decide_eq_true h1]
        refine wIf_true.2 ?_
        refine wCall.pc (b := 0) (rfail_spec B s k 3 hk hs) rfl rfl ?_
        rintro r cs n ⟨rfl, rfl⟩
        exact gh0.mk ⟨_, _, rfl, by rw [if_pos h1, hid]; rfl⟩
      · rw [decide_eq_false h1]
        refine wIf_false.2 ?_
        have hlw : (wordAt s k).length < 4611686018427387904 := by
          simp only [wordAt, List.length_drop, List.length_take]; omega
        refine wCall.fx (NameCheck_spec B.name (wordAt s k) hlw) fun n => ?_
        simp only [nd0, Y1n, Y1o, Y1p, Y1q, Y1w, Y1x, Y1y, Y1z, Y20, Y21, Y28, Y2a, AV.cells?, Nat.reduceAdd, Nat.reduceMul]
        by_cases h2 : nameOk (wordAt s k) = false
        · simp only [nd0, Y1n, Y1o, Y1p, Y1q, Y1w, Y1x, Y1y, Y1z, Y20, Y21, Y28, Y2a, AV.cells?, Nat.reduceAdd, Nat.reduceMul, h2]
          refine wCall.pc (b := 0) (rfail_spec B s k 5 hk hs) rfl rfl ?_
          rintro r cs n ⟨rfl, rfl⟩
          exact gh0.mk ⟨_, _, rfl, by rw [if_neg h1, if_pos h2, hid]; rfl⟩
        · simp only [nd0, Y1n, Y1o, Y1p, Y1q, Y1w, Y1x, Y1y, Y1z, Y20, Y21, Y28, Y2a, AV.cells?, Nat.reduceAdd, Nat.reduceMul, show nameOk (wordAt s k) = true by simpa using h2]
          rw [store1_L rfl]
          simp only [nd0, Y1n, Y1o, Y1p, Y1q, Y1w, Y1x, Y1y, Y1z, Y20, Y21, Y28, Y2a, AV.cells?, Nat.reduceAdd, Nat.reduceMul, Nat.reduceLT]
          exact gh0.mk ⟨_, _, rfl, by rw [if_neg h1, if_neg h2]; rfl⟩
    · rintro H ⟨cs, n, rfl, hcs⟩
      by_cases h1 : wordAt s k = []
      · rw [if_pos h1] at hR hcs
        exact hR _ _ _ [] n (.same _) ⟨_, rfl, _, hcs⟩
      · rw [if_neg h1] at hR hcs
        by_cases h2 : nameOk (wordAt s k) = false
        · rw [if_pos h2] at hR hcs
          exact hR _ _ _ [] n (.same _) ⟨_, rfl, _, hcs⟩
        · rw [if_neg h2] at hR hcs
          exact hR _ _ _ [] n (.same _) ⟨rfl, by rw [hcs, he]⟩
end
end Go.Sc
namespace Go.Sc
open Go
set_option linter.unusedSimpArgs false
set_option linter.unusedVariables false
set_option linter.unnecessarySimpa false
/-- what the document's reader answers -/
def PR (s : Str) (r : Rs Ex) (x : AV) (cs : List AV) : Prop := match r with
  | .ok e j => x = e.ref ∧ cs = pd s j 0 (-1)
  | .no e p => x.closed ∧ x.scalar = true ∧ ∃ j : Int, cs = pd s j e p
theorem PR.closed {s : Str} {r : Rs Ex} {x : AV} {cs : List AV} (h : PR s r x cs) : x.closed ∧ AV.closedL cs := by
  unfold PR at h
  split at h
  · obtain ⟨rfl, rfl⟩ := h; exact ⟨Ex.ref_closed _, pd_closed _ _ _ _⟩
  · obtain ⟨hz, _, j, rfl⟩ := h; exact ⟨hz, pd_closed _ _ _ _⟩
theorem Ex.refL_len (l : List Ex) : (Ex.refL l).length = l.length := by rw [Ex.refL_map, List.length_map]
theorem Ex.refL_snoc (l : List Ex) (x : Ex) : Ex.refL (l ++ [x]) = Ex.refL l ++ [x.ref] := by simp [Ex.refL_map]
section
variable {E : Env} {P : Program}
/-- what stands at the head of a row's loop -/
def RowI (s : Str) (c : UInt8) (f : Nat → Rs Ex) (i g : Nat) (m : Nat) (t : AV) (H : AH) : Prop :=
  (∃ (n : Nat) (l : List Ex) (j : Nat) (z : Blk) (c' : Nat), Gr 1 z 1 t (Ex.refL l) l.length ∧ l ≠ [] ∧ j ≤ s.length ∧ l.length ≤ j + 1 ∧ s.length < n + (skipTo s j + 1) ∧ m = s.length - j + 1 ∧ H = ⟨[.cells g 4 (pd s j 0 (-1)), z], c'⟩ ∧
    rowR s c f (s.length + 1) i [] = (if s[skipTo s j]? = some c then rowR s c f n (skipTo s j + 1) l else .ok l (skipTo s j))) ∨
  (∃ (e p : Nat) (cs : List AV) (z : Blk) (j : Int) (c' : Nat), rowR s c f (s.length + 1) i [] = .no e p ∧ Gr 1 z 1 t cs cs.length ∧ AV.closedL cs ∧ (∀ x ∈ cs, x.scalar = true) ∧ cs ≠ [] ∧ m = 0 ∧ H = ⟨[.cells g 4 (pd s j e p), z], c'⟩)
set_option maxHeartbeats 1000000 in
theorem row_spec (B : RefReadBodies E P) (s : Str) (hs : s.length < 1000000) (c : UInt8) (hc0 : c ≠ 0) (hc128 : c.toNat < 128) (mk : List Ex → Ex) (hmk : ∀ l, (mk l).ref = .ptrF [S [c], S [], .slN (Ex.refL l) l.length] 0) (f : Nat → Rs Ex) (hgood : GoodR s f) (herr : ErrR f) (kf : Nat) (fsf ccf : Nat → Nat → List AV) (a : Nat)
    (hren : ∀ h g, AV.renL h (fsf 0 g) = fsf (h 0) g ∧ AV.renL h (ccf 0 g) = ccf (h 0) g) (hf : ∀ i, i ≤ s.length → PC E P kf 4 (pd s i 0 (-1)) (fun b g => fsf b g ++ [Z a] ++ ccf b g) (PR s (f i))) (i : Nat) (hi : i ≤ s.length) :
    PC E P 137 4 (pd s i 0 (-1)) (fun b g => [.ptrL b 0 g, By c, Z a, .fn kf (fsf b g) (ccf b g)]) (PR s (allR s c mk f i)) := by
  refine PC.of (fun h g => by simp only [AV.renL, AV.ren, (hren h g).1, (hren h g).2]) (pd_closed _ _ _ _) (fun _ _ h => h.closed) fun n g R hR => B.row _ _ _ _ _ _ ?_
  unfold F.pref_parser_row
  have hbnd : ∀ k : Nat, k ≤ 1000001 → (k + 1) * 8 ≤ mostBytes ∧ k + 1 ≤ mostBytes := fun k hk => by simp [mostBytes]; omega
  refine wCallV.pc (b := 0) (hf i hi) rfl rfl ?_
  intro r cs n1 hr
  have hrow : rowR s c f (s.length + 1) i [] = (match f i with
    | .no e p => .no e p
    | .ok x j => if s[skipTo s j]? = some c then rowR s c f s.length (skipTo s j + 1) [x] else .ok [x] (skipTo s j)) := by
    rw [rowR]; cases f i <;> rfl
  have hrs : r.scalar = true ∧ r.closed := by
    unfold PR at hr
    split at hr
    · obtain ⟨rfl, _⟩ := hr; exact ⟨Ex.ref_scalar _, Ex.ref_closed _⟩
    · exact ⟨hr.2.1, hr.1⟩
  simp only [nd0, Y1n, Y1o, Y1p, Y1q, Y1w, Y1x, Y1y, Y1z, Y20, Y21, Y28, Y2a, AV.cells?, Nat.reduceAdd, Nat.reduceMul]
  refine wNewS.T (l := [r]) (l' := [r]) (fill1 hrs.1) (.refl _) rfl ?_
  simp only [nd0, Y1n, Y1o, Y1p, Y1q, Y1w, Y1x, Y1y, Y1z, Y20, Y21, Y28, Y2a, AV.cells?, Nat.reduceAdd, Nat.reduceMul]
  have hinit : ∃ m, gh1 (RowI s c f i g m) (.slT 1 [r] 1 n1) ⟨[.cells g 4 cs, .tail n1 1], n1 + 1⟩ := by
    cases hx : f i with
    | ok x j =>
      rw [hx] at hr hrow
      obtain ⟨rfl, rfl⟩ := hr
      obtain ⟨a1, a2, a3, a4⟩ := hgood i x j hi hx
      have := skipTo_le s j
      exact ⟨_, gh1.mk (.inl ⟨s.length, [x], j, .tail n1 1, n1 + 1, .mk, by simp, a2, by simp, by omega, rfl, rfl, hrow⟩)⟩
    | no e p =>
      rw [hx] at hr hrow
      obtain ⟨h1, h2, j, rfl⟩ := hr
      exact ⟨_, gh1.mk (.inr ⟨e, p, [r], .tail n1 1, j, n1 + 1, hrow, .mk, ⟨h1, trivial⟩, by simpa using h2, by simp, rfl, rfl⟩)⟩
  obtain ⟨m0, hinit⟩ := hinit
  refine wLoop.one (RowI s c f i g) m0 hinit ?_
  have hfin : ∀ (t : AV) (ys : List AV) (z : Blk) (cs' : List AV) (c' : Nat), Gr 1 z 1 t ys ys.length → AV.closedL ys → ys ≠ [] → (∀ v, (ys = [v] ∧ (v.scalar = true → True) ∨ ys.length ≠ 1 ∧ v = .ptrF [S [c], S [], .slN ys ys.length] 0) → PR s (allR s c mk f i) v cs') →
      wGet (lenA t) ⟨[.cells g 4 cs', z], c'⟩ fun t40 H =>
      wGet (binA .eql t40 (.val (.int .i64 1))) H fun t41 H =>
      wIf t41 (
        wGet (iaddr 1 t (.val (.int .i64 0))) H fun t43 H =>
        wGet (load1 t43 H) H fun t44 H =>
        R t44 H) (
        wGet (convA .string (By c)) H fun t46 H =>
        wAgg (fillA [(.val (.string ⟨#[]⟩)), (.val (.string ⟨#[]⟩)), (.val (.slice none 0 0))] [(0, 1, t46), (2, 1, t)]) H fun t48 H =>
        wNew 3 (AV.cells? t48) H fun t49 H =>
        R t49 H) := by
    intro t ys z cs' c' hg hcc hne hP
    rw [hg.len]
    simp only [nd0, Y1n, Y1o, Y1p, Y1q, Y1w, Y1x, Y1y, Y1z, Y20, Y21, Y28, Y2a, AV.cells?, Nat.reduceAdd, Nat.reduceMul]
    by_cases h1 : ys.length = 1
    · obtain ⟨y, rfl⟩ := List.length_eq_one_iff.1 h1
      simp only [nd0, Y1n, Y1o, Y1p, Y1q, Y1w, Y1x, Y1y, Y1z, Y20, Y21, Y28, Y2a, AV.cells?, Nat.reduceAdd, Nat.reduceMul, show (((1 : Nat)) : Int) = 1 from rfl]
      rw [hg.at (k := .i64) (i := 0) (by simp)]
      simp only [nd0, Y1n, Y1o, Y1p, Y1q, Y1w, Y1x, Y1y, Y1z, Y20, Y21, Y28, Y2a, AV.cells?, Nat.reduceAdd, Nat.reduceMul, show ((0 : Int).toNat * 1) = 0 from rfl]
      exact hR _ _ cs' [z] c' (.same _) (hP y (.inl ⟨rfl, fun _ => trivial⟩))
    · simp only [nd0, Y1n, Y1o, Y1p, Y1q, Y1w, Y1x, Y1y, Y1z, Y20, Y21, Y28, Y2a, AV.cells?, Nat.reduceAdd, Nat.reduceMul, decide_eq_false (show ¬ (ys.length : Int) = 1 by omega), conv_byte c hc128]
      rw [show (AV.val (.string ⟨#[]⟩)) = S [] from rfl, fillA_one rfl (by simp), fillA_one hg.scalar (by simp)]
      simp only [nd0, Y1n, Y1o, Y1p, Y1q, Y1w, Y1x, Y1y, Y1z, Y20, Y21, Y28, Y2a, AV.cells?, Nat.reduceAdd, Nat.reduceMul, fillA_nil]
      refine wNew.F (l := [S [c], S [], t]) (l' := [S [c], S [], .slN ys ys.length]) rfl (.cons (.refl _) (.cons (.refl _) (.one hg.sub))) ?_
      exact hR _ _ cs' [z] c' (.same _) (hP _ (.inr ⟨h1, rfl⟩))
  have p0 : ∀ j e p, (pd s j e p)[0]? = some (S s) := fun _ _ _ => rfl
  have p1 : ∀ j e p, (pd s j e p)[1]? = some (Z j) := fun _ _ _ => rfl
  have p2 : ∀ j e p, (pd s j e p)[2]? = some (Z e) := fun _ _ _ => rfl
  rintro m t H (⟨n, l, j, z, c', hg, hl, hj, hlj, hn, rfl, rfl, hrw⟩ | ⟨e, p, cs, z, j, c', hrw, hg, hcc, hsc, hne, rfl, rfl⟩)
  · -- so far none is wrong
    have b1 := skipTo_le s j
    have b2 := skipTo_len hj
    simp only [nd0, Y1n, Y1o, Y1p, Y1q, Y1w, Y1x, Y1y, Y1z, Y20, Y21, Y28, Y2a, AV.cells?, Nat.reduceAdd, Nat.reduceMul, p2, decide_eq_true (show (0 : Int) = 0 from rfl)]
    refine wCall.pc (b := 0) (rnext_spec B s j 0 (-1) hj hs) rfl rfl ?_
    rintro r cs n2 ⟨rfl, rfl⟩
    simp only [nd0, Y1n, Y1o, Y1p, Y1q, Y1w, Y1x, Y1y, Y1z, Y20, Y21, Y28, Y2a, AV.cells?, Nat.reduceAdd, Nat.reduceMul]
    by_cases hc : s[skipTo s j]? = some c
    · have hlt := lt_of_get hc
      rw [if_pos hc] at hrw
      rw [decide_eq_true ((nextC_eq hc0).2 hc)]
      refine wIf_true.2 ?_
      simp only [nd0, Y1n, Y1o, Y1p, Y1q, Y1w, Y1x, Y1y, Y1z, Y20, Y21, Y28, Y2a, AV.cells?, Nat.reduceAdd, Nat.reduceMul, p1]
      rw [binA_succ (by omega)]
      simp only [nd0, Y1n, Y1o, Y1p, Y1q, Y1w, Y1x, Y1y, Y1z, Y20, Y21, Y28, Y2a, AV.cells?, Nat.reduceAdd, Nat.reduceMul]
      rw [store1_L rfl]
      simp only [nd0, Y1n, Y1o, Y1p, Y1q, Y1w, Y1x, Y1y, Y1z, Y20, Y21, Y28, Y2a, AV.cells?, Nat.reduceAdd, Nat.reduceMul, show (1 : Nat) < (pd s (skipTo s j) 0 (-1)).length from (by show 1 < 4; omega)]
      refine wCallV.pc (b := 0) (hf (skipTo s j + 1) (by omega)) rfl rfl ?_
      intro r cs n3 hr
      obtain ⟨n, rfl⟩ : ∃ k, n = k + 1 := ⟨n - 1, by omega⟩
      have hst : rowR s c f (n + 1) (skipTo s j + 1) l = (match f (skipTo s j + 1) with
        | .no e p => .no e p
        | .ok x k => if s[skipTo s k]? = some c then rowR s c f n (skipTo s k + 1) (l ++ [x]) else .ok (l ++ [x]) (skipTo s k)) := by rw [rowR] <;> (cases f (skipTo s j + 1) <;> rfl)
      rw [hst] at hrw
      cases hx : f (skipTo s j + 1) with
      | no e p =>
        rw [hx] at hr hrw
        obtain ⟨k1, k2, jj, rfl⟩ := hr
        refine wNewS.F' (l := [r]) (fill1 k2) rfl ?_
        refine wApp.one hg rfl (Ex.refL_len l) (.refl _) k2 (hbnd _ (by omega)) ?_
        intro z' x' c2 hg'
        have hg2 : Gr 1 z' 1 x' (Ex.refL l ++ [r]) (Ex.refL l ++ [r]).length := by rw [List.length_append, Ex.refL_len]; exact hg'
        refine back1.mk 0 (by omega) (.inr ⟨e, p, Ex.refL l ++ [r], z', jj, c2, hrw, hg2, ?_, ?_, by simp, rfl, rfl⟩)
        · rw [AV.closedL_iff]; intro x hx
          rcases List.mem_append.1 hx with hx | hx
          · exact AV.closedL_iff.1 (Ex.refL_closed l) x hx
          · simp at hx; subst hx; exact k1
        · intro x hx
          rcases List.mem_append.1 hx with hx | hx
          · rw [Ex.refL_map] at hx; obtain ⟨y, _, rfl⟩ := List.mem_map.1 hx; exact Ex.ref_scalar y
          · simp at hx; subst hx; exact k2
      | ok x jj =>
        rw [hx] at hr hrw
        obtain ⟨rfl, rfl⟩ := hr
        obtain ⟨a1, a2, a3, a4⟩ := hgood _ x jj (by omega) hx
        have b3 := skipTo_le s jj
        refine wNewS.F' (l := [x.ref]) (fill1 (Ex.ref_scalar x)) rfl ?_
        refine wApp.one hg rfl (Ex.refL_len l) (.refl _) (Ex.ref_scalar x) (hbnd _ (by omega)) ?_
        intro z' x' c2 hg'
        have hg2 : Gr 1 z' 1 x' (Ex.refL (l ++ [x])) (l ++ [x]).length := by rw [Ex.refL_snoc, List.length_append]; exact hg'
        refine back1.mk (s.length - jj + 1) (by omega) (.inl ⟨n, l ++ [x], jj, z', c2, hg2, by simp, a2, by simp; omega, by omega, rfl, rfl, hrw⟩)
    · rw [if_neg hc] at hrw
      rw [decide_eq_false (fun h => hc ((nextC_eq hc0).1 h))]
      refine wIf_false.2 ?_
      refine hfin t (Ex.refL l) z _ _ (by rw [Ex.refL_len]; exact hg) (Ex.refL_closed l) (by rw [Ex.refL_map]; simpa using hl) fun v hv => ?_
      unfold allR
      rw [hrw]
      refine ⟨?_, rfl⟩
      rcases hv with ⟨h1, _⟩ | ⟨h1, rfl⟩
      · rw [Ex.refL_map] at h1
        match l, h1 with
        | [x], h1 => simp at h1; simp [foldR, h1]
      · rw [Ex.refL_len] at h1 ⊢
        rw [← hmk]
        match l, h1, hl with
        | x :: y :: r, _, _ => rfl
  · have he : e ≠ 0 := rowR_err herr _ _ _ hrw
    simp only [nd0, Y1n, Y1o, Y1p, Y1q, Y1w, Y1x, Y1y, Y1z, Y20, Y21, Y28, Y2a, AV.cells?, Nat.reduceAdd, Nat.reduceMul, p2, decide_eq_false (show ¬ (e : Int) = 0 by omega)]
    refine hfin t cs z _ _ hg hcc hne fun v hv => ?_
    unfold allR
    rw [hrw]
    rcases hv with ⟨h1, _⟩ | ⟨h1, rfl⟩
    · subst h1
      exact ⟨hcc.1, hsc v (by simp), j, rfl⟩
    · exact ⟨⟨trivial, trivial, hcc, trivial⟩, rfl, j, rfl⟩
end
end Go.Sc
namespace Go.Sc
open Go Go.RowKit
set_option linter.unusedVariables false
/-- the context as a call begins: all that is there is frozen -/
def Cx.start (W : World) : Cx := { w := W, al := fun _ => 0, base := fun _ => 0, gen := fun _ => none, sz := fun _ => 0, csz := fun _ => 0, fz := fun b => b < W.heap.size, fc := fun _ _ => False, ctr := 0 }
/-- what is known of variables is so -/
def Env.met (E : Env) (W : World) : Prop := ∀ g cs, E.gl g = some cs → AV.closedL cs ∧ CRel E (Cx.start W) cs (E.gn g) 0
theorem HRel.start {E : Env} {W : World} (hg : E.met W) : HRel E (Cx.start W) ⟨[], 0⟩ :=
  ⟨rfl, fun _ _ => rfl, by simp, fun _ h => absurd rfl h, by simp, fun _ _ h => absurd rfl h, fun _ h => absurd rfl h, fun _ h => h, fun _ _ h => h.elim, hg⟩
theorem Later.below {W : World} {c : Cx} (h : Later (Cx.start W) c) : Below W.heap.size W c.w :=
  ⟨h.os, h.tape, h.output, h.size, fun k hk => h.keep k hk fun b hb => absurd rfl hb⟩

/-- a law's call -/
theorem calls_law {E : Env} {P : Program} {f : FuncId} {fn : Func} {n : Ann} {args : List AV} {r : Value} {W : World} (hf : P.funcs[f]? = some fn) (h : bodyW E P fn n args ⟨[], 0⟩ (fun x _ => x = .val r)) {vs : List Value} (hv : LRel E (Cx.start W) args vs) (hg : E.met W) :
    Calls P f vs.toArray W fun e w' => e = .returned r ∧ Below W.heap.size W w' := by
  refine (calls_of_body hf h (HRel.start hg) hv).mono ?_
  rintro e w' ⟨x, v, c', H', rfl, rfl, rfl, _, hv, hl⟩
  simp only [VRel] at hv
  subst hv
  exact ⟨rfl, hl.below⟩

theorem rel_str {E : Env} {c : Cx} (b : ByteArray) : VRel E c (S b.data.toList) (.string b) := by simp only [VRel]
theorem crel_start {E : Env} {W : World} {b : Nat} (hb : b < W.heap.size) {xs : List AV} {o : Nat} (h : ∀ (i : Nat) x, xs[i]? = some x → ∃ u, W.cell? ⟨b, o + i, none⟩ = some u ∧ VRel E (Cx.start W) x u) : CRel E (Cx.start W) xs b o :=
  CRel.of fun i x hi => ⟨.inl hb, h i x hi⟩
theorem list_of {α : Type} {Q : Nat → α → Prop} : ∀ n, (∀ i, i < n → ∃ x, Q i x) → ∃ xs : List α, xs.length = n ∧ ∀ (i : Nat) x, xs[i]? = some x → Q i x
  | 0, _ => ⟨[], rfl, by simp⟩
  | n + 1, h => by
    obtain ⟨xs, h1, h2⟩ := list_of n fun i hi => h i (by omega)
    obtain ⟨y, hy⟩ := h n (by omega)
    refine ⟨xs ++ [y], by simp [h1], fun i x hx => ?_⟩
    by_cases hi : i < xs.length
    · rw [List.getElem?_append_left hi] at hx; exact h2 i x hx
    · have hl := lt_of_get hx
      simp at hl
      have : i = xs.length := by omega
      subst this
      simp at hx
      rw [h1]; exact hx ▸ hy

section
variable {H : Type} {enc : TypeId × Value → H} {P : Program} {W : World} {E : Env} {fuel : Nat} {t : TypeId} {cs : List Value} {x : DataW H × List MemPlace}
theorem trod_i64r (ht : P.underlying t = some (.int .i64)) (h : DataW.trod enc P W 0 (fun _ => true) true fuel t cs = some x) : ∃ z, cs = [.int .i64 z] ∧ -9223372036854775808 ≤ z ∧ z ≤ 9223372036854775807 := by
  obtain ⟨n, h1, _, h2⟩ := DataW.trod_int ht h
  exact ⟨n, h1, by simpa [Lit.wf, IntKind.min, IntKind.max, IntKind.signed, IntKind.bits] using h2⟩
theorem cells_get {a : Addr} {n : Nat} {vs : List Value} (h : W.cells? 0 a n = some vs) : vs.length = n ∧ ∀ j v, vs[j]? = some v → W.cell? (a.add j) = some v := by
  simp only [World.cells?, Nat.zero_le, if_true] at h
  have hl : vs.length = n := by simpa using mapM_some_length h
  refine ⟨hl, fun j v hj => ?_⟩
  have hjn := lt_of_get hj
  have := mapM_some_get h j j (by rw [List.getElem?_range (by omega)])
  rw [this, hj]
theorem cell_spot {a : Addr} {v : Value} (h : W.cell? a = some v) : a.spot = none ∧ a.block < W.heap.size := by
  simp only [World.cell?] at h
  split at h
  · rename_i hb
    refine ⟨?_, ?_⟩
    · cases hs : a.spot with
      | none => rfl
      | some s => simp [hs] at h
    · by_cases hb' : a.block < W.heap.size
      · exact hb'
      · rw [Array.getElem?_eq_none (by omega)] at hb; cases hb
  · cases h
theorem crel_flat {α : Type} {f : α → List AV} {n b : Nat} (hb : b < W.heap.size) (hn : ∀ a, (f a).length = n) : ∀ (xs : List α) (o : Nat), (∀ (i : Nat) x, xs[i]? = some x → ∃ vs : List Value, LRel E (Cx.start W) (f x) vs ∧ ∀ j v, vs[j]? = some v → W.cell? ⟨b, o + i * n + j, none⟩ = some v) → CRel E (Cx.start W) (xs.map f).flatten b o
  | [], _, _ => by simp [CRel]
  | x :: xs, o, h => by
    simp only [List.map_cons, List.flatten_cons]
    refine CRel.append (crel_start hb fun i y hi => ?_) ?_
    · obtain ⟨vs, h1, h2⟩ := h 0 x rfl
      obtain ⟨u, h3, h4⟩ := h1.get hi
      exact ⟨u, by simpa using h2 i u h3, h4⟩
    · rw [hn]
      refine crel_flat hb hn xs (o + n) fun i y hi => ?_
      obtain ⟨vs, h1, h2⟩ := h (i + 1) y (by simpa using hi)
      refine ⟨vs, h1, fun j v hj => ?_⟩
      rw [← h2 j v hj]
      congr 2
      rw [Nat.add_mul]; omega

def inI (z : Int) : Prop := -9223372036854775808 ≤ z ∧ z ≤ 9223372036854775807
end
end Go.Sc
namespace Go.Sc
open Go Go.RowKit Go.WideShapes
set_option linter.unusedVariables false
def Sized {H : Type} (P : Program) (t : TypeId) (d : DataW H) : Prop := ∀ n ∈ d.weights P t, n ≤ reachBytes
theorem weights_all {H : Type} {P : Program} {e : TypeId} {d : DataW H} {n : Nat} (hn : n ∈ d.weights P e) : ∀ {l : List (DataW H)}, d ∈ l → n ∈ DataW.weightsAll P e l
  | y :: l, h => by
    simp only [DataW.weightsAll, List.mem_append]
    rcases List.mem_cons.1 h with rfl | h
    · exact .inl hn
    · exact .inr (weights_all hn h)
theorem Sized.of_each {H : Type} {P : Program} {ts : List TypeId} {ds : List (DataW H)} (h : (DataW.weightsEach P ts ds).all (· ≤ reachBytes) = true) {j : Nat} {t : TypeId} {d : DataW H} (ht : ts[j]? = some t) (hd : ds[j]? = some d) : Sized P t d := fun n hn => by
  have := List.all_eq_true.1 h n (DataW.weights_mem_each ht hd n hn)
  simpa using this

/-- a type's values, as 'f' tells them -/
structure Dec {H : Type} (enc : TypeId × Value → H) (P : Program) (W : World) (E : Env) (t : TypeId) {α : Type} (f : α → List AV) (Q : α → Prop) : Prop where
  ok : ∀ fuel cs x, DataW.trod enc P W 0 (fun _ => true) true fuel t cs = some x → Sized P t x.1 → ∃ a, Q a ∧ LRel E (Cx.start W) (f a) cs

section
variable {H : Type} {enc : TypeId × Value → H} {P : Program} {W : World} {E : Env} {t : TypeId}
theorem LRel.one {c : Cx} {x : AV} {v : Value} (h : VRel E c x v) : LRel E c [x] [v] := by simp only [LRel]; exact ⟨v, [], rfl, h, rfl⟩
theorem LRel.one' {c : Cx} {x : AV} {vs : List Value} (h : LRel E c [x] vs) : ∃ v, vs = [v] ∧ VRel E c x v := by
  simp only [LRel] at h
  obtain ⟨u, us, rfl, h1, rfl⟩ := h
  exact ⟨u, rfl, h1⟩
theorem Dec.map {α β : Type} {f : α → List AV} {Q : α → Prop} (h : Dec enc P W E t f Q) {g : β → List AV} {Q' : β → Prop} (φ : α → β) (hφ : ∀ a, Q a → Q' (φ a) ∧ g (φ a) = f a) : Dec enc P W E t g Q' where
  ok := fun fuel cs x hx hs => by
    obtain ⟨a, h1, h2⟩ := h.ok fuel cs x hx hs
    exact ⟨φ a, (hφ a h1).1, (hφ a h1).2 ▸ h2⟩
theorem Dec.i64 (ht : P.underlying t = some (.int .i64)) : Dec enc P W E t (fun z => [Z z]) inI where
  ok := fun fuel cs x hx _ => by
    obtain ⟨z, rfl, h⟩ := trod_i64r ht hx
    exact ⟨z, h, .one (by simp [VRel])⟩
theorem Dec.str (ht : P.underlying t = some .string) : Dec enc P W E t (fun s => [S s]) (fun s : Str => s.length ≤ reachBytes) where
  ok := fun fuel cs x hx hs => by
    obtain ⟨b, rfl, rfl, _⟩ := DataW.trod_string ht hx
    exact ⟨b.data.toList, hs _ (by simp [DataW.weights]), .one (rel_str b)⟩
theorem Dec.slice {α : Type} {e : TypeId} {f : α → List AV} {Q : α → Prop} (n : Nat) (d : Dec enc P W E e f Q) (hn : ∀ a, (f a).length = n) (h0 : 0 < n) (ht : P.underlying t = some (.slice e)) (hc : P.cellsOf e = n) :
    Dec enc P W E t (fun xs : List α => [.slN (xs.map f).flatten xs.length]) (fun xs => (∀ x ∈ xs, Q x) ∧ xs.length * P.bytesOf e ≤ reachBytes) where
  ok := fun fuel cs x h hs => by
    rcases DataW.trod_slice ht h with ⟨rfl, _⟩ | ⟨a, len, cap, elems, rest, m, _, rfl, rfl, _, hl, hmx, hel, he, hr, _⟩
    · exact ⟨[], ⟨by simp, by simp⟩, .one (by simp [VRel])⟩
    · simp only [Sized, DataW.weights, ht, List.mem_cons, List.mem_append, List.length_map] at hs
      have hlen : (elems.length + rest.length) * P.bytesOf e ≤ reachBytes := hs _ (.inl rfl)
      obtain ⟨hr1, hr2⟩ := hr rfl
      have hcell : ∀ i, i < len → ∃ vs y, W.cells? 0 (a.add (i * n)) n = some vs ∧ DataW.trod enc P W 0 (fun _ => true) true m e vs = some y ∧ Sized P e y.1 := by
        intro i hi
        have h1 := he i hi
        rw [hc, List.getElem?_eq_getElem (by omega)] at h1
        simp only [Option.bind_eq_some_iff] at h1
        obtain ⟨vs, h2, h3⟩ := h1
        exact ⟨vs, _, h2, h3, fun k hk => hs k (.inr (.inl (weights_all hk (List.mem_map.2 ⟨_, List.getElem_mem _, rfl⟩))))⟩
      have hzero : cap = 0 ∨ ∃ v, W.cell? a = some v := by
        by_cases hl0 : 0 < len
        · obtain ⟨vs, _, h1, _⟩ := hcell 0 hl0
          obtain ⟨g1, g2⟩ := cells_get h1
          have : vs[0]? = some vs[0] := List.getElem?_eq_getElem (by omega)
          exact .inr ⟨_, by simpa [Addr.add] using g2 0 _ this⟩
        · by_cases hcp : 0 < cap
          · have h1 := hr2 0 (by omega)
            rw [hc, List.getElem?_eq_getElem (by omega)] at h1
            simp only [Option.bind_eq_some_iff] at h1
            obtain ⟨vs, h2, _⟩ := h1
            obtain ⟨g1, g2⟩ := cells_get h2
            have : vs[0]? = some vs[0] := List.getElem?_eq_getElem (by omega)
            have hlen0 : len = 0 := by omega
            subst hlen0
            exact .inr ⟨_, by simpa [Addr.add] using g2 0 _ this⟩
          · exact .inl (by omega)
      obtain ⟨xs, hx1, hx2⟩ := list_of (Q := fun i (x : α) => Q x ∧ ∃ vs : List Value, LRel E (Cx.start W) (f x) vs ∧ ∀ j v, vs[j]? = some v → W.cell? ((a.add (i * n)).add j) = some v) len fun i hi => by
        obtain ⟨vs, y, h1, h2, h3⟩ := hcell i hi
        obtain ⟨g1, g2⟩ := cells_get h1
        obtain ⟨z, h3, h4⟩ := d.ok m vs y h2 h3
        exact ⟨z, h3, vs, h4, g2⟩
      refine ⟨xs, ⟨fun x hx => ?_, ?_⟩, .one ?_⟩
      · obtain ⟨i, hi, rfl⟩ := List.getElem_of_mem hx
        exact (hx2 i _ (List.getElem?_eq_getElem hi)).1
      · rw [hx1, ← hel]
        exact Nat.le_trans (Nat.mul_le_mul_right _ (by omega)) hlen
      · simp only [VRel]
        refine .inr ⟨a, cap, by rw [hx1], by omega, hzero.imp id ?_⟩
        rintro ⟨v, hv⟩
        have hs := cell_spot hv
        obtain ⟨blk, off, spot⟩ := a
        have hspot : spot = none := hs.1
        subst hspot
        refine ⟨blk, off, rfl, crel_flat hs.2 hn xs off fun i x hi => ?_⟩
        obtain ⟨_, vs, h1, h2⟩ := hx2 i x hi
        refine ⟨vs, h1, fun j v hj => ?_⟩
        have := h2 j v hj
        rwa [Addr.add_at, Addr.add_at] at this
/-! ### arguments -/
theorem Dec.arg_str {α : Type} {g : α → AV} {Q : α → Prop} {r : Reach} {b0 : Nat} {v : Value} {x : DataW H} {ps : List MemPlace} (d : Dec enc P W E t (fun a => [g a]) Q) (ht : P.underlying t = some .string) (hv : Value.okWide P W r b0 t v)
    (h : DataW.Trod enc P W 0 (fun _ => true) true t v x ps) (hs : Sized P t x) : ∃ a, Q a ∧ VRel E (Cx.start W) (g a) v := by
  obtain ⟨n, rfl⟩ := okWide_string ht hv
  obtain ⟨fuel, hf⟩ := h
  obtain ⟨a, h1, h2⟩ := d.ok _ _ _ hf hs
  obtain ⟨u, e, h3⟩ := h2.one'
  simp [Value.cells] at e
  exact ⟨a, h1, e ▸ h3⟩
/-! ### variables -/
theorem laid_at {l : List (String × DataW Unit)} {n : String} {d : DataW Unit} : ∀ {l : List (String × DataW Unit)} {ps : List MemPlace}, DataW.LaidVars P W l ps → (n, d) ∈ l → ∃ g t cs fuel p, P.globalNamed n = some g ∧ (P.globals[g]?).map (·.type) = some t ∧ W.var? P n = some cs ∧ DataW.trod (fun _ => ()) P W 0 (fun _ => true) false fuel t cs.toList = some (d, p)
  | [], _, _, hm => by simp at hm
  | (n', d') :: l, ps, h, hm => by
    obtain ⟨g, t, cs, fuel, p, q, h1, h2, h3, h4, h5, _⟩ := h
    rcases List.mem_cons.1 hm with e | hm
    · injection e with e1 e2
      subst e1; subst e2
      exact ⟨g, t, cs, fuel, p, h1, h2, h3, h4⟩
    · exact laid_at (l := l) h5 hm
end
end Go.Sc
namespace Go.Sc
open Go Go.RowKit
section
variable {E : Env} {P : Program}
theorem FX.ofCalls {k : Nat} {fn : Func} {args : List AV} {r : AV} (hf : P.funcs[E.fn k]? = some fn) (hn : (fn.name == "runtime.NumGoroutine") = false) (hb : fn.body.isNone = false) (ca : AV.closedL args) (hfl : r.flat) (hcl : r.closed)
    (h : ∀ (c : Cx) (vs : List Value), (∀ b, c.fz b → b < c.w.heap.size) → (∀ g cs, E.gl g = some cs → CRel E c cs (E.gn g) 0) → LRel E c args vs →
      Calls P (E.fn k) vs.toArray c.w fun e w' => ∃ v, e = .returned v ∧ Below c.w.heap.size c.w w' ∧ VRel E c r v) : FX E P k args r where
  ca := ca
  cr := hcl
  ok := by
    intro n c vs hH hv o a next Q hnext
    have hrun : (callFunc (E.fn k) vs.toArray).run P c.w = .ok (.enter (E.fn k) vs.toArray) c.w := by
      have hn' : ¬ ((fn.name == "runtime.NumGoroutine") = true) := by rw [hn]; simp
      have hb' : ¬ (fn.body.isNone = true) := by rw [hb]; simp
      simp only [callFunc, Sem.run_bind, run_program, Result.andThen_ok, hf, if_neg hn', if_neg hb', Sem.run_pure]
    rw [hrun]
    simp only [Oper.upon]
    have hgen : ∀ b, c.gen b = none := fun b => hH.out b (by simp)
    refine (h c vs hH.fzlt (fun g cs e => (hH.glob g cs e).2) hv).mono ?_
    rintro e w' ⟨v, rfl, bel, hrv⟩
    have hle : c.le { c with w := w' } := ⟨Nat.le_refl _, fun b hb => ⟨hb, bel.block b (hH.fzlt b hb)⟩, fun b o hb => ⟨.inr hb, cell_of_heap (bel.block b (hH.fclt b o hb)) _ _⟩, fun _ _ _ e => ⟨e, rfl, rfl, rfl, rfl⟩, fun _ _ _ _ _ h => h⟩
    have hL : Later c { c with w := w' } := {
      le := hle
      os := bel.os
      tape := bel.tape
      output := bel.output
      size := bel.size
      keep := fun i hi _ => bel.block i hi
      own := fun b hb => .inl ⟨b, hb, rfl⟩
      fz := fun i hi => .inl hi
      fc := fun i j hi => .inl hi }
    refine hnext v w' ⟨r, { c with w := w' }, ⟨[], n⟩, rfl, rfl, ⟨hH.ctr, hH.out, by simp, fun b hb => absurd (hgen b) hb, by simp, fun b _ hb => absurd (hgen b) hb, fun b hb => absurd (hgen b) hb, fun b hb => Nat.lt_of_lt_of_le (hH.fzlt b hb) bel.size, fun b j hb => Nat.lt_of_lt_of_le (hH.fclt b j hb) bel.size, hH.globLe hle⟩, VRel.ofFlat r v hfl hrv, hL⟩
/-- api.Tell: the code in an error -/
theorem FX.tell {k g X : Nat} {fn : Func} {ev : Value} (hf : P.funcs[E.fn k]? = some fn) (hn : (fn.name == "runtime.NumGoroutine") = false) (hb : fn.body.isNone = false) (hty : E.ty 1 = X) (hgl : E.gl g = some [.val ev])
    (h0 : ∀ w, Calls P (E.fn k) #[.nilIface] w fun e w' => e = .returned (.int .i64 0) ∧ Below w.heap.size w w')
    (h1 : ∀ z w, w.cell? ⟨E.gn g, 0, none⟩ = some ev → Calls P (E.fn k) #[.iface X (.int .i64 z)] w fun e w' => e = .returned (.int .i64 z) ∧ Below w.heap.size w w') (e : Int) : FX E P k [Er e] (Z e) := by
  refine FX.ofCalls hf hn hb (by simp [AV.closedL, Er_closed]) (by simp [AV.flat]) (by simp [AV.closed]) fun c vs _ hg hv => ?_
  obtain ⟨v, rfl, hr⟩ := hv.one'
  by_cases he : e = 0
  · subst he
    simp only [Er, if_true, VRel] at hr
    subst hr
    refine (h0 c.w).mono fun e w' h => ?_
    exact ⟨_, h.1, h.2, by simp [VRel]⟩
  · simp only [Er, he, if_false, VRel] at hr
    obtain ⟨u, rfl, _, rfl⟩ := hr
    have hc := hg g _ hgl
    simp only [CRel, VRel] at hc
    obtain ⟨⟨_, u, hu, rfl⟩, _⟩ := hc
    rw [hty]
    refine (h1 e c.w hu).mono fun e w' h => ?_
    exact ⟨_, h.1, h.2, by simp [VRel]⟩
/-- of an error at a place -/
theorem FX.tellAt {k g T : Nat} {fn : Func} {ev : Value} (hf : P.funcs[E.fn k]? = some fn) (hn : (fn.name == "runtime.NumGoroutine") = false) (hb : fn.body.isNone = false) (hty : E.ty 2 = T) (hgl : E.gl g = some [.val ev])
    (h1 : ∀ z p w, w.cell? ⟨E.gn g, 0, none⟩ = some ev → w.cell? p = some (.int .i64 z) → Calls P (E.fn k) #[.iface T (.pointer (some p))] w fun e w' => e = .returned (.int .i64 z) ∧ Below w.heap.size w w') (e p : Int) : FX E P k [At e p] (Z e) := by
  refine FX.ofCalls hf hn hb (by simp [AV.closedL, At, AV.closed]) (by simp [AV.flat]) (by simp [AV.closed]) fun c vs _ hg hv => ?_
  obtain ⟨v, rfl, hr⟩ := hv.one'
  simp only [At, VRel, CRel] at hr
  obtain ⟨u, rfl, _, b, o, rfl, ⟨_, x, hx, rfl⟩, _⟩ := hr
  have hc := hg g _ hgl
  simp only [CRel, VRel] at hc
  obtain ⟨⟨_, u, hu, rfl⟩, _⟩ := hc
  rw [hty]
  refine (h1 e ⟨b, o, none⟩ c.w hu hx).mono fun e w' h => ?_
  exact ⟨_, h.1, h.2, by simp [VRel]⟩
end
end Go.Sc
namespace Go.Sc
open Go
set_option linter.unusedSimpArgs false
set_option linter.unusedVariables false
structure PlaceBodies (E : Env) (P : Program) : Prop where
  place : Body1 E P 84 F.plain_Place
  tell : ∀ e, FX E P 53 [Er e] (Z e)
  tellAt : ∀ e p, FX E P 53 [At e p] (Z e)
  noUnwrap : HasM E P 6 1 false
section
variable {E : Env} {P : Program}
theorem Place_spec (B : PlaceBodies E P) (e : Int) : FX E P 84 [Er e] (.tup [Z e, Z (-1)]) := by
  refine FX.of' (by simp [AV.closedL, Er_closed]) (by simp [AV.closed, AV.closedL]) fun n R hR => B.place _ _ _ ?_
  unfold F.plain_Place
  refine wCall.fx (B.tell e) fun n => ?_
  refine wJoin.zero (fun H => True) ?_ (fun H _ => hR _ _ rfl)
  refine wLoop.one (fun m t H => t = Er e) 0 (gh1.mk rfl) ?_
  rintro m t H rfl
  by_cases he : e = 0
  · subst he
    rw [Er_zero]
    simp only [nd0, Y1n, Y1o, Y1p, Y1q, Y1w, Y1x, Y1y, Y1z, Y20, Y21, Y28, Y2a, AV.cells?, Nat.reduceAdd, Nat.reduceMul]
    exact gh0.mk trivial
  · rw [Er_ne he]
    simp only [nd0, Y1n, Y1o, Y1p, Y1q, Y1w, Y1x, Y1y, Y1z, Y20, Y21, Y28, Y2a, AV.cells?, Nat.reduceAdd, Nat.reduceMul, show assertA 2 (.val (.pointer none)) (.ifc 1 (Z e)) = some (.tup [nilP, .val (.bool false)]) from rfl]
    refine ⟨.inr ⟨1, _, false, rfl, B.noUnwrap, ?_⟩⟩
    simp only [nd0, Y1n, Y1o, Y1p, Y1q, Y1w, Y1x, Y1y, Y1z, Y20, Y21, Y28, Y2a, AV.cells?, Nat.reduceAdd, Nat.reduceMul]
    exact gh0.mk trivial
theorem at_spec (B : PlaceBodies E P) (hB : Body2 E P 77 F.law_at) (c e p : Int) : FX E P 77 [Er c, .agg [Z e, Z p]] (Bo (decide (c = e) && decide (-1 = p))) := by
  refine FX.of' (by simp [AV.closedL, Er_closed, AV.closed]) (by simp [AV.closed]) fun n R hR => hB _ _ _ _ ?_
  unfold F.law_at
  refine wNew.F' (l := [Z e, Z p]) rfl ?_
  refine wCall.fx (Place_spec B c) fun n => ?_
  simp only [nd0, Y1n, Y1o, Y1p, Y1q, Y1w, Y1x, Y1y, Y1z, Y20, Y21, Y28, Y2a, AV.cells?, Nat.reduceAdd, Nat.reduceMul]
  by_cases h : c = e
  · simp only [nd0, Y1n, Y1o, Y1p, Y1q, Y1w, Y1x, Y1y, Y1z, Y20, Y21, Y28, Y2a, AV.cells?, Nat.reduceAdd, Nat.reduceMul, decide_eq_true h]
    exact hR _ _ (by rw [decide_eq_true h]; simp)
  · simp only [nd0, Y1n, Y1o, Y1p, Y1q, Y1w, Y1x, Y1y, Y1z, Y20, Y21, Y28, Y2a, AV.cells?, Nat.reduceAdd, Nat.reduceMul, decide_eq_false h]
    exact hR _ _ (by rw [decide_eq_false h]; simp)
theorem Bare_spec (hB : Body1 E P 87 F.ref_Bare) (e : Int) : FX E P 87 [Z e] (.agg [Z e, Z (-1)]) := by
  refine FX.of' (by simp [AV.closedL, AV.closed]) (by simp [AV.closed, AV.closedL]) fun n R hR => hB _ _ _ ?_
  unfold F.ref_Bare
  refine wNew.L rfl ?_
  refine ⟨⟨[Z e, Z (-1)], rfl, ?_⟩⟩
  simp only [nd0, Y1n, Y1o, Y1p, Y1q, Y1w, Y1x, Y1y, Y1z, Y20, Y21, Y28, Y2a, AV.cells?, Nat.reduceAdd, Nat.reduceMul]
  rw [storeN_L (n := 2) (xs := [Z e, Z (-1)]) rfl rfl]
  simp only [nd0, Y1n, Y1o, Y1p, Y1q, Y1w, Y1x, Y1y, Y1z, Y20, Y21, Y28, Y2a, AV.cells?, Nat.reduceAdd, Nat.reduceMul, show ∀ a b a' b' : AV, putL [a, b] 0 [a', b'] = some [a', b'] from fun _ _ _ _ => rfl, show retPack [some (.agg [Z e, Z (-1)])] = some (.agg [Z e, Z (-1)]) from rfl]
  exact hR _ _ rfl
end
end Go.Sc
namespace Go.Sc
open Go
set_option linter.unusedSimpArgs false
set_option linter.unusedVariables false
set_option linter.unnecessarySimpa false
section
variable {E : Env} {P : Program}
/-- how the document's reader of pieces is told -/
def PieceOk (E : Env) (P : Program) (s : Str) (f : Nat → Rs Ex) (a : Nat) : Prop := ∀ i, i ≤ s.length → PC E P 141 4 (pd s i 0 (-1)) (fun b g => [.ptrL b 0 g, Z a]) (PR s (f i))
theorem whole1_spec (B : RefReadBodies E P) (s : Str) (hs : s.length < 1000000) (f : Nat → Rs Ex) (hgood : GoodR s f) (herr : ErrR f) (a : Nat) (hf : PieceOk E P s f a) (i : Nat) (hi : i ≤ s.length) :
    PC E P 136 4 (pd s i 0 (-1)) (fun b g => [Z a, .ptrF [.ptrL b 0 g] 0]) (PR s (andR s f i)) := by
  refine PC.of (fun _ _ => rfl) (pd_closed _ _ _ _) (fun _ _ h => h.closed) fun n g R hR => B.whole1 _ _ _ _ ?_
  unfold F.pref_parser_whole_c1
  simp only [nd0, Y1n, Y1o, Y1p, Y1q, Y1w, Y1x, Y1y, Y1z, Y20, Y21, Y28, Y2a, AV.cells?, Nat.reduceAdd, Nat.reduceMul]
  refine wCall.pc (b := 0) (row_spec B s hs 38 (by decide) (by decide) .and (fun _ => rfl) f hgood herr 141 (fun b g => [.ptrL b 0 g]) (fun _ _ => []) a (fun _ _ => ⟨rfl, rfl⟩) hf i hi) rfl rfl ?_
  intro r cs n hr
  exact hR _ _ cs [] n (.same _) hr
theorem whole_spec (B : RefReadBodies E P) (s : Str) (hs : s.length < 1000000) (f : Nat → Rs Ex) (hgood : GoodR s f) (herr : ErrR f) (a : Nat) (hf : PieceOk E P s f a) (i : Nat) (hi : i ≤ s.length) :
    PC E P 130 4 (pd s i 0 (-1)) (fun b g => [.ptrL b 0 g, Z a]) (PR s (orR s f i)) := by
  refine PC.of (fun _ _ => rfl) (pd_closed _ _ _ _) (fun _ _ h => h.closed) fun n g R hR => B.whole _ _ _ _ ?_
  unfold F.pref_parser_whole
  refine wNew.F' (l := [.ptrL 0 0 g]) rfl ?_
  simp only [nd0, Y1n, Y1o, Y1p, Y1q, Y1w, Y1x, Y1y, Y1z, Y20, Y21, Y28, Y2a, AV.cells?, Nat.reduceAdd, Nat.reduceMul]
  refine wCall.pc (b := 0) (row_spec B s hs 124 (by decide) (by decide) .or (fun _ => rfl) (andR s f) (andR_good hgood) (allR_err herr) 136 (fun _ _ => []) (fun b g => [.ptrF [.ptrL b 0 g] 0]) a (fun _ _ => ⟨rfl, rfl⟩) (whole1_spec B s hs f hgood herr a hf) i hi) rfl rfl ?_
  intro r cs n hr
  exact hR _ _ cs [] n (.same _) hr
theorem or_join {b1 b2 : Bool} {g : Nat} {cs : List AV} {x : Nat} {k : KN 1} {n : Nat}
    (h : ∀ n, k (Bo (b1 || b2)) ⟨[.cells g 4 cs], n⟩) : wJoin 1 (fun J => wIf (Bo b1) (J (Bo b1) ⟨[.cells g 4 cs], n⟩) (J (Bo b2) ⟨[.cells g 4 cs], n⟩)) k := by
  refine wJoin.one (fun t H => t = Bo (b1 || b2) ∧ ∃ n, H = ⟨[.cells g 4 cs], n⟩) ?_ ?_
  · cases b1
    · exact wIf_false.2 (gh1.mk ⟨rfl, _, rfl⟩)
    · exact wIf_true.2 (gh1.mk ⟨rfl, _, rfl⟩)
  · rintro t H ⟨rfl, n, rfl⟩
    exact h n
set_option maxHeartbeats 2000000 in
theorem piece_spec (B : RefReadBodies E P) (s : Str) (hs : s.length < 1000000) : ∀ (d : Nat), d ≤ 20 → PieceOk E P s (oneR s d) (20 - d) := by
  intro d
  induction d with
  | zero =>
    intro _ i hi
    refine PC.of (fun _ _ => rfl) (pd_closed _ _ _ _) (fun _ _ h => h.closed) fun n g R hR => B.piece _ _ _ _ ?_
    unfold F.pref_parser_piece
    unfold pd
    simp only [nd0, Y1n, Y1o, Y1p, Y1q, Y1w, Y1x, Y1y, Y1z, Y20, Y21, Y28, Y2a, AV.cells?, Nat.reduceAdd, Nat.reduceMul, show decide ((0 : Int) = 0) = true from rfl, show decide ((20 : Int) ≤ ((20 - 0 : Nat) : Int)) = true from rfl]
    refine wCall.pc (b := 0) (rfail_spec B s i 4 hi hs) rfl rfl ?_
    rintro r cs n2 ⟨rfl, rfl⟩
    exact hR _ _ _ [] n2 (.same _) ⟨trivial, rfl, _, rfl⟩
  | succ d ih =>
    intro hd i hi
    have ih := ih (by omega)
    have hgood := oneR_good s d
    have herr := oneR_err s d
    refine PC.of (fun _ _ => rfl) (pd_closed _ _ _ _) (fun _ _ h => h.closed) fun n g R hR => B.piece _ _ _ _ ?_
    unfold F.pref_parser_piece
    have hsc : ∀ x : AV, x.scalar = true → fillA (List.replicate 1 [nilP]).flatten [(0, 1, x)] = some [x] := fun x h => fill1 h
    have hadd : binA .add (Z ((20 - (d + 1) : Nat) : Int)) (Z 1) = some (Z ((20 - d : Nat) : Int)) := by
      rw [binA_add (by omega)]; congr 3; omega
    have p1 : ∀ j e p, (pd s j e p)[1]? = some (Z j) := fun _ _ _ => rfl
    have p2 : ∀ j e p, (pd s j e p)[2]? = some (Z e) := fun _ _ _ => rfl
    have plen : ∀ j e p, (1 : Nat) < (pd s j e p).length := fun _ _ _ => by show 1 < 4; omega
    have hset : ∀ j e p j', (pd s j e p).set 1 (Z j') = pd s j' e p := fun _ _ _ _ => rfl
    simp only [nd0, Y1n, Y1o, Y1p, Y1q, Y1w, Y1x, Y1y, Y1z, Y20, Y21, Y28, Y2a, AV.cells?, Nat.reduceAdd, Nat.reduceMul, p2, show decide ((0 : Int) = 0) = true from rfl, decide_eq_false (show ¬ (20 : Int) ≤ ((20 - (d + 1) : Nat) : Int) by omega)]
    refine wCall.pc (b := 0) (rnext_spec B s i 0 (-1) hi hs) rfl rfl ?_
    rintro r cs n2 ⟨rfl, rfl⟩
    have hk := skipTo_len hi
    have hid := skipTo_idem s i
    have hnx := fun (c : UInt8) (hc : c ≠ 0) => nextC_eq (s := s) (i := i) hc
    have hget := fun (c : UInt8) => nextC_get (s := s) (i := i) (c := c)
    unfold oneR at hR
    generalize skipTo s i = k at hk hid hR hnx hget
    generalize nextC s i = N at hnx hget
    have hstep : ∀ n, k + 1 ≤ s.length → binA .add (Z (k : Int)) (Z 1) = some (Z ((k + 1 : Nat) : Int)) ∧ store1 (.ptrL 0 (0 + 1) g) (Z ((k + 1 : Nat) : Int)) ⟨[.cells g 4 (pd s k 0 (-1))], n⟩ = some ⟨[.cells g 4 (pd s ((k + 1 : Nat) : Int) 0 (-1))], n⟩ := fun n h => by
      refine ⟨binA_succ (by omega), ?_⟩
      rw [store1_L rfl]
      simp [blkDo, pd]
    simp only [nd0, Y1n, Y1o, Y1p, Y1q, Y1w, Y1x, Y1y, Y1z, Y20, Y21, Y28, Y2a, AV.cells?, Nat.reduceAdd, Nat.reduceMul]
    have e33 : (N.toNat : Int) = 33 ↔ s[k]? = some 33 := hnx 33 (by decide)
    by_cases h33 : s[k]? = some 33
    · rw [if_pos h33] at hR
      have hlt := lt_of_get h33
      simp only [nd0, Y1n, Y1o, Y1p, Y1q, Y1w, Y1x, Y1y, Y1z, Y20, Y21, Y28, Y2a, AV.cells?, Nat.reduceAdd, Nat.reduceMul, decide_eq_true (e33.2 h33), p1]
      rw [binA_succ (by omega)]
      simp only [nd0, Y1n, Y1o, Y1p, Y1q, Y1w, Y1x, Y1y, Y1z, Y20, Y21, Y28, Y2a, AV.cells?, Nat.reduceAdd, Nat.reduceMul]
      rw [store1_L rfl]
      simp only [nd0, Y1n, Y1o, Y1p, Y1q, Y1w, Y1x, Y1y, Y1z, Y20, Y21, Y28, Y2a, AV.cells?, Nat.reduceAdd, Nat.reduceMul, plen, hset, hadd]
      refine wCall.pc (b := 0) (ih (k + 1) (by omega)) rfl rfl ?_
      intro r cs n3 hr
      cases hx : oneR s d (k + 1) with
      | no e p =>
        rw [hx] at hr hR
        obtain ⟨h1, h2, j, rfl⟩ := hr
        refine wNewS.F' (l := [r]) (hsc r h2) rfl ?_
        simp only [nd0, Y1n, Y1o, Y1p, Y1q, Y1w, Y1x, Y1y, Y1z, Y20, Y21, Y28, Y2a, AV.cells?, Nat.reduceAdd, Nat.reduceMul, show fillA [S [], S [], nilS] [(0, 1, S [33]), (2, 1, .slN [r] 1)] = some [S [33], S [], .slN [r] 1] from rfl]
        refine wNew.F' rfl ?_
        exact hR _ _ _ [] n3 (.same _) ⟨⟨trivial, trivial, ⟨h1, trivial⟩, trivial⟩, rfl, j, rfl⟩
      | ok x j =>
        rw [hx] at hr hR
        obtain ⟨rfl, rfl⟩ := hr
        refine wNewS.F' (l := [x.ref]) (hsc _ (Ex.ref_scalar x)) rfl ?_
        simp only [nd0, Y1n, Y1o, Y1p, Y1q, Y1w, Y1x, Y1y, Y1z, Y20, Y21, Y28, Y2a, AV.cells?, Nat.reduceAdd, Nat.reduceMul, show fillA [S [], S [], nilS] [(0, 1, S [33]), (2, 1, .slN [x.ref] 1)] = some [S [33], S [], .slN [x.ref] 1] from rfl]
        refine wNew.F' rfl ?_
        exact hR _ _ _ [] n3 (.same _) ⟨rfl, rfl⟩
    rw [if_neg h33] at hR
    simp only [nd0, Y1n, Y1o, Y1p, Y1q, Y1w, Y1x, Y1y, Y1z, Y20, Y21, Y28, Y2a, AV.cells?, Nat.reduceAdd, Nat.reduceMul, decide_eq_false (fun h => h33 (e33.1 h))]
    have e40 : (N.toNat : Int) = 40 ↔ s[k]? = some 40 := hnx 40 (by decide)
    by_cases h40 : s[k]? = some 40
    · rw [if_pos h40] at hR
      have hlt := lt_of_get h40
      simp only [nd0, Y1n, Y1o, Y1p, Y1q, Y1w, Y1x, Y1y, Y1z, Y20, Y21, Y28, Y2a, AV.cells?, Nat.reduceAdd, Nat.reduceMul, decide_eq_true (e40.2 h40), p1]
      rw [binA_succ (by omega)]
      simp only [nd0, Y1n, Y1o, Y1p, Y1q, Y1w, Y1x, Y1y, Y1z, Y20, Y21, Y28, Y2a, AV.cells?, Nat.reduceAdd, Nat.reduceMul]
      rw [store1_L rfl]
      simp only [nd0, Y1n, Y1o, Y1p, Y1q, Y1w, Y1x, Y1y, Y1z, Y20, Y21, Y28, Y2a, AV.cells?, Nat.reduceAdd, Nat.reduceMul, plen, hset, hadd]
      refine wCall.pc (b := 0) (whole_spec B s hs (oneR s d) hgood herr _ ih (k + 1) (by omega)) rfl rfl ?_
      intro r cs n3 hr
      cases hx : orR s (oneR s d) (k + 1) with
      | no e p =>
        rw [hx] at hr hR
        have he : e ≠ 0 := allR_err (allR_err herr) _ _ _ hx
        obtain ⟨h1, h2, j, rfl⟩ := hr
        simp only [nd0, Y1n, Y1o, Y1p, Y1q, Y1w, Y1x, Y1y, Y1z, Y20, Y21, Y28, Y2a, AV.cells?, Nat.reduceAdd, Nat.reduceMul, p2, p1, decide_eq_false (show ¬ (e : Int) = 0 by omega), binA_add']
        rw [store1_L rfl]
        simp only [nd0, Y1n, Y1o, Y1p, Y1q, Y1w, Y1x, Y1y, Y1z, Y20, Y21, Y28, Y2a, AV.cells?, Nat.reduceAdd, Nat.reduceMul, plen, hset]
        exact hR _ _ (pd s _ e p) [] n3 (.same _) ⟨h1, h2, _, rfl⟩
      | ok x j =>
        rw [hx] at hr hR
        obtain ⟨rfl, rfl⟩ := hr
        obtain ⟨a1, a2, a3, a4⟩ := orR_good hgood _ x j (by omega) hx
        have b2 := skipTo_len a2
        simp only [nd0, Y1n, Y1o, Y1p, Y1q, Y1w, Y1x, Y1y, Y1z, Y20, Y21, Y28, Y2a, AV.cells?, Nat.reduceAdd, Nat.reduceMul, p2, show decide ((0 : Int) = 0) = true from rfl]
        refine wCall.pc (b := 0) (rnext_spec B s j 0 (-1) a2 hs) rfl rfl ?_
        rintro r cs n4 ⟨rfl, rfl⟩
        simp only [closeR] at hR
        have e41 : ((nextC s j).toNat : Int) = 41 ↔ s[skipTo s j]? = some 41 := nextC_eq (c := 41) (by decide)
        by_cases h41 : s[skipTo s j]? = some 41
        · rw [if_pos h41] at hR
          have hlt2 := lt_of_get h41
          simp only [nd0, Y1n, Y1o, Y1p, Y1q, Y1w, Y1x, Y1y, Y1z, Y20, Y21, Y28, Y2a, AV.cells?, Nat.reduceAdd, Nat.reduceMul, decide_eq_true (e41.2 h41), p1]
          rw [binA_succ (by omega)]
          simp only [nd0, Y1n, Y1o, Y1p, Y1q, Y1w, Y1x, Y1y, Y1z, Y20, Y21, Y28, Y2a, AV.cells?, Nat.reduceAdd, Nat.reduceMul]
          rw [store1_L rfl]
          simp only [nd0, Y1n, Y1o, Y1p, Y1q, Y1w, Y1x, Y1y, Y1z, Y20, Y21, Y28, Y2a, AV.cells?, Nat.reduceAdd, Nat.reduceMul, plen, hset]
          exact hR _ _ (pd s _ 0 (-1)) [] n4 (.same _) ⟨rfl, rfl⟩
        · rw [if_neg h41] at hR
          simp only [nd0, Y1n, Y1o, Y1p, Y1q, Y1w, Y1x, Y1y, Y1z, Y20, Y21, Y28, Y2a, AV.cells?, Nat.reduceAdd, Nat.reduceMul, decide_eq_false (fun h => h41 (e41.1 h))]
          refine wCall.pc (b := 0) (rfail_spec B s (skipTo s j) 3 b2 hs) rfl rfl ?_
          rintro r cs n5 ⟨rfl, rfl⟩
          exact hR _ _ _ [] n5 (.same _) ⟨trivial, rfl, _, by rw [skipTo_idem]⟩
    rw [if_neg h40] at hR
    simp only [nd0, Y1n, Y1o, Y1p, Y1q, Y1w, Y1x, Y1y, Y1z, Y20, Y21, Y28, Y2a, AV.cells?, Nat.reduceAdd, Nat.reduceMul, decide_eq_false (fun h => h40 (e40.1 h))]
    have e48 : (N.toNat : Int) = 48 ↔ s[k]? = some 48 := hnx 48 (by decide)
    have e49 : (N.toNat : Int) = 49 ↔ s[k]? = some 49 := hnx 49 (by decide)
    have e94 : (N.toNat : Int) = 94 ↔ s[k]? = some 94 := hnx 94 (by decide)
    have e126 : (N.toNat : Int) = 126 ↔ s[k]? = some 126 := hnx 126 (by decide)
    refine or_join (x := 0) fun n3 => ?_
    by_cases hk1 : s[k]? = some 48 ∨ s[k]? = some 49
    · have hb : (decide ((N.toNat : Int) = 48) || decide ((N.toNat : Int) = 49)) = true := by
        rcases hk1 with h | h
        · rw [decide_eq_true (e48.2 h)]; rfl
        · rw [decide_eq_true (e49.2 h), Bool.or_true]
      have hlt : k < s.length := by rcases hk1 with h | h <;> exact lt_of_get h
      have hN : N.toNat < 128 := by rcases hk1 with h | h <;> rw [hget _ h] <;> decide
      rw [hb]
      simp only [nd0, Y1n, Y1o, Y1p, Y1q, Y1w, Y1x, Y1y, Y1z, Y20, Y21, Y28, Y2a, AV.cells?, Nat.reduceAdd, Nat.reduceMul, p1]
      rw [binA_succ (by omega)]
      simp only [nd0, Y1n, Y1o, Y1p, Y1q, Y1w, Y1x, Y1y, Y1z, Y20, Y21, Y28, Y2a, AV.cells?, Nat.reduceAdd, Nat.reduceMul]
      rw [store1_L rfl]
      simp only [nd0, Y1n, Y1o, Y1p, Y1q, Y1w, Y1x, Y1y, Y1z, Y20, Y21, Y28, Y2a, AV.cells?, Nat.reduceAdd, Nat.reduceMul, plen, hset, conv_byte N hN, show fillA [S [], S [], nilS] [(0, 1, S [N])] = some [S [N], S [], nilS] from rfl]
      refine wNew.F' rfl ?_
      rcases hk1 with h | h
      · rw [if_pos h] at hR
        rw [hget _ h]
        exact hR _ _ (pd s _ 0 (-1)) [] n3 (.same _) ⟨rfl, rfl⟩
      · rw [if_neg (by rw [h]; decide), if_pos h] at hR
        rw [hget _ h]
        exact hR _ _ (pd s _ 0 (-1)) [] n3 (.same _) ⟨rfl, rfl⟩
    have h48 : ¬ s[k]? = some 48 := fun h => hk1 (.inl h)
    have h49 : ¬ s[k]? = some 49 := fun h => hk1 (.inr h)
    rw [if_neg h48, if_neg h49] at hR
    have hb : (decide ((N.toNat : Int) = 48) || decide ((N.toNat : Int) = 49)) = false := by
      rw [decide_eq_false (fun h => h48 (e48.1 h)), decide_eq_false (fun h => h49 (e49.1 h))]; rfl
    rw [hb]
    simp only [nd0, Y1n, Y1o, Y1p, Y1q, Y1w, Y1x, Y1y, Y1z, Y20, Y21, Y28, Y2a, AV.cells?, Nat.reduceAdd, Nat.reduceMul]
    refine or_join (x := 0) fun n4 => ?_
    by_cases hk2 : s[k]? = some 94 ∨ s[k]? = some 126
    · have hb : (decide ((N.toNat : Int) = 94) || decide ((N.toNat : Int) = 126)) = true := by
        rcases hk2 with h | h
        · rw [decide_eq_true (e94.2 h)]; rfl
        · rw [decide_eq_true (e126.2 h), Bool.or_true]
      have hlt : k < s.length := by rcases hk2 with h | h <;> exact lt_of_get h
      have hN : N.toNat < 128 := by rcases hk2 with h | h <;> rw [hget _ h] <;> decide
      rw [hb]
      simp only [nd0, Y1n, Y1o, Y1p, Y1q, Y1w, Y1x, Y1y, Y1z, Y20, Y21, Y28, Y2a, AV.cells?, Nat.reduceAdd, Nat.reduceMul, p1]
      rw [binA_succ (by omega)]
      simp only [nd0, Y1n, Y1o, Y1p, Y1q, Y1w, Y1x, Y1y, Y1z, Y20, Y21, Y28, Y2a, AV.cells?, Nat.reduceAdd, Nat.reduceMul]
      rw [store1_L rfl]
      simp only [nd0, Y1n, Y1o, Y1p, Y1q, Y1w, Y1x, Y1y, Y1z, Y20, Y21, Y28, Y2a, AV.cells?, Nat.reduceAdd, Nat.reduceMul, plen, hset, conv_byte N hN]
      refine wCall.pc (b := 0) (rword_spec B s (k + 1) (by omega) hs) rfl rfl ?_
      intro r cs n5 hr
      have hR2 : ∀ x cs, PR s ((wordR s (k + 1)).map (if N = 94 then Ex.rise else Ex.fall)) x cs → ∀ n, R x ⟨[.cells g 4 cs], n⟩ := by
        intro x cs hp n
        refine hR x x cs [] n (.same _) ?_
        rcases hk2 with h | h
        · rw [if_pos h]
          rw [if_pos (hget _ h)] at hp
          exact hp
        · rw [if_neg (by rw [h]; decide), if_pos h]
          rw [if_neg (by rw [hget _ h]; decide)] at hp
          exact hp
      have hNx : N = 94 ∨ N = 126 := by rcases hk2 with h | h; exact .inl (hget _ h); exact .inr (hget _ h)
      cases hx : wordR s (k + 1) with
      | no e p =>
        rw [hx] at hr hR2
        obtain ⟨w, rfl, j, rfl⟩ := hr
        simp only [nd0, Y1n, Y1o, Y1p, Y1q, Y1w, Y1x, Y1y, Y1z, Y20, Y21, Y28, Y2a, AV.cells?, Nat.reduceAdd, Nat.reduceMul, show fillA [S [], S [], nilS] [(0, 1, S [N]), (1, 1, S w)] = some [S [N], S w, nilS] from rfl]
        refine wNew.F' rfl ?_
        exact hR2 (.ptrF [S [N], S w, nilS] 0) (pd s j e p) ⟨⟨trivial, trivial, trivial, trivial⟩, rfl, j, rfl⟩ _
      | ok w j =>
        rw [hx] at hr hR2
        obtain ⟨rfl, rfl⟩ := hr
        simp only [nd0, Y1n, Y1o, Y1p, Y1q, Y1w, Y1x, Y1y, Y1z, Y20, Y21, Y28, Y2a, AV.cells?, Nat.reduceAdd, Nat.reduceMul, show fillA [S [], S [], nilS] [(0, 1, S [N]), (1, 1, S w)] = some [S [N], S w, nilS] from rfl]
        refine wNew.F' rfl ?_
        refine hR2 _ _ ⟨?_, rfl⟩ _
        rcases hNx with rfl | rfl <;> rfl
    have h94 : ¬ s[k]? = some 94 := fun h => hk2 (.inl h)
    have h126 : ¬ s[k]? = some 126 := fun h => hk2 (.inr h)
    rw [if_neg h94, if_neg h126] at hR
    have hb : (decide ((N.toNat : Int) = 94) || decide ((N.toNat : Int) = 126)) = false := by
      rw [decide_eq_false (fun h => h94 (e94.1 h)), decide_eq_false (fun h => h126 (e126.1 h))]; rfl
    rw [hb]
    simp only [nd0, Y1n, Y1o, Y1p, Y1q, Y1w, Y1x, Y1y, Y1z, Y20, Y21, Y28, Y2a, AV.cells?, Nat.reduceAdd, Nat.reduceMul]
    refine wCall.pc (b := 0) (rword_spec B s k hk hs) rfl rfl ?_
    intro r cs n5 hr
    cases hx : wordR s k with
    | no e p =>
      rw [hx] at hr hR
      obtain ⟨w, rfl, j, rfl⟩ := hr
      simp only [nd0, Y1n, Y1o, Y1p, Y1q, Y1w, Y1x, Y1y, Y1z, Y20, Y21, Y28, Y2a, AV.cells?, Nat.reduceAdd, Nat.reduceMul, show fillA [S [], S [], nilS] [(0, 1, S [98, 105, 116]), (1, 1, S w)] = some [S [98, 105, 116], S w, nilS] from rfl]
      refine wNew.F' rfl ?_
      exact hR _ _ _ [] n5 (.same _) ⟨⟨trivial, trivial, trivial, trivial⟩, rfl, j, rfl⟩
    | ok w j =>
      rw [hx] at hr hR
      obtain ⟨rfl, rfl⟩ := hr
      simp only [nd0, Y1n, Y1o, Y1p, Y1q, Y1w, Y1x, Y1y, Y1z, Y20, Y21, Y28, Y2a, AV.cells?, Nat.reduceAdd, Nat.reduceMul, show fillA [S [], S [], nilS] [(0, 1, S [98, 105, 116]), (1, 1, S w)] = some [S [98, 105, 116], S w, nilS] from rfl]
      refine wNew.F' rfl ?_
      exact hR _ _ _ [] n5 (.same _) ⟨rfl, rfl⟩
/-- what the document's ExprParse answers -/
def refParseA (s : Str) : AV := if 2000 < s.length then .tup [nilP, .agg [Z 4, Z (-1)]] else match parseR s with
  | .ok x _ => .tup [x.ref, .agg [Z 0, Z (-1)]]
  | .no e p => .tup [nilP, .agg [Z e, Z p]]
theorem refParseA_closed (s : Str) : (refParseA s).closed := by
  unfold refParseA
  split
  · exact ⟨trivial, ⟨trivial, trivial, trivial⟩, trivial⟩
  split
  · exact ⟨Ex.ref_closed _, ⟨trivial, trivial, trivial⟩, trivial⟩
  · exact ⟨trivial, ⟨trivial, trivial, trivial⟩, trivial⟩
theorem ret_pf (a : AV) (b : List AV) : retPack [some a, some (.agg b)] = some (.tup [a, .agg b]) := rfl
theorem Bare_spec' (B : RefReadBodies E P) (e : Int) : FX E P 87 [Z e] (.agg [Z e, Z (-1)]) := Bare_spec B.bare e
theorem ExprParse_spec (B : RefReadBodies E P) (s : Str) : FX E P 125 [S s] (refParseA s) := by
  refine FX.of' ⟨trivial, trivial⟩ (refParseA_closed s) fun n R hR => B.parse _ _ _ ?_
  have gfine : gptr E 5 = .ptrF [Z 0, Z (-1)] 0 := by simp [gptr, B.fine]
  unfold F.ref_ExprParse
  unfold refParseA at hR
  refine wNew.L (l := [Z 0, Z 0]) rfl ?_
  simp only [nd0, Y1n, Y1o, Y1p, Y1q, Y1w, Y1x, Y1y, Y1z, Y20, Y21, Y28, Y2a, AV.cells?, Nat.reduceAdd, Nat.reduceMul]
  by_cases hl : 2000 < s.length
  · rw [if_pos hl] at hR
    simp only [nd0, Y1n, Y1o, Y1p, Y1q, Y1w, Y1x, Y1y, Y1z, Y20, Y21, Y28, Y2a, AV.cells?, Nat.reduceAdd, Nat.reduceMul, decide_eq_true (show (2000 : Int) < (s.length : Int) by omega)]
    refine wCall.fx (Bare_spec' B 4) fun n => ?_
    simp only [nd0, Y1n, Y1o, Y1p, Y1q, Y1w, Y1x, Y1y, Y1z, Y20, Y21, Y28, Y2a, AV.cells?, Nat.reduceAdd, Nat.reduceMul]
    rw [storeN_L (n := 2) (xs := [Z 4, Z (-1)]) rfl rfl]
    simp only [nd0, Y1n, Y1o, Y1p, Y1q, Y1w, Y1x, Y1y, Y1z, Y20, Y21, Y28, Y2a, AV.cells?, Nat.reduceAdd, Nat.reduceMul, put_two, ret_pf]
    exact hR _ _ rfl
  rw [if_neg hl] at hR
  simp only [nd0, Y1n, Y1o, Y1p, Y1q, Y1w, Y1x, Y1y, Y1z, Y20, Y21, Y28, Y2a, AV.cells?, Nat.reduceAdd, Nat.reduceMul, decide_eq_false (show ¬ (2000 : Int) < (s.length : Int) by omega), gfine, show fillA [S [], Z 0, Z 0, Z 0] [(0, 1, S s), (2, 2, .agg [Z 0, Z (-1)])] = some (pd s 0 0 (-1)) from rfl, show (AV.val (.string ⟨#[]⟩)) = S [] from rfl]
  refine wNew.L (l := pd s 0 0 (-1)) rfl ?_
  have hs : s.length < 1000000 := by omega
  have hgood := oneR_good s 20
  have herr := oneR_err s 20
  simp only [nd0, Y1n, Y1o, Y1p, Y1q, Y1w, Y1x, Y1y, Y1z, Y20, Y21, Y28, Y2a, AV.cells?, Nat.reduceAdd, Nat.reduceMul]
  refine wCall.pc (b := 1) (whole_spec B s hs (oneR s 20) hgood herr 0 (piece_spec B s hs 20 (by omega)) 0 (by omega)) rfl rfl ?_
  intro r cs n2 hr
  have p1 : ∀ j e p, (pd s j e p)[1]? = some (Z j) := fun _ _ _ => rfl
  have p2 : ∀ j e p, (pd s j e p)[2]? = some (Z e) := fun _ _ _ => rfl
  have psub : ∀ j e p, subL (pd s j e p) 2 2 = some [Z e, Z p] := fun _ _ _ => rfl
  unfold parseR at hR
  cases hx : orR s (oneR s 20) 0 with
  | no e p =>
    rw [hx] at hr hR
    have he : e ≠ 0 := allR_err (allR_err herr) _ _ _ hx
    obtain ⟨h1, h2, j, rfl⟩ := hr
    refine wJoin.zero (fun H => ∃ c, H = ⟨[.cells n 2 [Z 0, Z 0], .cells (n + 1) 4 (pd s j e p)], c⟩) ?_ ?_
    · simp only [nd0, Y1n, Y1o, Y1p, Y1q, Y1w, Y1x, Y1y, Y1z, Y20, Y21, Y28, Y2a, AV.cells?, Nat.reduceAdd, Nat.reduceMul, p2, decide_eq_false (show ¬ (e : Int) = 0 by omega)]
      exact gh0.mk ⟨_, rfl⟩
    · rintro H ⟨c, rfl⟩
      simp only [nd0, Y1n, Y1o, Y1p, Y1q, Y1w, Y1x, Y1y, Y1z, Y20, Y21, Y28, Y2a, AV.cells?, Nat.reduceAdd, Nat.reduceMul, p2, decide_eq_false (show ¬ (e : Int) = 0 by omega), psub, and_self, true_and]
      rw [storeN_L (n := 2) (xs := [Z e, Z p]) rfl rfl]
      simp only [nd0, Y1n, Y1o, Y1p, Y1q, Y1w, Y1x, Y1y, Y1z, Y20, Y21, Y28, Y2a, AV.cells?, Nat.reduceAdd, Nat.reduceMul, put_two, ret_pf]
      exact hR _ _ rfl
  | ok x j =>
    rw [hx] at hr hR
    obtain ⟨rfl, rfl⟩ := hr
    obtain ⟨a1, a2, a3, a4⟩ := orR_good hgood _ x j (by omega) hx
    have b2 := skipTo_len a2
    refine wJoin.zero (fun H => ∃ c, H = ⟨[.cells n 2 [Z 0, Z 0], .cells (n + 1) 4 (if skipTo s j < s.length then pd s (skipTo s j) 3 (skipTo s j) else pd s (skipTo s j) 0 (-1))], c⟩) ?_ ?_
    · simp only [nd0, Y1n, Y1o, Y1p, Y1q, Y1w, Y1x, Y1y, Y1z, Y20, Y21, Y28, Y2a, AV.cells?, Nat.reduceAdd, Nat.reduceMul, p2, show decide ((0 : Int) = 0) = true from rfl]
      refine wCall.pc (b := 1) (rnext_spec B s j 0 (-1) a2 hs) rfl rfl ?_
      rintro r cs n4 ⟨rfl, rfl⟩
      have hfail : skipTo s j < s.length → ∀ c, wCall E P 132 [.ptrL 1 0 (n + 1), Z 3] ⟨[.cells n 2 [Z 0, Z 0], .cells (n + 1) 4 (pd s (skipTo s j) 0 (-1))], c⟩ fun _ H => gh0 (fun H => ∃ c, H = ⟨[.cells n 2 [Z 0, Z 0], .cells (n + 1) 4 (if skipTo s j < s.length then pd s (skipTo s j) 3 (skipTo s j) else pd s (skipTo s j) 0 (-1))], c⟩) H := fun hlt c => by
        refine wCall.pc (b := 1) (rfail_spec B s (skipTo s j) 3 b2 hs) rfl rfl ?_
        rintro r cs n5 ⟨rfl, rfl⟩
        refine gh0.mk ⟨n5, ?_⟩
        rw [if_pos hlt, skipTo_idem]; rfl
      by_cases hz : nextC s j = 0
      · simp only [nd0, Y1n, Y1o, Y1p, Y1q, Y1w, Y1x, Y1y, Y1z, Y20, Y21, Y28, Y2a, AV.cells?, Nat.reduceAdd, Nat.reduceMul, hz, show decide ((((0 : UInt8).toNat : Nat) : Int) = 0) = true from rfl, p2, p1, show decide ((0 : Int) = 0) = true from rfl]
        by_cases hlt : skipTo s j < s.length
        · simp only [nd0, Y1n, Y1o, Y1p, Y1q, Y1w, Y1x, Y1y, Y1z, Y20, Y21, Y28, Y2a, AV.cells?, Nat.reduceAdd, Nat.reduceMul, decide_eq_true (show ((skipTo s j : Nat) : Int) < (s.length : Int) by omega)]
          exact hfail hlt _
        · simp only [nd0, Y1n, Y1o, Y1p, Y1q, Y1w, Y1x, Y1y, Y1z, Y20, Y21, Y28, Y2a, AV.cells?, Nat.reduceAdd, Nat.reduceMul, decide_eq_false (show ¬ ((skipTo s j : Nat) : Int) < (s.length : Int) by omega)]
          exact gh0.mk ⟨_, by rw [if_neg hlt]⟩
      · have hlt : skipTo s j < s.length := by
          have : ¬ s.length ≤ skipTo s j := fun h => hz (by unfold nextC; rw [List.getElem?_eq_none h]; rfl)
          omega
        have hz2 : ¬ ((nextC s j).toNat : Int) = 0 := fun h => hz (UInt8.toNat_inj.1 (by simp; omega))
        simp only [nd0, Y1n, Y1o, Y1p, Y1q, Y1w, Y1x, Y1y, Y1z, Y20, Y21, Y28, Y2a, AV.cells?, Nat.reduceAdd, Nat.reduceMul, decide_eq_false hz2]
        exact hfail hlt _
    · rintro H ⟨c, rfl⟩
      by_cases hlt : skipTo s j < s.length
      · simp only [if_pos hlt] at hR ⊢
        simp only [nd0, Y1n, Y1o, Y1p, Y1q, Y1w, Y1x, Y1y, Y1z, Y20, Y21, Y28, Y2a, AV.cells?, Nat.reduceAdd, Nat.reduceMul, p2, show decide ((3 : Int) = 0) = false from rfl, psub, and_self, true_and]
        rw [storeN_L (n := 2) (xs := [Z 3, Z (skipTo s j)]) rfl rfl]
        simp only [nd0, Y1n, Y1o, Y1p, Y1q, Y1w, Y1x, Y1y, Y1z, Y20, Y21, Y28, Y2a, AV.cells?, Nat.reduceAdd, Nat.reduceMul, put_two, ret_pf]
        exact hR _ _ rfl
      · simp only [if_neg hlt] at hR ⊢
        simp only [nd0, Y1n, Y1o, Y1p, Y1q, Y1w, Y1x, Y1y, Y1z, Y20, Y21, Y28, Y2a, AV.cells?, Nat.reduceAdd, Nat.reduceMul, p2, show decide ((0 : Int) = 0) = true from rfl, psub, and_self, true_and, gfine]
        rw [storeN_L (n := 2) (xs := [Z 0, Z (-1)]) rfl rfl]
        simp only [nd0, Y1n, Y1o, Y1p, Y1q, Y1w, Y1x, Y1y, Y1z, Y20, Y21, Y28, Y2a, AV.cells?, Nat.reduceAdd, Nat.reduceMul, put_two, ret_pf]
        exact hR _ _ rfl
end
end Go.Sc
namespace Go.Sc
open Go
set_option linter.unusedSimpArgs false
set_option linter.unusedVariables false
set_option linter.unnecessarySimpa false
def Ex.kind : Ex → Str
  | .k b => if b then [49] else [48]
  | .bit _ => [98, 105, 116]
  | .rise _ => [94]
  | .fall _ => [126]
  | .not _ => [33]
  | .and _ => [38]
  | .or _ => [124]
def Ex.nm : Ex → Str
  | .bit s => s
  | .rise s => s
  | .fall s => s
  | _ => []
def Ex.of : Ex → AV
  | .not x => .slN [x.ref] 1
  | .and l => .slN (Ex.refL l) l.length
  | .or l => .slN (Ex.refL l) l.length
  | _ => nilS
theorem Ex.ref_eq (x : Ex) : x.ref = .ptrF [S x.kind, S x.nm, x.of] 0 := by cases x <;> rfl
theorem Ex.wt_mem {x : Ex} : ∀ {l : List Ex}, x ∈ l → x.wt ≤ Ex.wtL l
  | y :: l, h => by
    rcases List.mem_cons.1 h with rfl | h
    · simp only [Ex.wtL]; omega
    · have := Ex.wt_mem h; simp only [Ex.wtL]; omega
theorem Ex.fine_mem {x : Ex} : ∀ {l : List Ex}, Ex.fineL l → x ∈ l → x.fine
  | y :: l, h, hx => by
    rcases List.mem_cons.1 hx with rfl | hx
    · exact h.1
    · exact Ex.fine_mem h.2 hx
theorem Ex.len_wtL : ∀ {l : List Ex}, Ex.fineL l → l.length ≤ Ex.wtL l
  | [], _ => by simp
  | x :: l, h => by
    have h2 := Ex.len_wtL h.2
    have : 1 ≤ x.wt := by
      have h1 := h.1
      cases x with
      | bit s => cases s with
        | nil => simp [Ex.fine, nameOk] at h1
        | cons a b => simp [Ex.wt]
      | _ => simp only [Ex.wt]; omega
    simp only [Ex.wtL, List.length_cons]; omega
theorem Lm_S {l : List Str} : Lm S l = .slN (l.map fun s => S s) l.length := rfl
section
variable {E : Env} {P : Program}
theorem asA {k k' : Nat} {z a : AV} : assertA k z (.ifc k' a) = some (if k' = k then .tup [a, Bo true] else .tup [z, Bo false]) := by
  simp only [assertA]; split <;> rfl
end
end Go.Sc
namespace Go.Sc
open Go
set_option linter.unusedSimpArgs false
set_option linter.unusedVariables false
def LI (l : List Int) : AV := Lm (fun z => Z z) l
def idxO : Option Nat → Int
  | some i => i
  | none => -1

section
variable {E : Env} {P : Program}
end
end Go.Sc
namespace Go.Sc.F
open Go Go.Sc
set_option linter.unusedVariables false
/-- signalbox/expr.Eval -/
def expr_Eval (E : Env) (P : Program) (a0 a1 a2 : AV) (H : AH) (R : Kt) : Prop :=
  wNew 1 (AV.cells? a1) H fun t4 H =>
  wNew 1 (AV.cells? a2) H fun t5 H =>
  wGet (assertA 11 (.val (.bool false)) a0) H fun t15 H =>
  wGet (extractA t15 1) H fun t16 H =>
  wGet (extractA t15 0) H fun t17 H =>
  wIf t16 (
    R t17 H) (
    wGet (assertA 14 (.val (.string ⟨#[]⟩)) a0) H fun t19 H =>
    wGet (extractA t19 1) H fun t20 H =>
    wGet (extractA t19 0) H fun t21 H =>
    wIf t20 (
      wGet (load1 t4 H) H fun t22 H =>
      wCallV E P t22 [t21] H fun t24 H =>
      R t24 H) (
      wGet (assertA 12 (.val (.string ⟨#[]⟩)) a0) H fun t25 H =>
      wGet (extractA t25 1) H fun t26 H =>
      wGet (extractA t25 0) H fun t27 H =>
      wIf t26 (
        wGet (load1 t4 H) H fun t28 H =>
        wCallV E P t28 [t27] H fun t30 H =>
        wGuard t30 true H (fun k => wGet (load1 t5 H) H k) fun t32 H =>
        wGuard t30 true H (fun k => k t27 H) fun t33 H =>
        wGuard t30 true H (fun k => wCallV E P t32 [t33] H k) fun t34 H =>
        wGuard t30 true H (fun k => wGet (unA .not t34) H k) fun t35 H =>
        wGet (pickA t30 t35 (.val (.bool false))) H fun t36 H =>
        R t36 H) (
        wGet (assertA 13 (.val (.string ⟨#[]⟩)) a0) H fun t37 H =>
        wGet (extractA t37 1) H fun t38 H =>
        wGet (extractA t37 0) H fun t39 H =>
        wIf t38 (
          wGet (load1 t4 H) H fun t40 H =>
          wCallV E P t40 [t39] H fun t42 H =>
          wGet (unA .not t42) H fun t43 H =>
          wGuard t43 true H (fun k => wGet (load1 t5 H) H k) fun t45 H =>
          wGuard t43 true H (fun k => k t39 H) fun t46 H =>
          wGuard t43 true H (fun k => wCallV E P t45 [t46] H k) fun t47 H =>
          wGet (pickA t43 t47 (.val (.bool false))) H fun t48 H =>
          R t48 H) (
          wGet (assertA 10 (.agg [(.val (.nilIface))]) a0) H fun t49 H =>
          wGet (extractA t49 1) H fun t50 H =>
          wGet (extractA t49 0) H fun t51 H =>
          wIf t50 (
            wNew 1 (some [(.val (.nilIface))]) H fun t11 H =>
            wPut (storeN 1 t11 t51 H) fun _u H =>
            wGet (faddr 0 t11) H fun t52 H =>
            wGet (load1 t52 H) H fun t53 H =>
            wGet (load1 t4 H) H fun t54 H =>
            wGet (load1 t5 H) H fun t55 H =>
            wCall E P 158 [t53, t54, t55] H fun t56 H =>
            wGet (unA .not t56) H fun t57 H =>
            R t57 H) (
            wGet (assertA 9 (.val (.slice none 0 0)) a0) H fun t58 H =>
            wGet (extractA t58 1) H fun t59 H =>
            wGet (extractA t58 0) H fun t60 H =>
            wIf t59 (
              wCall E P 163 [t60, (.fn 162 [] [t4, t5])] H fun t63 H =>
              wGet (unA .not t63) H fun t64 H =>
              R t64 H) (
              wGet (assertA 8 (.val (.slice none 0 0)) a0) H fun t65 H =>
              wGet (extractA t65 1) H fun t66 H =>
              wGet (extractA t65 0) H fun t67 H =>
              wIf t66 (
                wCall E P 165 [t67, (.fn 164 [] [t4, t5])] H fun t70 H =>
                R t70 H) (
                R (.val (.bool false)) H)))))))

/-- signalbox/expr.walk -/
def expr_walk (E : Env) (P : Program) (a0 a1 : AV) (H : AH) (R : Kt) : Prop :=
  wCallV E P a1 [a0] H fun t13 H =>
  wGet (assertA 10 (.agg [(.val (.nilIface))]) a0) H fun t15 H =>
  wGet (extractA t15 1) H fun t16 H =>
  wGet (extractA t15 0) H fun t17 H =>
  wIf t16 (
    wNew 1 (some [(.val (.nilIface))]) H fun t4 H =>
    wPut (storeN 1 t4 t17 H) fun _u H =>
    wGet (faddr 0 t4) H fun t18 H =>
    wGet (load1 t18 H) H fun t19 H =>
    wCall E P 161 [t19, a1] H fun t21 H =>
    R (.tup []) H) (
    wGet (assertA 9 (.val (.slice none 0 0)) a0) H fun t22 H =>
    wGet (extractA t22 1) H fun t23 H =>
    wGet (extractA t22 0) H fun t24 H =>
    wIf t23 (
      wGet (lenA t24) H fun t26 H =>
      wLoop 1 (fun I1 => I1 (.val (.int .i64 0)) H) fun I1 t27 H =>
        wGet (binA .lss t27 t26) H fun t28 H =>
        wIf t28 (
          wGet (iaddr 1 t24 t27) H fun t29 H =>
          wGet (load1 t29 H) H fun t30 H =>
          wCall E P 161 [t30, a1] H fun t33 H =>
          wGet (binA .add t27 (.val (.int .i64 1))) H fun t34 H =>
          I1 t34 H) (
          R (.tup []) H)) (
      wGet (assertA 8 (.val (.slice none 0 0)) a0) H fun t35 H =>
      wGet (extractA t35 1) H fun t36 H =>
      wGet (extractA t35 0) H fun t37 H =>
      wIf t36 (
        wGet (lenA t37) H fun t39 H =>
        wLoop 1 (fun I2 => I2 (.val (.int .i64 0)) H) fun I2 t40 H =>
          wGet (binA .lss t40 t39) H fun t41 H =>
          wIf t41 (
            wGet (iaddr 1 t37 t40) H fun t42 H =>
            wGet (load1 t42 H) H fun t43 H =>
            wCall E P 161 [t43, a1] H fun t46 H =>
            wGet (binA .add t40 (.val (.int .i64 1))) H fun t47 H =>
            I2 t47 H) (
            R (.tup []) H)) (
        R (.tup []) H)))

/-- slices.ContainsFunc[signalbox/expr.And,signalbox/expr.Expr] -/
def slices_ContainsFunc_expr_And_expr_Expr (E : Env) (P : Program) (a0 a1 : AV) (H : AH) (R : Kt) : Prop :=
  wCall E P 167 [a0, a1] H fun t7 H =>
  wGet (binA .geq t7 (.val (.int .i64 0))) H fun t8 H =>
  R t8 H

/-- signalbox/expr.Eval$1 -/
def expr_Eval_c1 (E : Env) (P : Program) (a0 a1 a2 : AV) (H : AH) (R : Kt) : Prop :=
  wGet (load1 a1 H) H fun t6 H =>
  wGet (load1 a2 H) H fun t7 H =>
  wCall E P 158 [a0, t6, t7] H fun t8 H =>
  wGet (unA .not t8) H fun t9 H =>
  R t9 H

/-- slices.ContainsFunc[signalbox/expr.Or,signalbox/expr.Expr] -/
def slices_ContainsFunc_expr_Or_expr_Expr (E : Env) (P : Program) (a0 a1 : AV) (H : AH) (R : Kt) : Prop :=
  wCall E P 168 [a0, a1] H fun t7 H =>
  wGet (binA .geq t7 (.val (.int .i64 0))) H fun t8 H =>
  R t8 H

/-- signalbox/expr.Eval$2 -/
def expr_Eval_c2 (E : Env) (P : Program) (a0 a1 a2 : AV) (H : AH) (R : Kt) : Prop :=
  wGet (load1 a1 H) H fun t6 H =>
  wGet (load1 a2 H) H fun t7 H =>
  wCall E P 158 [a0, t6, t7] H fun t8 H =>
  R t8 H

/-- slices.IndexFunc[signalbox/expr.And,signalbox/expr.Expr] -/
def slices_IndexFunc_expr_And_expr_Expr (E : Env) (P : Program) (a0 a1 : AV) (H : AH) (R : Kt) : Prop :=
  wGet (lenA a0) H fun t7 H =>
  wLoop 1 (fun I1 => I1 (.val (.int .i64 0)) H) fun I1 t8 H =>
    wGet (binA .lss t8 t7) H fun t9 H =>
    wIf t9 (
      wGet (iaddr 1 a0 t8) H fun t14 H =>
      wGet (load1 t14 H) H fun t15 H =>
      wCallV E P a1 [t15] H fun t16 H =>
      wIf t16 (
        R t8 H) (
        wGet (binA .add t8 (.val (.int .i64 1))) H fun t18 H =>
        I1 t18 H)) (
      R (.val (.int .i64 (-1))) H)

/-- slices.IndexFunc[signalbox/expr.Or,signalbox/expr.Expr] -/
def slices_IndexFunc_expr_Or_expr_Expr (E : Env) (P : Program) (a0 a1 : AV) (H : AH) (R : Kt) : Prop :=
  wGet (lenA a0) H fun t7 H =>
  wLoop 1 (fun I1 => I1 (.val (.int .i64 0)) H) fun I1 t8 H =>
    wGet (binA .lss t8 t7) H fun t9 H =>
    wIf t9 (
      wGet (iaddr 1 a0 t8) H fun t14 H =>
      wGet (load1 t14 H) H fun t15 H =>
      wCallV E P a1 [t15] H fun t16 H =>
      wIf t16 (
        R t8 H) (
        wGet (binA .add t8 (.val (.int .i64 1))) H fun t18 H =>
        I1 t18 H)) (
      R (.val (.int .i64 (-1))) H)

end Go.Sc.F
