/- CONTRACTS: package signalboxref: expressions are read. CONTRACTS: how expressions are written. CONTRACTS: package signalboxref: how expressions are written. (of the seat YtmeppifnagiamaaDoor) -/
import Derived.Test.YtmeppifnagiamaaDoorCore7
namespace Go.Sc
open Go
set_option linter.unusedSimpArgs false
set_option linter.unusedVariables false
set_option linter.unnecessarySimpa false

section
variable {E : Env} {P : Program}
/-- how the document's reader of pieces is told -/
def PieceOk (E : Env) (P : Program) (s : Str) (f : Nat → Rs Ex) (a : Nat) : Prop := ∀ i, i ≤ s.length → PC E P 141 4 (pd s i 0 (-1)) (fun b g => [.ptrL b 0 g, Z a]) (PR s (f i))
theorem whole1_spec (B : RefReadBodies E P) (s : Str) (hs : s.length < 1000000) (f : Nat → Rs Ex) (hgood : GoodR s f) (herr : ErrR f) (a : Nat) (hf : PieceOk E P s f a) (i : Nat) (hi : i ≤ s.length) :
    PC E P 136 4 (pd s i 0 (-1)) (fun b g => [Z a, .ptrF [.ptrL b 0 g] 0]) (PR s (andR s f i)) := by
  refine PC.of (fun _ _ => rfl) (pd_closed _ _ _ _) (fun _ _ h => h.closed) fun n g R hR => B.whole1 _ _ _ _ ?_
  unfold F.pref_parser_whole_c1
  simp only [nd0, Y1n, Y1o, Y1p, Y1q, Y1w, Y1x, Y1y, Y1z, Y20, Y21, Y28, Y2a, AV.cells?, Nat.reduceAdd, Nat.reduceMul]
  refine wCall.pc (b := 0) (row_spec B s hs 38 (by decide) (by decide) .and (fun _ => rfl) f hgood herr 141 (fun b g => [.ptrL b 0 g]) (fun _ _ => []) a (fun _ _ => ⟨rfl, rfl⟩) hf i hi) rfl rfl ?_
  intro r cs n hr
  exact hR _ _ cs [] n (.same _) hr
theorem whole_spec (B : RefReadBodies E P) (s : Str) (hs : s.length < 1000000) (f : Nat → Rs Ex) (hgood : GoodR s f) (herr : ErrR f) (a : Nat) (hf : PieceOk E P s f a) (i : Nat) (hi : i ≤ s.length) :
    PC E P 130 4 (pd s i 0 (-1)) (fun b g => [.ptrL b 0 g, Z a]) (PR s (orR s f i)) := by
  refine PC.of (fun _ _ => rfl) (pd_closed _ _ _ _) (fun _ _ h => h.closed) fun n g R hR => B.whole _ _ _ _ ?_
  unfold F.pref_parser_whole
  refine wNew.F' (l := [.ptrL 0 0 g]) rfl ?_
  simp only [nd0, Y1n, Y1o, Y1p, Y1q, Y1w, Y1x, Y1y, Y1z, Y20, Y21, Y28, Y2a, AV.cells?, Nat.reduceAdd, Nat.reduceMul]
  refine wCall.pc (b := 0) (row_spec B s hs 124 (by decide) (by decide) .or (fun _ => rfl) (andR s f) (andR_good hgood) (allR_err herr) 136 (fun _ _ => []) (fun b g => [.ptrF [.ptrL b 0 g] 0]) a (fun _ _ => ⟨rfl, rfl⟩) (whole1_spec B s hs f hgood herr a hf) i hi) rfl rfl ?_
  intro r cs n hr
  exact hR _ _ cs [] n (.same _) hr
theorem or_join {b1 b2 : Bool} {g : Nat} {cs : List AV} {x : Nat} {k : KN 1} {n : Nat}
    (h : ∀ n, k (Bo (b1 || b2)) ⟨[.cells g 4 cs], n⟩) : wJoin 1 (fun J => wIf (Bo b1) (J (Bo b1) ⟨[.cells g 4 cs], n⟩) (J (Bo b2) ⟨[.cells g 4 cs], n⟩)) k := by
  refine wJoin.one (fun t H => t = Bo (b1 || b2) ∧ ∃ n, H = ⟨[.cells g 4 cs], n⟩) ?_ ?_
  · cases b1
    · exact wIf_false.2 (gh1.mk ⟨rfl, _, rfl⟩)
    · exact wIf_true.2 (gh1.mk ⟨rfl, _, rfl⟩)
  · rintro t H ⟨rfl, n, rfl⟩
    exact h n
set_option maxHeartbeats 2000000 in
theorem piece_spec (B : RefReadBodies E P) (s : Str) (hs : s.length < 1000000) : ∀ (d : Nat), d ≤ 20 → PieceOk E P s (oneR s d) (20 - d) := by
  intro d
  induction d with
  | zero =>
    intro _ i hi
    refine PC.of (fun _ _ => rfl) (pd_closed _ _ _ _) (fun _ _ h => h.closed) fun n g R hR => B.piece _ _ _ _ ?_
    unfold F.pref_parser_piece
    unfold pd
    simp only [nd0, Y1n, Y1o, Y1p, Y1q, Y1w, Y1x, Y1y, Y1z, Y20, Y21, Y28, Y2a, AV.cells?, Nat.reduceAdd, Nat.reduceMul, show decide ((0 : Int) = 0) = true from rfl, show decide ((20 : Int) ≤ ((20 - 0 : Nat) : Int)) = true from rfl]
    refine wCall.pc (b := 0) (rfail_spec B s i 4 hi hs) rfl rfl ?_
    rintro r cs n2 ⟨rfl, rfl⟩
    exact hR _ _ _ [] n2 (.same _) ⟨trivial, rfl, _, rfl⟩
  | succ d ih =>
    intro hd i hi
    have ih := ih (by omega)
    have hgood := oneR_good s d
    have herr := oneR_err s d
    refine PC.of (fun _ _ => rfl) (pd_closed _ _ _ _) (fun _ _ h => h.closed) fun n g R hR => B.piece _ _ _ _ ?_
    unfold F.pref_parser_piece
    have hsc : ∀ x : AV, x.scalar = true → fillA (List.replicate 1 [nilP]).flatten [(0, 1, x)] = some [x] := fun x h => fill1 h
    have hadd : binA .add (Z ((20 - (d + 1) : Nat) : Int)) (Z 1) = some (Z ((20 - d : Nat) : Int)) := by
      rw [binA_add (by omega)]; congr 3; omega
    have p1 : ∀ j e p, (pd s j e p)[1]? = some (Z j) := fun _ _ _ => rfl
    have p2 : ∀ j e p, (pd s j e p)[2]? = some (Z e) := fun _ _ _ => rfl
    have plen : ∀ j e p, (1 : Nat) < (pd s j e p).length := fun _ _ _ => by show 1 < 4; omega
    have hset : ∀ j e p j', (pd s j e p).set 1 (Z j') = pd s j' e p := fun _ _ _ _ => rfl
    simp only [nd0, Y1n, Y1o, Y1p, Y1q, Y1w, Y1x, Y1y, Y1z, Y20, Y21, Y28, Y2a, AV.cells?, Nat.reduceAdd, Nat.reduceMul, p2, show decide ((0 : Int) = 0) = true from rfl, decide_eq_false (show ¬ (20 : Int) ≤ ((20 - (d + 1) : Nat) : Int) by omega)]
    refine wCall.pc (b := 0) (rnext_spec B s i 0 (-1) hi hs) rfl rfl ?_
    rintro r cs n2 ⟨rfl, rfl⟩
    have hk := skipTo_len hi
    have hid := skipTo_idem s i
    have hnx := fun (c : UInt8) (hc : c ≠ 0) => nextC_eq (s := s) (i := i) hc
    have hget := fun (c : UInt8) => nextC_get (s := s) (i := i) (c := c)
    unfold oneR at hR
    generalize skipTo s i = k at hk hid hR hnx hget
    generalize nextC s i = N at hnx hget
    have hstep : ∀ n, k + 1 ≤ s.length → binA .add (Z (k : Int)) (Z 1) = some (Z ((k + 1 : Nat) : Int)) ∧ store1 (.ptrL 0 (0 + 1) g) (Z ((k + 1 : Nat) : Int)) ⟨[.cells g 4 (pd s k 0 (-1))], n⟩ = some ⟨[.cells g 4 (pd s ((k + 1 : Nat) : Int) 0 (-1))], n⟩ := fun n h => by
      refine ⟨binA_succ (by omega), ?_⟩
      rw [store1_L rfl]
      simp [blkDo, pd]
    simp only [nd0, Y1n, Y1o, Y1p, Y1q, Y1w, Y1x, Y1y, Y1z, Y20, Y21, Y28, Y2a, AV.cells?, Nat.reduceAdd, Nat.reduceMul]
    have e33 : (N.toNat : Int) = 33 ↔ s[k]? = some 33 := hnx 33 (by decide)
    by_cases h33 : s[k]? = some 33
    · rw [if_pos h33] at hR
      have hlt := lt_of_get h33
      simp only [nd0, Y1n, Y1o, Y1p, Y1q, Y1w, Y1x, Y1y, Y1z, Y20, Y21, Y28, Y2a, AV.cells?, Nat.reduceAdd, Nat.reduceMul, decide_eq_true (e33.2 h33), p1]
      rw [binA_succ (by omega)]
      simp only [nd0, Y1n, Y1o, Y1p, Y1q, Y1w, Y1x, Y1y, Y1z, Y20, Y21, Y28, Y2a, AV.cells?, Nat.reduceAdd, Nat.reduceMul]
      rw [store1_L rfl]
      simp only [nd0, Y1n, Y1o, Y1p, Y1q, Y1w, Y1x, Y1y, Y1z, Y20, Y21, Y28, Y2a, AV.cells?, Nat.reduceAdd, Nat.reduceMul, plen, hset, hadd]
      refine wCall.pc (b := 0) (ih (k + 1) (by omega)) rfl rfl ?_
      intro r cs n3 hr
      cases hx : oneR s d (k + 1) with
      | no e p =>
        rw [hx] at hr hR
        obtain ⟨h1, h2, j, rfl⟩ := hr
        refine wNewS.F' (l := [r]) (hsc r h2) rfl ?_
        simp only [nd0, Y1n, Y1o, Y1p, Y1q, Y1w, Y1x, Y1y, Y1z, Y20, Y21, Y28, Y2a, AV.cells?, Nat.reduceAdd, Nat.reduceMul, show fillA [S [], S [], nilS] [(0, 1, S [33]), (2, 1, .slN [r] 1)] = some [S [33], S [], .slN [r] 1] from rfl]
        refine wNew.F' rfl ?_
        exact hR _ _ _ [] n3 (.same _) ⟨⟨trivial, trivial, ⟨h1, trivial⟩, trivial⟩, rfl, j, rfl⟩
      | ok x j =>
        rw [hx] at hr hR
        obtain ⟨rfl, rfl⟩ := hr
        refine wNewS.F' (l := [x.ref]) (hsc _ (Ex.ref_scalar x)) rfl ?_
        simp only [nd0, Y1n, Y1o, Y1p, Y1q, Y1w, Y1x, Y1y, Y1z, Y20, Y21, Y28, Y2a, AV.cells?, Nat.reduceAdd, Nat.reduceMul, show fillA [S [], S [], nilS] [(0, 1, S [33]), (2, 1, .slN [x.ref] 1)] = some [S [33], S [], .slN [x.ref] 1] from rfl]
        refine wNew.F' rfl ?_
        exact hR _ _ _ [] n3 (.same _) ⟨rfl, rfl⟩
    rw [if_neg h33] at hR
    simp only [nd0, Y1n, Y1o, Y1p, Y1q, Y1w, Y1x, Y1y, Y1z, Y20, Y21, Y28, Y2a, AV.cells?, Nat.reduceAdd, Nat.reduceMul, decide_eq_false (fun h => h33 (e33.1 h))]
    have e40 : (N.toNat : Int) = 40 ↔ s[k]? = some 40 := hnx 40 (by decide)
    by_cases h40 : s[k]? = some 40
    · rw [if_pos h40] at hR
      have hlt := lt_of_get h40
      simp only [nd0, Y1n, Y1o, Y1p, Y1q, Y1w, Y1x, Y1y, Y1z, Y20, Y21, Y28, Y2a, AV.cells?, Nat.reduceAdd, Nat.reduceMul, decide_eq_true (e40.2 h40), p1]
      rw [binA_succ (by omega)]
      simp only [nd0, Y1n, Y1o, Y1p, Y1q, Y1w, Y1x, Y1y, Y1z, Y20, Y21, Y28, Y2a, AV.cells?, Nat.reduceAdd, Nat.reduceMul]
      rw [store1_L rfl]
      simp only [nd0, Y1n, Y1o, Y1p, Y1q, Y1w, Y1x, Y1y, Y1z, Y20, Y21, Y28, Y2a, AV.cells?, Nat.reduceAdd, Nat.reduceMul, plen, hset, hadd]
      refine wCall.pc (b := 0) (whole_spec B s hs (oneR s d) hgood herr _ ih (k + 1) (by omega)) rfl rfl ?_
      intro r cs n3 hr
      cases hx : orR s (oneR s d) (k + 1) with
      | no e p =>
        rw [hx] at hr hR
        have he : e ≠ 0 := allR_err (allR_err herr) _ _ _ hx
        obtain ⟨h1, h2, j, rfl⟩ := hr
        simp only [nd0, Y1n, Y1o, Y1p, Y1q, Y1w, Y1x, Y1y, Y1z, Y20, Y21, Y28, Y2a, AV.cells?, Nat.reduceAdd, Nat.reduceMul, p2, p1, decide_eq_false (show ¬ (e : Int) = 0 by omega), binA_add']
        rw [store1_L rfl]
        simp only [nd0, Y1n, Y1o, Y1p, Y1q, Y1w, Y1x, Y1y, Y1z, Y20, Y21, Y28, Y2a, AV.cells?, Nat.reduceAdd, Nat.reduceMul, plen, hset]
        exact hR _ _ (pd s _ e p) [] n3 (.same _) ⟨h1, h2, _, rfl⟩
      | ok x j =>
        rw [hx] at hr hR
        obtain ⟨rfl, rfl⟩ := hr
        obtain ⟨a1, a2, a3, a4⟩ := orR_good hgood _ x j (by omega) hx
        have b2 := skipTo_len a2
        simp only [nd0, Y1n, Y1o, Y1p, Y1q, Y1w, Y1x, Y1y, Y1z, Y20, Y21, Y28, Y2a, AV.cells?, Nat.reduceAdd, Nat.reduceMul, p2, show decide ((0 : Int) = 0) = true from rfl]
        refine wCall.pc (b := 0) (rnext_spec B s j 0 (-1) a2 hs) rfl rfl ?_
        rintro r cs n4 ⟨rfl, rfl⟩
        simp only [closeR] at hR
        have e41 : ((nextC s j).toNat : Int) = 41 ↔ s[skipTo s j]? = some 41 := nextC_eq (c := 41) (by decide)
        by_cases h41 : s[skipTo s j]? = some 41
        · rw [if_pos h41] at hR
          have hlt2 := lt_of_get h41
          simp only [nd0, Y1n, Y1o, Y1p, Y1q, Y1w, Y1x, Y1y, Y1z, Y20, Y21, Y28, Y2a, AV.cells?, Nat.reduceAdd, Nat.reduceMul, decide_eq_true (e41.2 h41), p1]
          rw [binA_succ (by omega)]
          simp only [nd0, Y1n, Y1o, Y1p, Y1q, Y1w, Y1x, Y1y, Y1z, Y20, Y21, Y28, Y2a, AV.cells?, Nat.reduceAdd, Nat.reduceMul]
          rw [store1_L rfl]
          simp only [nd0, Y1n, Y1o, Y1p, Y1q, Y1w, Y1x, Y1y, Y1z, Y20, Y21, Y28, Y2a, AV.cells?, Nat.reduceAdd, Nat.reduceMul, plen, hset]
          exact hR _ _ (pd s _ 0 (-1)) [] n4 (.same _) ⟨rfl, rfl⟩
        · rw [if_neg h41] at hR
          simp only [nd0, Y1n, Y1o, Y1p, Y1q, Y1w, Y1x, Y1y, Y1z, Y20, Y21, Y28, Y2a, AV.cells?, Nat.reduceAdd, Nat.reduceMul, decide_eq_false (fun h => h41 (e41.1 h))]
          refine wCall.pc (b := 0) (rfail_spec B s (skipTo s j) 3 b2 hs) rfl rfl ?_
          rintro r cs n5 ⟨rfl, rfl⟩
          exact hR _ _ _ [] n5 (.same _) ⟨trivial, rfl, _, by rw [skipTo_idem]⟩
    rw [if_neg h40] at hR
    simp only [nd0, Y1n, Y1o, Y1p, Y1q, Y1w, Y1x, Y1y, Y1z, Y20, Y21, Y28, Y2a, AV.cells?, Nat.reduceAdd, Nat.reduceMul, decide_eq_false (fun h => h40 (e40.1 h))]
    have e48 : (N.toNat : Int) = 48 ↔ s[k]? = some 48 := hnx 48 (by decide)
    have e49 : (N.toNat : Int) = 49 ↔ s[k]? = some 49 := hnx 49 (by decide)
    have e94 : (N.toNat : Int) = 94 ↔ s[k]? = some 94 := hnx 94 (by decide)
    have e126 : (N.toNat : Int) = 126 ↔ s[k]? = some 126 := hnx 126 (by decide)
    refine or_join (x := 0) fun n3 => ?_
    by_cases hk1 : s[k]? = some 48 ∨ s[k]? = some 49
    · have hb : (decide ((N.toNat : Int) = 48) || decide ((N.toNat : Int) = 49)) = true := by
        rcases hk1 with h | h
        · rw [decide_eq_true (e48.2 h)]; rfl
        · rw [decide_eq_true (e49.2 h), Bool.or_true]
      have hlt : k < s.length := by rcases hk1 with h | h <;> exact lt_of_get h
      have hN : N.toNat < 128 := by rcases hk1 with h | h <;> rw [hget _ h] <;> decide
      rw [hb]
      simp only [nd0, Y1n, Y1o, Y1p, Y1q, Y1w, Y1x, Y1y, Y1z, Y20, Y21, Y28, Y2a, AV.cells?, Nat.reduceAdd, Nat.reduceMul, p1]
      rw [binA_succ (by omega)]
      simp only [nd0, Y1n, Y1o, Y1p, Y1q, Y1w, Y1x, Y1y, Y1z, Y20, Y21, Y28, Y2a, AV.cells?, Nat.reduceAdd, Nat.reduceMul]
      rw [store1_L rfl]
      simp only [nd0, Y1n, Y1o, Y1p, Y1q, Y1w, Y1x, Y1y, Y1z, Y20, Y21, Y28, Y2a, AV.cells?, Nat.reduceAdd, Nat.reduceMul, plen, hset, conv_byte N hN, show fillA [S [], S [], nilS] [(0, 1, S [N])] = some [S [N], S [], nilS] from rfl]
      refine wNew.F' rfl ?_
      rcases hk1 with h | h
      · rw [if_pos h] at hR
        rw [hget _ h]
        exact hR _ _ (pd s _ 0 (-1)) [] n3 (.same _) ⟨rfl, rfl⟩
      · rw [if_neg (by rw [h]; decide), if_pos h] at hR
        rw [hget _ h]
        exact hR _ _ (pd s _ 0 (-1)) [] n3 (.same _) ⟨rfl, rfl⟩
    have h48 : ¬ s[k]? = some 48 := fun h => hk1 (.inl h)
    have h49 : ¬ s[k]? = some 49 := fun h => hk1 (.inr h)
    rw [if_neg h48, if_neg h49] at hR
    have hb : (decide ((N.toNat : Int) = 48) || decide ((N.toNat : Int) = 49)) = false := by
      rw [decide_eq_false (fun h => h48 (e48.1 h)), decide_eq_false (fun h => h49 (e49.1 h))]; rfl
    rw [hb]
    simp only [nd0, Y1n, Y1o, Y1p, Y1q, Y1w, Y1x, Y1y, Y1z, Y20, Y21, Y28, Y2a, AV.cells?, Nat.reduceAdd, Nat.reduceMul]
    refine or_join (x := 0) fun n4 => ?_
    by_cases hk2 : s[k]? = some 94 ∨ s[k]? = some 126
    · have hb : (decide ((N.toNat : Int) = 94) || decide ((N.toNat : Int) = 126)) = true := by
        rcases hk2 with h | h
        · rw [decide_eq_true (e94.2 h)]; rfl
        · rw [decide_eq_true (e126.2 h), Bool.or_true]
      have hlt : k < s.length := by rcases hk2 with h | h <;> exact lt_of_get h
      have hN : N.toNat < 128 := by rcases hk2 with h | h <;> rw [hget _ h] <;> decide
      rw [hb]
      simp only [nd0, Y1n, Y1o, Y1p, Y1q, Y1w, Y1x, Y1y, Y1z, Y20, Y21, Y28, Y2a, AV.cells?, Nat.reduceAdd, Nat.reduceMul, p1]
      rw [binA_succ (by omega)]
      simp only [nd0, Y1n, Y1o, Y1p, Y1q, Y1w, Y1x, Y1y, Y1z, Y20, Y21, Y28, Y2a, AV.cells?, Nat.reduceAdd, Nat.reduceMul]
      rw [store1_L rfl]
      simp only [nd0, Y1n, Y1o, Y1p, Y1q, Y1w, Y1x, Y1y, Y1z, Y20, Y21, Y28, Y2a, AV.cells?, Nat.reduceAdd, Nat.reduceMul, plen, hset, conv_byte N hN]
      refine wCall.pc (b := 0) (rword_spec B s (k + 1) (by omega) hs) rfl rfl ?_
      intro r cs n5 hr
      have hR2 : ∀ x cs, PR s ((wordR s (k + 1)).map (if N = 94 then Ex.rise else Ex.fall)) x cs → ∀ n, R x ⟨[.cells g 4 cs], n⟩ := by
        intro x cs hp n
        refine hR x x cs [] n (.same _) ?_
        rcases hk2 with h | h
        · rw [if_pos h]
          rw [if_pos (hget _ h)] at hp
          exact hp
        · rw [if_neg (by rw [h]; decide), if_pos h]
          rw [if_neg (by rw [hget _ h]; decide)] at hp
          exact hp
      have hNx : N = 94 ∨ N = 126 := by rcases hk2 with h | h; exact .inl (hget _ h); exact .inr (hget _ h)
      cases hx : wordR s (k + 1) with
      | no e p =>
        rw [hx] at hr hR2
        obtain ⟨w, rfl, j, rfl⟩ := hr
        simp only [nd0, Y1n, Y1o, Y1p, Y1q, Y1w, Y1x, Y1y, Y1z, Y20, Y21, Y28, Y2a, AV.cells?, Nat.reduceAdd, Nat.reduceMul, show fillA [S [], S [], nilS] [(0, 1, S [N]), (1, 1, S w)] = some [S [N], S w, nilS] from rfl]
        refine wNew.F' rfl ?_
        exact hR2 (.ptrF [S [N], S w, nilS] 0) (pd s j e p) ⟨⟨trivial, trivial, trivial, trivial⟩, rfl, j, rfl⟩ _
      | ok w j =>
        rw [hx] at hr hR2
        obtain ⟨rfl, rfl⟩ := hr
        simp only [nd0, Y1n, Y1o, Y1p, Y1q, Y1w, Y1x, Y1y, Y1z, Y20, Y21, Y28, Y2a, AV.cells?, Nat.reduceAdd, Nat.reduceMul, show fillA [S [], S [], nilS] [(0, 1, S [N]), (1, 1, S w)] = some [S [N], S w, nilS] from rfl]
        refine wNew.F' rfl ?_
        refine hR2 _ _ ⟨?_, rfl⟩ _
        rcases hNx with rfl | rfl <;> rfl
    have h94 : ¬ s[k]? = some 94 := fun h => hk2 (.inl h)
    have h126 : ¬ s[k]? = some 126 := fun h => hk2 (.inr h)
    rw [if_neg h94, if_neg h126] at hR
    have hb : (decide ((N.toNat : Int) = 94) || decide ((N.toNat : Int) = 126)) = false := by
      rw [decide_eq_false (fun h => h94 (e94.1 h)), decide_eq_false (fun h => h126 (e126.1 h))]; rfl
    rw [hb]
    simp only [nd0, Y1n, Y1o, Y1p, Y1q, Y1w, Y1x, Y1y, Y1z, Y20, Y21, Y28, Y2a, AV.cells?, Nat.reduceAdd, Nat.reduceMul]
    refine wCall.pc (b := 0) (rword_spec B s k hk hs) rfl rfl ?_
    intro r cs n5 hr
    cases hx : wordR s k with
    | no e p =>
      rw [hx] at hr hR
      obtain ⟨w, rfl, j, rfl⟩ := hr
      simp only [nd0, Y1n, Y1o, Y1p, Y1q, Y1w, Y1x, Y1y, Y1z, Y20, Y21, Y28, Y2a, AV.cells?, Nat.reduceAdd, Nat.reduceMul, show fillA [S [], S [], nilS] [(0, 1, S [98, 105, 116]), (1, 1, S w)] = some [S [98, 105, 116], S w, nilS] from rfl]
      refine wNew.F' rfl ?_
      exact hR _ _ _ [] n5 (.same _) ⟨⟨trivial, trivial, trivial, trivial⟩, rfl, j, rfl⟩
    | ok w j =>
      rw [hx] at hr hR
      obtain ⟨rfl, rfl⟩ := hr
      simp only [nd0, Y1n, Y1o, Y1p, Y1q, Y1w, Y1x, Y1y, Y1z, Y20, Y21, Y28, Y2a, AV.cells?, Nat.reduceAdd, Nat.reduceMul, show fillA [S [], S [], nilS] [(0, 1, S [98, 105, 116]), (1, 1, S w)] = some [S [98, 105, 116], S w, nilS] from rfl]
      refine wNew.F' rfl ?_
      exact hR _ _ _ [] n5 (.same _) ⟨rfl, rfl⟩
/-- what the document's ExprParse answers -/
def refParseA (s : Str) : AV := if 2000 < s.length then .tup [nilP, .agg [Z 4, Z (-1)]] else match parseR s with
  | .ok x _ => .tup [x.ref, .agg [Z 0, Z (-1)]]
  | .no e p => .tup [nilP, .agg [Z e, Z p]]
theorem refParseA_closed (s : Str) : (refParseA s).closed := by
  unfold refParseA
  split
  · exact ⟨trivial, ⟨trivial, trivial, trivial⟩, trivial⟩
  split
  · exact ⟨Ex.ref_closed _, ⟨trivial, trivial, trivial⟩, trivial⟩
  · exact ⟨trivial, ⟨trivial, trivial, trivial⟩, trivial⟩
theorem ret_pf (a : AV) (b : List AV) : retPack [some a, some (.agg b)] = some (.tup [a, .agg b]) := rfl
theorem Bare_spec' (B : RefReadBodies E P) (e : Int) : FX E P 87 [Z e] (.agg [Z e, Z (-1)]) := Bare_spec B.bare e
theorem ExprParse_spec (B : RefReadBodies E P) (s : Str) : FX E P 125 [S s] (refParseA s) := by
  refine FX.of' ⟨trivial, trivial⟩ (refParseA_closed s) fun n R hR => B.parse _ _ _ ?_
  have gfine : gptr E 5 = .ptrF [Z 0, Z (-1)] 0 := by simp [gptr, B.fine]
  unfold F.ref_ExprParse
  unfold refParseA at hR
  refine wNew.L (l := [Z 0, Z 0]) rfl ?_
  simp only [nd0, Y1n, Y1o, Y1p, Y1q, Y1w, Y1x, Y1y, Y1z, Y20, Y21, Y28, Y2a, AV.cells?, Nat.reduceAdd, Nat.reduceMul]
  by_cases hl : 2000 < s.length
  · rw [if_pos hl] at hR
    simp only [nd0, Y1n, Y1o, Y1p, Y1q, Y1w, Y1x, Y1y, Y1z, Y20, Y21, Y28, Y2a, AV.cells?, Nat.reduceAdd, Nat.reduceMul, decide_eq_true (show (2000 : Int) < (s.length : Int) by omega)]
    refine wCall.fx (Bare_spec' B 4) fun n => ?_
    simp only [nd0, Y1n, Y1o, Y1p, Y1q, Y1w, Y1x, Y1y, Y1z, Y20, Y21, Y28, Y2a, AV.cells?, Nat.reduceAdd, Nat.reduceMul]
    rw [storeN_L (n := 2) (xs := [Z 4, Z (-1)]) rfl rfl]
    simp only [nd0, Y1n, Y1o, Y1p, Y1q, Y1w, Y1x, Y1y, Y1z, Y20, Y21, Y28, Y2a, AV.cells?, Nat.reduceAdd, Nat.reduceMul, put_two, ret_pf]
    exact hR _ _ rfl
  rw [if_neg hl] at hR
  simp only [nd0, Y1n, Y1o, Y1p, Y1q, Y1w, Y1x, Y1y, Y1z, Y20, Y21, Y28, Y2a, AV.cells?, Nat.reduceAdd, Nat.reduceMul, decide_eq_false (show ¬ (2000 : Int) < (s.length : Int) by omega), gfine, show fillA [S [], Z 0, Z 0, Z 0] [(0, 1, S s), (2, 2, .agg [Z 0, Z (-1)])] = some (pd s 0 0 (-1)) from rfl, show (AV.val (.string ⟨#[]⟩)) = S [] from rfl]
  refine wNew.L (l := pd s 0 0 (-1)) rfl ?_
  have hs : s.length < 1000000 := by omega
  have hgood := oneR_good s 20
  have herr := oneR_err s 20
  simp only [nd0, Y1n, Y1o, Y1p, Y1q, Y1w, Y1x, Y1y, Y1z, Y20, Y21, Y28, Y2a, AV.cells?, Nat.reduceAdd, Nat.reduceMul]
  refine wCall.pc (b := 1) (whole_spec B s hs (oneR s 20) hgood herr 0 (piece_spec B s hs 20 (by omega)) 0 (by omega)) rfl rfl ?_
  intro r cs n2 hr
  have p1 : ∀ j e p, (pd s j e p)[1]? = some (Z j) := fun _ _ _ => rfl
  have p2 : ∀ j e p, (pd s j e p)[2]? = some (Z e) := fun _ _ _ => rfl
  have psub : ∀ j e p, subL (pd s j e p) 2 2 = some [Z e, Z p] := fun _ _ _ => rfl
  unfold parseR at hR
  cases hx : orR s (oneR s 20) 0 with
  | no e p =>
    rw [hx] at hr hR
    have he : e ≠ 0 := allR_err (allR_err herr) _ _ _ hx
    obtain ⟨h1, h2, j, rfl⟩ := hr
    refine wJoin.zero (fun H => ∃ c, H = ⟨[.cells n 2 [Z 0, Z 0], .cells (n + 1) 4 (pd s j e p)], c⟩) ?_ ?_
    · simp only [nd0, Y1n, Y1o, Y1p, Y1q, Y1w, Y1x, Y1y, Y1z, Y20, Y21, Y28, Y2a, AV.cells?, Nat.reduceAdd, Nat.reduceMul, p2, decide_eq_false (show ¬ (e : Int) = 0 by omega)]
      exact gh0.mk ⟨_, rfl⟩
    · rintro H ⟨c, rfl⟩
      simp only [nd0, Y1n, Y1o, Y1p, Y1q, Y1w, Y1x, Y1y, Y1z, Y20, Y21, Y28, Y2a, AV.cells?, Nat.reduceAdd, Nat.reduceMul, p2, decide_eq_false (show ¬ (e : Int) = 0 by omega), psub, and_self, true_and]
      rw [storeN_L (n := 2) (xs := [Z e, Z p]) rfl rfl]
      simp only [nd0, Y1n, Y1o, Y1p, Y1q, Y1w, Y1x, Y1y, Y1z, Y20, Y21, Y28, Y2a, AV.cells?, Nat.reduceAdd, Nat.reduceMul, put_two, ret_pf]
      exact hR _ _ rfl
  | ok x j =>
    rw [hx] at hr hR
    obtain ⟨rfl, rfl⟩ := hr
    obtain ⟨a1, a2, a3, a4⟩ := orR_good hgood _ x j (by omega) hx
    have b2 := skipTo_len a2
    refine wJoin.zero (fun H => ∃ c, H = ⟨[.cells n 2 [Z 0, Z 0], .cells (n + 1) 4 (if skipTo s j < s.length then pd s (skipTo s j) 3 (skipTo s j) else pd s (skipTo s j) 0 (-1))], c⟩) ?_ ?_
    · simp only [nd0, Y1n, Y1o, Y1p, Y1q, Y1w, Y1x, Y1y, Y1z, Y20, Y21, Y28, Y2a, AV.cells?, Nat.reduceAdd, Nat.reduceMul, p2, show decide ((0 : Int) = 0) = true from rfl]
      refine wCall.pc (b := 1) (rnext_spec B s j 0 (-1) a2 hs) rfl rfl ?_
      rintro r cs n4 ⟨rfl, rfl⟩
      have hfail : skipTo s j < s.length → ∀ c, wCall E P 132 [.ptrL 1 0 (n + 1), Z 3] ⟨[.cells n 2 [Z 0, Z 0], .cells (n + 1) 4 (pd s (skipTo s j) 0 (-1))], c⟩ fun _ H => gh0 (fun H => ∃ c, H = ⟨[.cells n 2 [Z 0, Z 0], .cells (n + 1) 4 (if skipTo s j < s.length then pd s (skipTo s j) 3 (skipTo s j) else pd s (skipTo s j) 0 (-1))], c⟩) H := fun hlt c => by
        refine wCall.pc (b := 1) (rfail_spec B s (skipTo s j) 3 b2 hs) rfl rfl ?_
        rintro r cs n5 ⟨rfl, rfl⟩
        refine gh0.mk ⟨n5, ?_⟩
        rw [if_pos hlt, skipTo_idem]; rfl
      by_cases hz : nextC s j = 0
      · simp only [nd0, Y1n, Y1o, Y1p, Y1q, Y1w, Y1x, Y1y, Y1z, Y20, Y21, Y28, Y2a, AV.cells?, Nat.reduceAdd, Nat.reduceMul, hz, show decide ((((0 : UInt8).toNat : Nat) : Int) = 0) = true from rfl, p2, p1, show decide ((0 : Int) = 0) = true from rfl]
        by_cases hlt : skipTo s j < s.length
        · simp only [nd0, Y1n, Y1o, Y1p, Y1q, Y1w, Y1x, Y1y, Y1z, Y20, Y21, Y28, Y2a, AV.cells?, Nat.reduceAdd, Nat.reduceMul, decide_eq_true (show ((skipTo s j : Nat) : Int) < (s.length : Int) by omega)]
          exact hfail hlt _
        · simp only [nd0, Y1n, Y1o, Y1p, Y1q, Y1w, Y1x, Y1y, Y1z, Y20, Y21, Y28, Y2a, AV.cells?, Nat.reduceAdd, Nat.reduceMul, decide_eq_false (show ¬ ((skipTo s j : Nat) : Int) < (s.length : Int) by omega)]
          exact gh0.mk ⟨_, by rw [if_neg hlt]⟩
      · have hlt : skipTo s j < s.length := by
          have : ¬ s.length ≤ skipTo s j := fun h => hz (by unfold nextC; rw [List.getElem?_eq_none h]; rfl)
          omega
        have hz2 : ¬ ((nextC s j).toNat : Int) = 0 := fun h => hz (UInt8.toNat_inj.1 (by simp; omega))
        simp only [nd0, Y1n, Y1o, Y1p, Y1q, Y1w, Y1x, Y1y, Y1z, Y20, Y21, Y28, Y2a, AV.cells?, Nat.reduceAdd, Nat.reduceMul, decide_eq_false hz2]
        exact hfail hlt _
    · rintro H ⟨c, rfl⟩
      by_cases hlt : skipTo s j < s.length
      · simp only [if_pos hlt] at hR ⊢
        simp only [nd0, Y1n, Y1o, Y1p, Y1q, Y1w, Y1x, Y1y, Y1z, Y20, Y21, Y28, Y2a, AV.cells?, Nat.reduceAdd, Nat.reduceMul, p2, show decide ((3 : Int) = 0) = false from rfl, psub, and_self, true_and]
        rw [storeN_L (n := 2) (xs := [Z 3, Z (skipTo s j)]) rfl rfl]
        simp only [nd0, Y1n, Y1o, Y1p, Y1q, Y1w, Y1x, Y1y, Y1z, Y20, Y21, Y28, Y2a, AV.cells?, Nat.reduceAdd, Nat.reduceMul, put_two, ret_pf]
        exact hR _ _ rfl
      · simp only [if_neg hlt] at hR ⊢
        simp only [nd0, Y1n, Y1o, Y1p, Y1q, Y1w, Y1x, Y1y, Y1z, Y20, Y21, Y28, Y2a, AV.cells?, Nat.reduceAdd, Nat.reduceMul, p2, show decide ((0 : Int) = 0) = true from rfl, psub, and_self, true_and, gfine]
        rw [storeN_L (n := 2) (xs := [Z 0, Z (-1)]) rfl rfl]
        simp only [nd0, Y1n, Y1o, Y1p, Y1q, Y1w, Y1x, Y1y, Y1z, Y20, Y21, Y28, Y2a, AV.cells?, Nat.reduceAdd, Nat.reduceMul, put_two, ret_pf]
        exact hR _ _ rfl
end
end Go.Sc
namespace Go.Sc
open Go
set_option linter.unusedSimpArgs false
set_option linter.unusedVariables false
set_option linter.unnecessarySimpa false

theorem binA_cat {s t : Str} (h : s.length + t.length ≤ 4611686018427387904) : binA .add (S s) (S t) = some (S (s ++ t)) := by
  have h1 : ¬ (((⟨s.toArray⟩ : ByteArray).size + (⟨t.toArray⟩ : ByteArray).size : Nat) : Int) > IntKind.i64.max := by
    simp [ByteArray.size, IntKind.max, IntKind.bits, IntKind.signed]; omega
  simp only [binA, strBin, if_neg h1, Option.map_some]
  congr 3
def Ex.kind : Ex → Str
  | .k b => if b then [49] else [48]
  | .bit _ => [98, 105, 116]
  | .rise _ => [94]
  | .fall _ => [126]
  | .not _ => [33]
  | .and _ => [38]
  | .or _ => [124]
def Ex.nm : Ex → Str
  | .bit s => s
  | .rise s => s
  | .fall s => s
  | _ => []
def Ex.of : Ex → AV
  | .not x => .slN [x.ref] 1
  | .and l => .slN (Ex.refL l) l.length
  | .or l => .slN (Ex.refL l) l.length
  | _ => nilS
theorem Ex.ref_eq (x : Ex) : x.ref = .ptrF [S x.kind, S x.nm, x.of] 0 := by cases x <;> rfl
def Ex.isAnd : Ex → Bool
  | .and _ => true
  | _ => false
def Ex.isOr : Ex → Bool
  | .or _ => true
  | _ => false
theorem Ex.kind_and (x : Ex) : x.kind = [38] ↔ x.isAnd = true := by
  cases x with
  | k b => cases b <;> simp [Ex.kind, Ex.isAnd]
  | _ => simp [Ex.kind, Ex.isAnd]
theorem Ex.kind_or (x : Ex) : x.kind = [124] ↔ x.isOr = true := by
  cases x with
  | k b => cases b <;> simp [Ex.kind, Ex.isOr]
  | _ => simp [Ex.kind, Ex.isOr]
theorem Ex.wr_two (x : Ex) : x.wr 2 = around (x.isAnd || x.isOr) (x.wr 0) := by cases x <;> simp [Ex.wr, Ex.isAnd, Ex.isOr, around]
theorem Ex.wr_one (x : Ex) : x.wr 1 = around x.isOr (x.wr 0) := by cases x <;> simp [Ex.wr, Ex.isAnd, Ex.isOr, around]
theorem Ex.wt_mem {x : Ex} : ∀ {l : List Ex}, x ∈ l → x.wt ≤ Ex.wtL l
  | y :: l, h => by
    rcases List.mem_cons.1 h with rfl | h
    · simp only [Ex.wtL]; omega
    · have := Ex.wt_mem h; simp only [Ex.wtL]; omega
theorem Ex.fine_mem {x : Ex} : ∀ {l : List Ex}, Ex.fineL l → x ∈ l → x.fine
  | y :: l, h, hx => by
    rcases List.mem_cons.1 hx with rfl | hx
    · exact h.1
    · exact Ex.fine_mem h.2 hx
theorem Ex.len_wtL : ∀ {l : List Ex}, Ex.fineL l → l.length ≤ Ex.wtL l
  | [], _ => by simp
  | x :: l, h => by
    have h2 := Ex.len_wtL h.2
    have : 1 ≤ x.wt := by
      have h1 := h.1
      cases x with
      | bit s => cases s with
        | nil => simp [Ex.fine, nameOk] at h1
        | cons a b => simp [Ex.wt]
      | _ => simp only [Ex.wt]; omega
    simp only [Ex.wtL, List.length_cons]; omega
structure WriteBodies (E : Env) (P : Program) : Prop where
  join : ∀ (l : List Str) (sep : Str), l.length ≤ 10000000 → (joinS sep l).length ≤ 100000000 → FX E P 118 [Lm S l, S sep] (S (joinS sep l))
  write : Body2 E P 146 F.expr_write
  join2 : Body4 E P 148 F.expr_join
  text : Body1 E P 127 F.expr_Text
  tOr : Body1 E P 147 F.expr_Or_Text
  tAnd : Body1 E P 149 F.expr_And_Text
  tNot : Body1 E P 150 F.expr_Not_Text
  tConst : Body1 E P 151 F.expr_Const_Text
  tRise : Body1 E P 152 F.expr_Rise_Text
  tFall : Body1 E P 153 F.expr_Fall_Text
  tBit : Body1 E P 154 F.expr_Bit_Text
  mOr : MethodIs E P 8 "Text" 147
  mAnd : MethodIs E P 9 "Text" 149
  mNot : MethodIs E P 10 "Text" 150
  mConst : MethodIs E P 11 "Text" 151
  mRise : MethodIs E P 12 "Text" 152
  mFall : MethodIs E P 13 "Text" 153
  mBit : MethodIs E P 14 "Text" 154
theorem Lm_S {l : List Str} : Lm S l = .slN (l.map fun s => S s) l.length := rfl
section
variable {E : Env} {P : Program}
theorem S_closed (s : Str) : AV.closed (S s) := trivial
theorem join2_spec (B : WriteBodies E P) (l : List Ex) (sep : Str) (inner : Nat) (b : Bool) (hl : ∀ x ∈ l, FX E P 146 [x.enc, Z inner] (S (x.wr inner))) (hn : l.length ≤ 1000000) (hw : Ex.wtL l ≤ 10000000) (hsep : sep.length ≤ 3) :
    FX E P 148 [.slN (Ex.encL l) l.length, S sep, Z inner, Bo b] (S (around b (joinS sep (Ex.wrL inner l)))) := by
  refine FX.of' ⟨Ex.encL_closed l, trivial, trivial, trivial, trivial⟩ trivial fun n R hR => B.join2 _ _ _ _ _ _ ?_
  unfold F.expr_join
  have hlen : (joinS sep (Ex.wrL inner l)).length ≤ 20000000 := by
    have h1 := joinS_len sep (Ex.wrL inner l)
    have h2 := Ex.wrL_len l inner
    have h3 : (Ex.wrL inner l).length = l.length := by rw [Ex.wrL_map, List.length_map]
    have h4 : sep.length * (Ex.wrL inner l).length ≤ 3 * 1000000 := Nat.mul_le_mul hsep (by omega)
    omega
  simp only [nd0, Y1n, Y1o, Y1p, Y1q, Y1w, Y1x, Y1y, Y1z, Y20, Y21, Y28, Y2a, AV.cells?, Nat.reduceAdd, Nat.reduceMul]
  refine wLoop.two (fun m t i H => ∃ pre rest z c, l = pre ++ rest ∧ m = rest.length ∧ i = Z pre.length ∧ Gr 1 z 0 t ((Ex.wrL inner pre).map fun s => S s) pre.length ∧ H = ⟨[z], c⟩) l.length
    (gh2.of (ghost_room [.dead] (by simp)) ⟨[], l, .dead, n, rfl, rfl, rfl, .nil, rfl⟩) ?_
  rintro m t i H ⟨pre, rest, z, c, rfl, rfl, rfl, hg, rfl⟩
  cases rest with
  | cons x rest =>
    simp only [nd0, Y1n, Y1o, Y1p, Y1q, Y1w, Y1x, Y1y, Y1z, Y20, Y21, Y28, Y2a, AV.cells?, Nat.reduceAdd, Nat.reduceMul, decide_eq_true (show ((pre.length : Nat) : Int) < (((pre ++ x :: rest).length : Nat) : Int) by simp; omega)]
    rw [iaddr_Nn (by simp)]
    simp only [nd0, Y1n, Y1o, Y1p, Y1q, Y1w, Y1x, Y1y, Y1z, Y20, Y21, Y28, Y2a, AV.cells?, Nat.reduceAdd, Nat.reduceMul, show (Ex.encL (pre ++ x :: rest))[pre.length]? = some x.enc by rw [Ex.encL_map]; simp]
    refine wCall.fx (hl x (by simp)) fun n2 => ?_
    refine wNewS.F' (l := [S (x.wr inner)]) rfl rfl ?_
    refine wApp.one hg rfl (by rw [Ex.wrL_map]; simp) (.refl _) rfl (by simp [mostBytes] at hn ⊢; omega) ?_
    intro z' x' c2 hg'
    rw [binA_succ (by simp at hn; omega)]
    simp only [nd0, Y1n, Y1o, Y1p, Y1q, Y1w, Y1x, Y1y, Y1z, Y20, Y21, Y28, Y2a, AV.cells?, Nat.reduceAdd, Nat.reduceMul]
    refine back2.mk rest.length (by simp) ⟨pre ++ [x], rest, z', c2, by simp, rfl, by simp, ?_, rfl⟩
    rw [Ex.wrL_map] at hg' ⊢
    simpa using hg'
  | nil =>
    rw [List.append_nil] at hl hn hw hR hlen ⊢
    simp only [nd0, Y1n, Y1o, Y1p, Y1q, Y1w, Y1x, Y1y, Y1z, Y20, Y21, Y28, Y2a, AV.cells?, Nat.reduceAdd, Nat.reduceMul, Int.lt_irrefl]
    have hsub : SubL [t, S sep] [Lm S (Ex.wrL inner pre), S sep] := .cons (by
      have := hg.sub
      rw [Lm_S]
      have e : (Ex.wrL inner pre).length = pre.length := by rw [Ex.wrL_map, List.length_map]
      rw [e]; exact this) (.refl _)
    have hn2 : (Ex.wrL inner pre).length ≤ 10000000 := by rw [Ex.wrL_map, List.length_map]; omega
    cases b with
    | true =>
      simp only [nd0, Y1n, Y1o, Y1p, Y1q, Y1w, Y1x, Y1y, Y1z, Y20, Y21, Y28, Y2a, AV.cells?, Nat.reduceAdd, Nat.reduceMul]
      refine wCall.fxs (B.join (Ex.wrL inner pre) sep hn2 (by omega)) hsub fun n2 => ?_
      rw [show (AV.val (.string ⟨#[40]⟩)) = S [40] from rfl, binA_cat (by simp; omega)]
      simp only [nd0, Y1n, Y1o, Y1p, Y1q, Y1w, Y1x, Y1y, Y1z, Y20, Y21, Y28, Y2a, AV.cells?, Nat.reduceAdd, Nat.reduceMul]
      rw [show (AV.val (.string ⟨#[41]⟩)) = S [41] from rfl, binA_cat (by simp; omega)]
      simp only [nd0, Y1n, Y1o, Y1p, Y1q, Y1w, Y1x, Y1y, Y1z, Y20, Y21, Y28, Y2a, AV.cells?, Nat.reduceAdd, Nat.reduceMul]
      exact hR _ _ rfl
    | false =>
      simp only [nd0, Y1n, Y1o, Y1p, Y1q, Y1w, Y1x, Y1y, Y1z, Y20, Y21, Y28, Y2a, AV.cells?, Nat.reduceAdd, Nat.reduceMul]
      refine wCall.fxs (B.join (Ex.wrL inner pre) sep hn2 (by omega)) hsub fun n2 => ?_
      exact hR _ _ rfl
theorem asA {k k' : Nat} {z a : AV} : assertA k z (.ifc k' a) = some (if k' = k then .tup [a, Bo true] else .tup [z, Bo false]) := by
  simp only [assertA]; split <;> rfl
theorem write_spec (B : WriteBodies E P) : ∀ (n : Nat) (x : Ex), x.wt < n → x.wt ≤ 1000000 → x.fine → ∀ st : Nat, st ≤ 2 → FX E P 146 [x.enc, Z st] (S (x.wr st)) := by
  intro n
  induction n with
  | zero => intro x hx; omega
  | succ n ih =>
    intro x hx hw hf st hst
    refine FX.of' ⟨Ex.enc_closed x, trivial, trivial⟩ trivial fun c R hR => B.write _ _ _ _ ?_
    unfold F.expr_write
    cases x with
    | k b =>
      simp only [Ex.enc]
      simp only [nd0, Y1n, Y1o, Y1p, Y1q, Y1w, Y1x, Y1y, Y1z, Y20, Y21, Y28, Y2a, AV.cells?, Nat.reduceAdd, Nat.reduceMul, asA, if_pos rfl]
      cases b with
      | true => simp only [nd0, Y1n, Y1o, Y1p, Y1q, Y1w, Y1x, Y1y, Y1z, Y20, Y21, Y28, Y2a, AV.cells?, Nat.reduceAdd, Nat.reduceMul]; exact hR _ _ rfl
      | false => simp only [nd0, Y1n, Y1o, Y1p, Y1q, Y1w, Y1x, Y1y, Y1z, Y20, Y21, Y28, Y2a, AV.cells?, Nat.reduceAdd, Nat.reduceMul]; exact hR _ _ rfl
    | bit s =>
      simp only [Ex.enc]
      simp only [nd0, Y1n, Y1o, Y1p, Y1q, Y1w, Y1x, Y1y, Y1z, Y20, Y21, Y28, Y2a, AV.cells?, Nat.reduceAdd, Nat.reduceMul, asA, show (14 : Nat) = 11 ↔ False by decide, show (14 : Nat) = 14 ↔ True by decide]
      exact hR _ _ rfl
    | rise s =>
      simp only [Ex.enc]
      simp only [Ex.wt] at hw
      simp only [nd0, Y1n, Y1o, Y1p, Y1q, Y1w, Y1x, Y1y, Y1z, Y20, Y21, Y28, Y2a, AV.cells?, Nat.reduceAdd, Nat.reduceMul, asA, show (12 : Nat) = 11 ↔ False by decide, show (12 : Nat) = 14 ↔ False by decide, show (12 : Nat) = 12 ↔ True by decide]
      rw [show (AV.val (.string ⟨#[94]⟩)) = S [94] from rfl, binA_cat (by simp; omega)]
      simp only [nd0, Y1n, Y1o, Y1p, Y1q, Y1w, Y1x, Y1y, Y1z, Y20, Y21, Y28, Y2a, AV.cells?, Nat.reduceAdd, Nat.reduceMul]
      exact hR _ _ rfl
    | fall s =>
      simp only [Ex.enc]
      simp only [Ex.wt] at hw
      simp only [nd0, Y1n, Y1o, Y1p, Y1q, Y1w, Y1x, Y1y, Y1z, Y20, Y21, Y28, Y2a, AV.cells?, Nat.reduceAdd, Nat.reduceMul, asA, show (13 : Nat) = 11 ↔ False by decide, show (13 : Nat) = 14 ↔ False by decide, show (13 : Nat) = 12 ↔ False by decide, show (13 : Nat) = 13 ↔ True by decide]
      rw [show (AV.val (.string ⟨#[126]⟩)) = S [126] from rfl, binA_cat (by simp; omega)]
      simp only [nd0, Y1n, Y1o, Y1p, Y1q, Y1w, Y1x, Y1y, Y1z, Y20, Y21, Y28, Y2a, AV.cells?, Nat.reduceAdd, Nat.reduceMul]
      exact hR _ _ rfl
    | not x =>
      simp only [Ex.enc]
      simp only [Ex.wt] at hw
      simp only [Ex.wt] at hx
      have hlx := Ex.wr_len x 2
      simp only [nd0, Y1n, Y1o, Y1p, Y1q, Y1w, Y1x, Y1y, Y1z, Y20, Y21, Y28, Y2a, AV.cells?, Nat.reduceAdd, Nat.reduceMul, asA, show (10 : Nat) = 11 ↔ False by decide, show (10 : Nat) = 14 ↔ False by decide, show (10 : Nat) = 12 ↔ False by decide, show (10 : Nat) = 13 ↔ False by decide, show (10 : Nat) = 10 ↔ True by decide]
      refine wNew.L (l := [nilE]) rfl ?_
      simp only [nd0, Y1n, Y1o, Y1p, Y1q, Y1w, Y1x, Y1y, Y1z, Y20, Y21, Y28, Y2a, AV.cells?, Nat.reduceAdd, Nat.reduceMul]
      rw [storeN_L (n := 1) (xs := [x.enc]) rfl (by simp [Ex.enc_scalar])]
      simp only [nd0, Y1n, Y1o, Y1p, Y1q, Y1w, Y1x, Y1y, Y1z, Y20, Y21, Y28, Y2a, AV.cells?, Nat.reduceAdd, Nat.reduceMul, show putL [nilE] 0 [x.enc] = some [x.enc] from rfl]
      refine wCall.fx (ih x (by omega) (by omega) hf 2 (by omega)) fun n2 => ?_
      rw [show (AV.val (.string ⟨#[33]⟩)) = S [33] from rfl, binA_cat (by simp; omega)]
      simp only [nd0, Y1n, Y1o, Y1p, Y1q, Y1w, Y1x, Y1y, Y1z, Y20, Y21, Y28, Y2a, AV.cells?, Nat.reduceAdd, Nat.reduceMul]
      exact hR _ _ rfl
    | and l =>
      simp only [Ex.enc]
      simp only [Ex.wt] at hw
      simp only [Ex.wt] at hx
      simp only [nd0, Y1n, Y1o, Y1p, Y1q, Y1w, Y1x, Y1y, Y1z, Y20, Y21, Y28, Y2a, AV.cells?, Nat.reduceAdd, Nat.reduceMul, asA, show (9 : Nat) = 11 ↔ False by decide, show (9 : Nat) = 14 ↔ False by decide, show (9 : Nat) = 12 ↔ False by decide, show (9 : Nat) = 13 ↔ False by decide, show (9 : Nat) = 10 ↔ False by decide, show (9 : Nat) = 9 ↔ True by decide]
      have hll := Ex.len_wtL hf.2
      have hb : decide ((2 : Int) ≤ (st : Int)) = decide (2 ≤ st) := decide_eq_decide.2 (by omega)
      rw [hb]
      refine wCall.fx (join2_spec B l [32, 38, 32] 2 (decide (2 ≤ st)) (fun x hxm => ?_) (by omega) (by omega) (by simp)) fun n2 => ?_
      · have h1 := Ex.wt_mem hxm
        exact ih x (by omega) (by omega) (Ex.fine_mem hf.2 hxm) 2 (by omega)
      · exact hR _ _ rfl
    | or l =>
      simp only [Ex.enc]
      simp only [Ex.wt] at hw
      simp only [Ex.wt] at hx
      simp only [nd0, Y1n, Y1o, Y1p, Y1q, Y1w, Y1x, Y1y, Y1z, Y20, Y21, Y28, Y2a, AV.cells?, Nat.reduceAdd, Nat.reduceMul, asA, show (8 : Nat) = 11 ↔ False by decide, show (8 : Nat) = 14 ↔ False by decide, show (8 : Nat) = 12 ↔ False by decide, show (8 : Nat) = 13 ↔ False by decide, show (8 : Nat) = 10 ↔ False by decide, show (8 : Nat) = 9 ↔ False by decide, show (8 : Nat) = 8 ↔ True by decide]
      have hll := Ex.len_wtL hf.2
      have hb : decide ((1 : Int) ≤ (st : Int)) = decide (1 ≤ st) := decide_eq_decide.2 (by omega)
      rw [hb]
      refine wCall.fx (join2_spec B l [32, 124, 32] 1 (decide (1 ≤ st)) (fun x hxm => ?_) (by omega) (by omega) (by simp)) fun n2 => ?_
      · have h1 := Ex.wt_mem hxm
        exact ih x (by omega) (by omega) (Ex.fine_mem hf.2 hxm) 1 (by omega)
      · exact hR _ _ rfl
theorem Text_spec (B : WriteBodies E P) (x : Ex) (hw : x.wt ≤ 1000000) (hf : x.fine) : FX E P 127 [x.enc] (S (x.wr 0)) := by
  have hx : FX E P 146 [x.enc, Z 0] (S (x.wr 0)) := write_spec B (x.wt + 1) x (by omega) hw hf 0 (by omega)
  refine FX.of' ⟨Ex.enc_closed x, trivial⟩ trivial fun c R hR => B.text _ _ _ ?_
  unfold F.expr_Text
  have hne : eqA .iface x.enc nilE = some false := by cases x <;> rfl
  simp only [nd0, Y1n, Y1o, Y1p, Y1q, Y1w, Y1x, Y1y, Y1z, Y20, Y21, Y28, Y2a, AV.cells?, Nat.reduceAdd, Nat.reduceMul, hne]
  cases x with
  | k b =>
    refine wInv.fx B.mConst (r := S (Ex.wr 0 (.k b))) (FX.of' ⟨trivial, trivial⟩ trivial fun c R hR => B.tConst _ _ _ ?_) fun n => hR _ _ rfl
    unfold F.expr_Const_Text
    exact wCall.fx hx fun n => hR _ _ rfl
  | bit s =>
    refine wInv.fx B.mBit (r := S (Ex.wr 0 (.bit s))) (FX.of' ⟨trivial, trivial⟩ trivial fun c R hR => B.tBit _ _ _ ?_) fun n => hR _ _ rfl
    unfold F.expr_Bit_Text
    exact wCall.fx hx fun n => hR _ _ rfl
  | rise s =>
    refine wInv.fx B.mRise (r := S (Ex.wr 0 (.rise s))) (FX.of' ⟨trivial, trivial⟩ trivial fun c R hR => B.tRise _ _ _ ?_) fun n => hR _ _ rfl
    unfold F.expr_Rise_Text
    exact wCall.fx hx fun n => hR _ _ rfl
  | fall s =>
    refine wInv.fx B.mFall (r := S (Ex.wr 0 (.fall s))) (FX.of' ⟨trivial, trivial⟩ trivial fun c R hR => B.tFall _ _ _ ?_) fun n => hR _ _ rfl
    unfold F.expr_Fall_Text
    exact wCall.fx hx fun n => hR _ _ rfl
  | not x =>
    refine wInv.fx B.mNot (r := S (Ex.wr 0 (.not x))) (FX.of' ⟨⟨Ex.enc_closed x, trivial⟩, trivial⟩ trivial fun c R hR => B.tNot _ _ _ ?_) fun n => hR _ _ rfl
    unfold F.expr_Not_Text
    refine wNew.F' (l := [x.enc]) rfl ?_
    simp only [nd0, Y1n, Y1o, Y1p, Y1q, Y1w, Y1x, Y1y, Y1z, Y20, Y21, Y28, Y2a, AV.cells?, Nat.reduceAdd, Nat.reduceMul, show subL [x.enc] 0 1 = some [x.enc] from rfl]
    exact wCall.fx hx fun n => hR _ _ rfl
  | and l =>
    refine wInv.fx B.mAnd (r := S (Ex.wr 0 (.and l))) (FX.of' ⟨Ex.encL_closed l, trivial⟩ trivial fun c R hR => B.tAnd _ _ _ ?_) fun n => hR _ _ rfl
    unfold F.expr_And_Text
    exact wCall.fx hx fun n => hR _ _ rfl
  | or l =>
    refine wInv.fx B.mOr (r := S (Ex.wr 0 (.or l))) (FX.of' ⟨Ex.encL_closed l, trivial⟩ trivial fun c R hR => B.tOr _ _ _ ?_) fun n => hR _ _ rfl
    unfold F.expr_Or_Text
    exact wCall.fx hx fun n => hR _ _ rfl
end
end Go.Sc
namespace Go.Sc
open Go
set_option linter.unusedSimpArgs false
set_option linter.unusedVariables false
set_option linter.unnecessarySimpa false

structure RefTextBodies (E : Env) (P : Program) : Prop where
  join : ∀ (l : List Str) (sep : Str), l.length ≤ 10000000 → (joinS sep l).length ≤ 100000000 → FX E P 118 [Lm S l, S sep] (S (joinS sep l))
  text : Body1 E P 128 F.pref_Expr_Text
section
variable {E : Env} {P : Program}
theorem join1 {x : AV} {H : AH} {k : KN 1} (h : k x H) : wJoin 1 (fun J => J x H) k := wJoin.one (fun t H' => t = x ∧ H' = H) (gh1.mk ⟨rfl, rfl⟩) (by rintro _ _ ⟨rfl, rfl⟩; exact h)
theorem Ex.wr0_len (x : Ex) : (x.wr 0).length ≤ x.wt := Ex.wr_len x 0
theorem lit (a : Array UInt8) : (AV.val (.string ⟨a⟩)) = S a.toList := by simp
set_option maxHeartbeats 1000000 in
theorem rows_spec (B : RefTextBodies E P) (l : List Ex) (isA : Bool) (hl : ∀ x ∈ l, FX E P 128 [x.ref] (S (x.wr 0))) (hn : l.length ≤ 1000000) (hw : Ex.wtL l ≤ 10000000) (x : Ex) (hx : x = if isA then .and l else .or l) {c : Nat} {R : Kt} (hR : ∀ y H, y = S (x.wr 0) → R y H) :
    wLoop 2 (fun I3 => I3 (.val (.slice none 0 0)) (.val (.int .i64 0)) ⟨[], c⟩) fun I3 t4 t72 H =>
      wGet (binA .lss t72 (Z l.length)) H fun t73 H =>
      wIf t73 (
        wGet (iaddr 1 (.slN (Ex.refL l) l.length) t72) H fun t74 H =>
        wGet (load1 t74 H) H fun t75 H =>
        wCall E P 128 [t75] H fun t77 H =>
        wJoin 1 (fun J4 =>
          wGet (nilA t75) H fun t79 H =>
          wGet (faddr 0 t79) H fun t80 H =>
          wGet (load1 t80 H) H fun t81 H =>
          wGet (binA .eql t81 (.val (.string ⟨#[124]⟩))) H fun t82 H =>
          wGuard t82 false H (fun k => k t75 H) fun t84 H =>
          wGuard t82 false H (fun k => wGet (nilA t84) H k) fun t85 H =>
          wGuard t82 false H (fun k => wGet (faddr 0 t85) H k) fun t86 H =>
          wGuard t82 false H (fun k => wGet (load1 t86 H) H k) fun t87 H =>
          wGuard t82 false H (fun k => wGet (binA .eql t87 (.val (.string ⟨#[38]⟩))) H k) fun t88 H =>
          wGuard t82 false H (fun k => k t88 H) fun t89 H =>
          wGuard t89 true H (fun k => k x.ref H) fun t90 H =>
          wGuard t89 true H (fun k => wGet (nilA t90) H k) fun t91 H =>
          wGuard t89 true H (fun k => wGet (faddr 0 t91) H k) fun t92 H =>
          wGuard t89 true H (fun k => wGet (load1 t92 H) H k) fun t93 H =>
          wGuard t89 true H (fun k => wGet (binA .eql t93 (.val (.string ⟨#[38]⟩))) H k) fun t94 H =>
          wGuard t82 false H (fun k => wGet (pickA t89 t94 (.val (.bool false))) H k) fun t95 H =>
          wGet (pickA t82 (.val (.bool true)) t95) H fun t96 H =>
          wIf t96 (
            wGet (binA .add (.val (.string ⟨#[40]⟩)) t77) H fun t98 H =>
            wGet (binA .add t98 (.val (.string ⟨#[41]⟩))) H fun t99 H =>
            J4 t99 H) (
            J4 t77 H)) fun t7 H =>
          wNewS 1 1 (fillA (List.replicate 1 [(.val (.string ⟨#[]⟩))]).flatten [(0, 1, t7)]) H fun t102 H =>
          wApp 1 16 t4 t102 H fun t103 H =>
          wGet (binA .add t72 (.val (.int .i64 1))) H fun t104 H =>
          I3 t103 t104 H) (
        wGet (nilA x.ref) H fun t107 H =>
        wGet (faddr 0 t107) H fun t108 H =>
        wGet (load1 t108 H) H fun t109 H =>
        wGet (binA .add (.val (.string ⟨#[32]⟩)) t109) H fun t110 H =>
        wGet (binA .add t110 (.val (.string ⟨#[32]⟩))) H fun t111 H =>
        wCall E P 118 [t4, t111] H fun t112 H =>
        R t112 H) := by
  have hxr : x.ref = .ptrF [S (if isA then [38] else [124]), S [], .slN (Ex.refL l) l.length] 0 := by subst hx; cases isA <;> rfl
  rw [hxr]
  let st : Nat := if isA then 2 else 1
  have hwr : x.wr 0 = joinS [32, (if isA then 38 else 124), 32] (Ex.wrL st l) := by subst hx; cases isA <;> simp [Ex.wr, around, st]
  have hlen : (joinS [32, (if isA then 38 else 124), 32] (Ex.wrL st l)).length ≤ 20000000 := by
    have h1 := joinS_len [32, (if isA then 38 else 124), 32] (Ex.wrL st l)
    have h2 := Ex.wrL_len l st
    have h3 : (Ex.wrL st l).length = l.length := by rw [Ex.wrL_map, List.length_map]
    simp only [List.length_cons, List.length_nil, h3] at h1
    omega
  have hone : ∀ y : Ex, y.wr st = around (y.isOr || (y.isAnd && isA)) (y.wr 0) := fun y => by
    cases isA
    · simp [st, Ex.wr_one]
    · simp [st, Ex.wr_two, Bool.or_comm]
  refine wLoop.two (fun m t i H => ∃ pre rest z c, l = pre ++ rest ∧ m = rest.length ∧ i = Z pre.length ∧ Gr 1 z 0 t ((Ex.wrL st pre).map fun s => S s) pre.length ∧ H = ⟨[z], c⟩) l.length
    (gh2.of (ghost_room [.dead] (by simp)) ⟨[], l, .dead, c, rfl, rfl, rfl, .nil, rfl⟩) ?_
  rintro m t i H ⟨pre, rest, z, c, rfl, rfl, rfl, hg, rfl⟩
  cases rest with
  | cons y rest =>
    simp only [nd0, Y1n, Y1o, Y1p, Y1q, Y1w, Y1x, Y1y, Y1z, Y20, Y21, Y28, Y2a, AV.cells?, Nat.reduceAdd, Nat.reduceMul, decide_eq_true (show ((pre.length : Nat) : Int) < (((pre ++ y :: rest).length : Nat) : Int) by simp; omega)]
    rw [iaddr_Nn (by simp)]
    simp only [nd0, Y1n, Y1o, Y1p, Y1q, Y1w, Y1x, Y1y, Y1z, Y20, Y21, Y28, Y2a, AV.cells?, Nat.reduceAdd, Nat.reduceMul, show (Ex.refL (pre ++ y :: rest))[pre.length]? = some y.ref by rw [Ex.refL_map]; simp]
    refine wCall.fx (hl y (by simp)) fun n2 => ?_
    have hly := Ex.wr0_len y
    have hwy : y.wt ≤ 10000000 := Nat.le_trans (Ex.wt_mem (by simp)) hw
    refine wJoin.one (fun t H => t = S (y.wr st) ∧ ∃ n, H = ⟨[z], n⟩) ?_ ?_
    · rw [Ex.ref_eq y, hone]
      have finT : ∀ b n, b = true →
            wGet (binA .add (.val (.string ⟨#[40]⟩)) (S (y.wr 0))) ⟨[z], n⟩ fun t98 H =>
            wGet (binA .add t98 (.val (.string ⟨#[41]⟩))) H fun t99 H =>
            gh1 (fun t H => t = S (around b (y.wr 0)) ∧ ∃ n, H = ⟨[z], n⟩) t99 H := fun b n hb => by
        subst hb
        rw [show (AV.val (.string ⟨#[40]⟩)) = S [40] from rfl, binA_cat (by simp; omega)]
        refine wGet_some.2 ?_
        rw [show (AV.val (.string ⟨#[41]⟩)) = S [41] from rfl, binA_cat (by simp; omega)]
        refine wGet_some.2 ?_
        exact gh1.mk ⟨rfl, n, rfl⟩
      have finF : ∀ b n, b = false → gh1 (fun t H => t = S (around b (y.wr 0)) ∧ ∃ n, H = ⟨[z], n⟩) (S (y.wr 0)) ⟨[z], n⟩ := fun b n hb => by
        subst hb; exact gh1.mk ⟨rfl, n, rfl⟩
      have h1 : decide (y.kind = [124]) = y.isOr := by rw [Bool.eq_iff_iff, decide_eq_true_iff]; exact Ex.kind_or y
      have h2 : decide (y.kind = [38]) = y.isAnd := by rw [Bool.eq_iff_iff, decide_eq_true_iff]; exact Ex.kind_and y
      cases ho : y.isOr with
      | true =>
        rw [ho] at h1
        simp only [nd0, Y1n, Y1o, Y1p, Y1q, Y1w, Y1x, Y1y, Y1z, Y20, Y21, Y28, Y2a, AV.cells?, Nat.reduceAdd, Nat.reduceMul, show (AV.val (.string ⟨#[124]⟩)) = S [124] from rfl, show (AV.val (.string ⟨#[38]⟩)) = S [38] from rfl, h1]
        exact finT _ n2 (by simp)
      | false =>
        rw [ho] at h1
        cases ha : y.isAnd with
        | false =>
          rw [ha] at h2
          simp only [nd0, Y1n, Y1o, Y1p, Y1q, Y1w, Y1x, Y1y, Y1z, Y20, Y21, Y28, Y2a, AV.cells?, Nat.reduceAdd, Nat.reduceMul, show (AV.val (.string ⟨#[124]⟩)) = S [124] from rfl, show (AV.val (.string ⟨#[38]⟩)) = S [38] from rfl, h1, h2]
          exact finF _ n2 (by simp)
        | true =>
          rw [ha] at h2
          cases isA with
          | true =>
            simp only [nd0, Y1n, Y1o, Y1p, Y1q, Y1w, Y1x, Y1y, Y1z, Y20, Y21, Y28, Y2a, AV.cells?, Nat.reduceAdd, Nat.reduceMul, show (AV.val (.string ⟨#[124]⟩)) = S [124] from rfl, show (AV.val (.string ⟨#[38]⟩)) = S [38] from rfl, h1, h2]
            exact finT _ n2 (by simp)
          | false =>
            simp only [nd0, Y1n, Y1o, Y1p, Y1q, Y1w, Y1x, Y1y, Y1z, Y20, Y21, Y28, Y2a, AV.cells?, Nat.reduceAdd, Nat.reduceMul, show (AV.val (.string ⟨#[124]⟩)) = S [124] from rfl, show (AV.val (.string ⟨#[38]⟩)) = S [38] from rfl, h1, h2, show decide (([124] : Str) = [38]) = false from rfl]
            exact finF _ n2 (by simp)
    · rintro t H ⟨rfl, n, rfl⟩
      refine wNewS.F' (l := [S (y.wr st)]) rfl rfl ?_
      refine wApp.one hg rfl (by rw [Ex.wrL_map]; simp) (.refl _) rfl (by simp [mostBytes] at hn ⊢; omega) ?_
      intro z' x' c2 hg'
      rw [binA_succ (by simp at hn; omega)]
      simp only [nd0, Y1n, Y1o, Y1p, Y1q, Y1w, Y1x, Y1y, Y1z, Y20, Y21, Y28, Y2a, AV.cells?, Nat.reduceAdd, Nat.reduceMul]
      refine back2.mk rest.length (by simp) ⟨pre ++ [y], rest, z', c2, by simp, rfl, by simp, ?_, rfl⟩
      rw [Ex.wrL_map] at hg' ⊢
      simpa using hg'
  | nil =>
    rw [List.append_nil] at hn hw hwr hlen ⊢
    simp only [nd0, Y1n, Y1o, Y1p, Y1q, Y1w, Y1x, Y1y, Y1z, Y20, Y21, Y28, Y2a, AV.cells?, Nat.reduceAdd, Nat.reduceMul, Int.lt_irrefl]
    have hsub : SubL [t, S [32, (if isA then 38 else 124), 32]] [Lm S (Ex.wrL st pre), S [32, (if isA then 38 else 124), 32]] := .cons (by
      have := hg.sub
      rw [Lm_S]
      have e : (Ex.wrL st pre).length = pre.length := by rw [Ex.wrL_map, List.length_map]
      rw [e]; exact this) (.refl _)
    have hn2 : (Ex.wrL st pre).length ≤ 10000000 := by rw [Ex.wrL_map, List.length_map]; omega
    have hsg : ∀ n, wCall E P 118 [t, S [32, (if isA then 38 else 124), 32]] ⟨[z], n⟩ fun t112 H => R t112 H := fun n =>
      wCall.fxs (B.join (Ex.wrL st pre) _ hn2 (by omega)) hsub fun n2 => hR _ _ (by rw [hwr])
    cases isA with
    | true =>
      rw [show (AV.val (.string ⟨#[32]⟩)) = S [32] from rfl, binA_cat (by decide)]
      simp only [nd0, Y1n, Y1o, Y1p, Y1q, Y1w, Y1x, Y1y, Y1z, Y20, Y21, Y28, Y2a, AV.cells?, Nat.reduceAdd, Nat.reduceMul]
      rw [binA_cat (by decide)]
      simp only [nd0, Y1n, Y1o, Y1p, Y1q, Y1w, Y1x, Y1y, Y1z, Y20, Y21, Y28, Y2a, AV.cells?, Nat.reduceAdd, Nat.reduceMul]
      exact hsg c
    | false =>
      rw [show (AV.val (.string ⟨#[32]⟩)) = S [32] from rfl, binA_cat (by decide)]
      simp only [nd0, Y1n, Y1o, Y1p, Y1q, Y1w, Y1x, Y1y, Y1z, Y20, Y21, Y28, Y2a, AV.cells?, Nat.reduceAdd, Nat.reduceMul]
      rw [binA_cat (by decide)]
      simp only [nd0, Y1n, Y1o, Y1p, Y1q, Y1w, Y1x, Y1y, Y1z, Y20, Y21, Y28, Y2a, AV.cells?, Nat.reduceAdd, Nat.reduceMul]
      exact hsg c
set_option maxHeartbeats 1000000 in
theorem refText_spec (B : RefTextBodies E P) : ∀ (n : Nat) (x : Ex), x.wt < n → x.wt ≤ 1000000 → x.fine → FX E P 128 [x.ref] (S (x.wr 0)) := by
  intro n
  induction n with
  | zero => intro x hx; omega
  | succ n ih =>
    intro x hx hw hf
    refine FX.of' ⟨Ex.ref_closed x, trivial⟩ trivial fun c R hR => B.text _ _ _ ?_
    unfold F.pref_Expr_Text
    have d1 : decide (([94] : Str) = [98, 105, 116]) = false := rfl
    have d2 : decide (([126] : Str) = [98, 105, 116]) = false := rfl
    have d3 : decide (([126] : Str) = [94]) = false := rfl
    have d4 : decide (([33] : Str) = [98, 105, 116]) = false := rfl
    have d5 : decide (([33] : Str) = [94]) = false := rfl
    have d6 : decide (([33] : Str) = [126]) = false := rfl
    have d7 : decide (([38] : Str) = [98, 105, 116]) = false := rfl
    have d8 : decide (([38] : Str) = [94]) = false := rfl
    have d9 : decide (([38] : Str) = [126]) = false := rfl
    have da : decide (([38] : Str) = [33]) = false := rfl
    have db : decide (([124] : Str) = [98, 105, 116]) = false := rfl
    have dc : decide (([124] : Str) = [94]) = false := rfl
    have dd : decide (([124] : Str) = [126]) = false := rfl
    have de : decide (([124] : Str) = [33]) = false := rfl
    have df : decide (([124] : Str) = [38]) = false := rfl
    cases x with
    | bit s =>
      simp only [Ex.ref]
      simp only [nd0, Y1n, Y1o, Y1p, Y1q, Y1w, Y1x, Y1y, Y1z, Y20, Y21, Y28, Y2a, AV.cells?, Nat.reduceAdd, Nat.reduceMul]
      exact hR _ _ rfl
    | rise s =>
      simp only [Ex.wt] at hw
      simp only [Ex.ref]
      simp only [nd0, Y1n, Y1o, Y1p, Y1q, Y1w, Y1x, Y1y, Y1z, Y20, Y21, Y28, Y2a, AV.cells?, Nat.reduceAdd, Nat.reduceMul, d1]
      refine join1 ?_
      simp only [nd0, Y1n, Y1o, Y1p, Y1q, Y1w, Y1x, Y1y, Y1z, Y20, Y21, Y28, Y2a, AV.cells?, Nat.reduceAdd, Nat.reduceMul]
      rw [binA_cat (by simp; omega)]
      simp only [nd0, Y1n, Y1o, Y1p, Y1q, Y1w, Y1x, Y1y, Y1z, Y20, Y21, Y28, Y2a, AV.cells?, Nat.reduceAdd, Nat.reduceMul]
      exact hR _ _ rfl
    | fall s =>
      simp only [Ex.wt] at hw
      simp only [Ex.ref]
      simp only [nd0, Y1n, Y1o, Y1p, Y1q, Y1w, Y1x, Y1y, Y1z, Y20, Y21, Y28, Y2a, AV.cells?, Nat.reduceAdd, Nat.reduceMul, d2, d3]
      refine join1 ?_
      simp only [nd0, Y1n, Y1o, Y1p, Y1q, Y1w, Y1x, Y1y, Y1z, Y20, Y21, Y28, Y2a, AV.cells?, Nat.reduceAdd, Nat.reduceMul]
      rw [binA_cat (by simp; omega)]
      simp only [nd0, Y1n, Y1o, Y1p, Y1q, Y1w, Y1x, Y1y, Y1z, Y20, Y21, Y28, Y2a, AV.cells?, Nat.reduceAdd, Nat.reduceMul]
      exact hR _ _ rfl
    | k b =>
      simp only [Ex.ref]
      have e0 : ∀ t : Str, t ≠ [49] → t ≠ [48] → decide ((if b = true then [49] else [48] : Str) = t) = false := fun t h1 h2 => by
        cases b
        · simpa using Ne.symm h2
        · simpa using Ne.symm h1
      simp only [nd0, Y1n, Y1o, Y1p, Y1q, Y1w, Y1x, Y1y, Y1z, Y20, Y21, Y28, Y2a, AV.cells?, Nat.reduceAdd, Nat.reduceMul, e0 [98, 105, 116] (by decide) (by decide), e0 [94] (by decide) (by decide), e0 [126] (by decide) (by decide)]
      refine join1 ?_
      simp only [nd0, Y1n, Y1o, Y1p, Y1q, Y1w, Y1x, Y1y, Y1z, Y20, Y21, Y28, Y2a, AV.cells?, Nat.reduceAdd, Nat.reduceMul, e0 [33] (by decide) (by decide), e0 [38] (by decide) (by decide), e0 [124] (by decide) (by decide)]
      refine join1 ?_
      simp only [nd0, Y1n, Y1o, Y1p, Y1q, Y1w, Y1x, Y1y, Y1z, Y20, Y21, Y28, Y2a, AV.cells?, Nat.reduceAdd, Nat.reduceMul]
      exact hR _ _ rfl
    | not y =>
      simp only [Ex.wt] at hw hx
      simp only [Ex.ref]
      have ihy := ih y (by omega) (by omega) hf
      have hly := Ex.wr0_len y
      have h1 : decide (y.kind = [124]) = y.isOr := by rw [Bool.eq_iff_iff, decide_eq_true_iff]; exact Ex.kind_or y
      have h2 : decide (y.kind = [38]) = y.isAnd := by rw [Bool.eq_iff_iff, decide_eq_true_iff]; exact Ex.kind_and y
      have hwr : (Ex.not y).wr 0 = 33 :: around (y.isAnd || y.isOr) (y.wr 0) := by simp only [Ex.wr]; rw [Ex.wr_two]
      rw [hwr] at hR
      simp only [nd0, Y1n, Y1o, Y1p, Y1q, Y1w, Y1x, Y1y, Y1z, Y20, Y21, Y28, Y2a, AV.cells?, Nat.reduceAdd, Nat.reduceMul, d4, d5, d6]
      refine join1 ?_
      have i0 : ∀ k : IntKind, iaddr 1 (.slN [y.ref] 1) (.val (.int k 0)) = some (.ptrF [y.ref] 0) := fun k => rfl
      have ld : ∀ H, load1 y.ref H = some (S y.kind) := fun H => by rw [Ex.ref_eq]; rfl
      have hni : nilA y.ref = some y.ref := by rw [Ex.ref_eq]; rfl
      have hfa : faddr 0 y.ref = some y.ref := by rw [Ex.ref_eq]; rfl
      have par : ∀ b : Bool, b = true → ∀ n (H : AH), H = ⟨[], n⟩ → (y.isAnd || y.isOr) = b → wCall E P 128 [y.ref] H fun t53 H =>
            wGet (binA .add (.val (.string ⟨#[33, 40]⟩)) t53) H fun t54 H =>
            wGet (binA .add t54 (.val (.string ⟨#[41]⟩))) H fun t55 H =>
            R t55 H := fun b hb n H hH he => by
        subst hH hb
        rw [he] at hR
        refine wCall.fx ihy fun n2 => ?_
        rw [show (AV.val (.string ⟨#[33, 40]⟩)) = S [33, 40] from rfl, binA_cat (by simp; omega)]
        refine wGet_some.2 ?_
        rw [show (AV.val (.string ⟨#[41]⟩)) = S [41] from rfl, binA_cat (by simp; omega)]
        refine wGet_some.2 ?_
        exact hR _ _ rfl
      cases ha : y.isAnd with
      | true =>
        rw [ha] at h2
        simp only [nd0, Y1n, Y1o, Y1p, Y1q, Y1w, Y1x, Y1y, Y1z, Y20, Y21, Y28, Y2a, AV.cells?, Nat.reduceAdd, Nat.reduceMul, i0, hni, hfa, ld, h2, show (AV.val (.string ⟨#[38]⟩)) = S [38] from rfl]
        exact par true rfl _ _ rfl (by rw [ha]; rfl)
      | false =>
        rw [ha] at h2
        cases ho : y.isOr with
        | true =>
          rw [ho] at h1
          simp only [nd0, Y1n, Y1o, Y1p, Y1q, Y1w, Y1x, Y1y, Y1z, Y20, Y21, Y28, Y2a, AV.cells?, Nat.reduceAdd, Nat.reduceMul, i0, hni, hfa, ld, h2, h1, show (AV.val (.string ⟨#[38]⟩)) = S [38] from rfl, show (AV.val (.string ⟨#[124]⟩)) = S [124] from rfl]
          exact par true rfl _ _ rfl (by rw [ha, ho]; rfl)
        | false =>
          rw [ho] at h1
          rw [ha, ho] at hR
          simp only [nd0, Y1n, Y1o, Y1p, Y1q, Y1w, Y1x, Y1y, Y1z, Y20, Y21, Y28, Y2a, AV.cells?, Nat.reduceAdd, Nat.reduceMul, i0, hni, hfa, ld, h2, h1, show (AV.val (.string ⟨#[38]⟩)) = S [38] from rfl, show (AV.val (.string ⟨#[124]⟩)) = S [124] from rfl]
          refine wCall.fx ihy fun n2 => ?_
          rw [show (AV.val (.string ⟨#[33]⟩)) = S [33] from rfl, binA_cat (by simp; omega)]
          simp only [nd0, Y1n, Y1o, Y1p, Y1q, Y1w, Y1x, Y1y, Y1z, Y20, Y21, Y28, Y2a, AV.cells?, Nat.reduceAdd, Nat.reduceMul]
          exact hR _ _ rfl
    | and l =>
      simp only [Ex.wt] at hw hx
      simp only [Ex.ref]
      simp only [nd0, Y1n, Y1o, Y1p, Y1q, Y1w, Y1x, Y1y, Y1z, Y20, Y21, Y28, Y2a, AV.cells?, Nat.reduceAdd, Nat.reduceMul, d7, d8, d9]
      refine join1 ?_
      simp only [nd0, Y1n, Y1o, Y1p, Y1q, Y1w, Y1x, Y1y, Y1z, Y20, Y21, Y28, Y2a, AV.cells?, Nat.reduceAdd, Nat.reduceMul, da]
      refine join1 ?_
      simp only [nd0, Y1n, Y1o, Y1p, Y1q, Y1w, Y1x, Y1y, Y1z, Y20, Y21, Y28, Y2a, AV.cells?, Nat.reduceAdd, Nat.reduceMul]
      have hll := Ex.len_wtL hf.2
      have hrs := rows_spec B l true (fun y hy => by have := Ex.wt_mem hy; exact ih y (by omega) (by omega) (Ex.fine_mem hf.2 hy)) (by omega) (by omega) (.and l) rfl (c := c) hR
      simp only [Ex.ref] at hrs
      simp only [nd0, Y1n, Y1o, Y1p, Y1q, Y1w, Y1x, Y1y, Y1z, Y20, Y21, Y28, Y2a, AV.cells?, Nat.reduceAdd, Nat.reduceMul, d7, d8, d9, da] at hrs
      exact hrs
    | or l =>
      simp only [Ex.wt] at hw hx
      simp only [Ex.ref]
      simp only [nd0, Y1n, Y1o, Y1p, Y1q, Y1w, Y1x, Y1y, Y1z, Y20, Y21, Y28, Y2a, AV.cells?, Nat.reduceAdd, Nat.reduceMul, db, dc, dd]
      refine join1 ?_
      simp only [nd0, Y1n, Y1o, Y1p, Y1q, Y1w, Y1x, Y1y, Y1z, Y20, Y21, Y28, Y2a, AV.cells?, Nat.reduceAdd, Nat.reduceMul, de, df]
      refine join1 ?_
      simp only [nd0, Y1n, Y1o, Y1p, Y1q, Y1w, Y1x, Y1y, Y1z, Y20, Y21, Y28, Y2a, AV.cells?, Nat.reduceAdd, Nat.reduceMul]
      have hll := Ex.len_wtL hf.2
      have hrs := rows_spec B l false (fun y hy => by have := Ex.wt_mem hy; exact ih y (by omega) (by omega) (Ex.fine_mem hf.2 hy)) (by omega) (by omega) (.or l) rfl (c := c) hR
      simp only [Ex.ref] at hrs
      simp only [nd0, Y1n, Y1o, Y1p, Y1q, Y1w, Y1x, Y1y, Y1z, Y20, Y21, Y28, Y2a, AV.cells?, Nat.reduceAdd, Nat.reduceMul, db, dc, dd, de, df] at hrs
      exact hrs
end
end Go.Sc
namespace Go.Sc.F
open Go Go.Sc
set_option linter.unusedVariables false

/-- signalbox/signalboxkeep.BlockMoore -/
def keep_BlockMoore (E : Env) (P : Program) (a0 a1 a2 a3 : AV) (H : AH) (R : Kt) : Prop :=
  wNew 2 (AV.cells? a0) H fun t4 H =>
  wGet (loadN 2 t4 H) H fun t26 H =>
  wCall E P 45 [t26, (.val (.int .i64 60))] H fun t27 H =>
  wGet (unA .not t27) H fun t28 H =>
  wGuard t28 false H (fun k => k a3 H) fun t30 H =>
  wGuard t28 false H (fun k => wGet (lenA t30) H k) fun t31 H =>
  wGuard t28 false H (fun k => wGet (binA .gtr t31 (.val (.int .i64 40))) H k) fun t32 H =>
  wGet (pickA t28 (.val (.bool true)) t32) H fun t33 H =>
  wIf t33 (
    R (.val (.bool true)) H) (
    wGet (loadN 2 t4 H) H fun t35 H =>
    wCall E P 46 [t35] H fun t36 H =>
    wGet (extractA t36 0) H fun t37 H =>
    wGet (extractA t36 1) H fun t38 H =>
    wCall E P 47 [] H fun t39 H =>
    wGet (unA .not t39) H fun t40 H =>
    wGuard t40 false H (fun k => k t38 H) fun t42 H =>
    wGuard t40 false H (fun k => wBool (eqA .iface t42 (.val (.nilIface))) H true k) fun t43 H =>
    wGet (pickA t40 (.val (.bool true)) t43) H fun t44 H =>
    wIf t44 (
      wCall E P 47 [] H fun t45 H =>
      wGuard t45 true H (fun k => k t37 H) fun t47 H =>
      wGuard t45 true H (fun k => wGet (lenA t47) H k) fun t48 H =>
      wGuard t45 true H (fun k => wGet (binA .eql t48 (.val (.int .i64 0))) H k) fun t49 H =>
      wGet (pickA t45 t49 (.val (.bool false))) H fun t50 H =>
      R t50 H) (
      wGet (faddr 0 t4) H fun t51 H =>
      wGet (load1 t51 H) H fun t52 H =>
      wGet (lenA t52) H fun t53 H =>
      wGet (faddr 0 t4) H fun t54 H =>
      wGet (load1 t54 H) H fun t55 H =>
      wGet (iaddr 1 t55 (.val (.int .i64 0))) H fun t56 H =>
      wGet (load1 t56 H) H fun t57 H =>
      wGet (lenA t57) H fun t58 H =>
      (wGet (load1 t54 H) H (fun y H2 => y = t55 ∧ H2 = H)) ∧
      (wGet (load1 t56 H) H (fun y H2 => y = t57 ∧ H2 = H)) ∧
      wCall E P 48 [a1, t53] H fun t61 H =>
      wCall E P 48 [a2, t53] H fun t64 H =>
      wGet (loadN 2 t4 H) H fun t66 H =>
      wCall E P 49 [t66] H fun t67 H =>
      wGet (extractA t67 0) H fun t68 H =>
      wGet (extractA t67 1) H fun t69 H =>
      wNew 2 (some [(.val (.slice none 0 0)), (.val (.slice none 0 0))]) H fun t13 H =>
      wPut (storeN 2 t13 t68 H) fun _u H =>
      wBool (eqA .iface t69 (.val (.nilIface))) H true fun t71 H =>
      wGuard t71 false H (fun k => k t37 H) fun t73 H =>
      wGuard t71 false H (fun k => wGet (lenA t73) H k) fun t74 H =>
      wGuard t71 false H (fun k => k t53 H) fun t75 H =>
      wGuard t71 false H (fun k => wGet (binA .neq t74 t75) H k) fun t76 H =>
      wGet (pickA t71 (.val (.bool true)) t76) H fun t77 H =>
      wIf t77 (
        R (.val (.bool false)) H) (
        wLoop 2 (fun I1 => I1 (.val (.slice none 0 0)) (.val (.int .i64 0)) H) fun I1 t14 t15 H =>
          wGet (lenA a3) H fun t80 H =>
          wGet (binA .lss t15 t80) H fun t81 H =>
          wGuard t81 true H (fun k => k t58 H) fun t83 H =>
          wGuard t81 true H (fun k => wGet (binA .gtr t83 (.val (.int .i64 0))) H k) fun t84 H =>
          wGet (pickA t81 t84 (.val (.bool false))) H fun t85 H =>
          wIf t85 (
            wGet (iaddr 1 a3 t15) H fun t91 H =>
            wGet (load1 t91 H) H fun t92 H =>
            wCall E P 48 [t92, t58] H fun t94 H =>
            wNewS 1 1 (fillA (List.replicate 1 [(.val (.int .i64 0))]).flatten [(0, 1, t94)]) H fun t95 H =>
            wApp 1 8 t14 t95 H fun t96 H =>
            wGet (binA .add t15 (.val (.int .i64 1))) H fun t87 H =>
            I1 t96 t87 H) (
            wGet (loadN 2 t4 H) H fun t98 H =>
            wCall E P 50 [t98, t61, t14] H fun t101 H =>
            wGet (extractA t101 0) H fun t102 H =>
            wGet (extractA t101 1) H fun t103 H =>
            wGet (loadN 2 t4 H) H fun t105 H =>
            wCall E P 50 [t105, t64, t14] H fun t108 H =>
            wGet (extractA t108 0) H fun t109 H =>
            wGet (extractA t108 1) H fun t110 H =>
            wGet (loadN 2 t13 H) H fun t112 H =>
            wGet (iaddr 1 t37 t61) H fun t115 H =>
            wGet (load1 t115 H) H fun t116 H =>
            wCall E P 50 [t112, t116, t14] H fun t118 H =>
            wGet (extractA t118 0) H fun t119 H =>
            wGet (extractA t118 1) H fun t120 H =>
            wBool (eqA .iface t103 (.val (.nilIface))) H true fun t122 H =>
            wGuard t122 false H (fun k => k t110 H) fun t124 H =>
            wGuard t122 false H (fun k => wBool (eqA .iface t124 (.val (.nilIface))) H true k) fun t125 H =>
            wGet (pickA t122 (.val (.bool true)) t125) H fun t126 H =>
            wGuard t126 false H (fun k => k t120 H) fun t128 H =>
            wGuard t126 false H (fun k => wBool (eqA .iface t128 (.val (.nilIface))) H true k) fun t129 H =>
            wGet (pickA t126 (.val (.bool true)) t129) H fun t130 H =>
            wGuard t130 false H (fun k => k t102 H) fun t132 H =>
            wGuard t130 false H (fun k => k t119 H) fun t133 H =>
            wGuard t130 false H (fun k => wCall E P 51 [t132, t133] H k) fun t134 H =>
            wGuard t130 false H (fun k => wGet (unA .not t134) H k) fun t135 H =>
            wGet (pickA t130 (.val (.bool true)) t135) H fun t136 H =>
            wIf t136 (
              R (.val (.bool false)) H) (
              wGet (loadN 2 t4 H) H fun t138 H =>
              wCall E P 52 [t138, t61, t64] H fun t141 H =>
              wGet (extractA t141 0) H fun t142 H =>
              wGet (extractA t141 1) H fun t143 H =>
              wGet (iaddr 1 t37 t61) H fun t146 H =>
              wGet (load1 t146 H) H fun t147 H =>
              wGet (iaddr 1 t37 t64) H fun t150 H =>
              wGet (load1 t150 H) H fun t151 H =>
              wGet (binA .eql t147 t151) H fun t152 H =>
              wIf t152 (
                wCall E P 51 [t102, t109] H fun t155 H =>
                wGuard t155 true H (fun k => k t143 H) fun t157 H =>
                wGuard t155 true H (fun k => wCall E P 53 [t157] H k) fun t158 H =>
                wGuard t155 true H (fun k => wGet (binA .eql t158 (.val (.int .i64 8))) H k) fun t159 H =>
                wGet (pickA t155 t159 (.val (.bool false))) H fun t160 H =>
                R t160 H) (
                wGet (loadN 2 t4 H) H fun t162 H =>
                wCall E P 50 [t162, t61, t142] H fun t165 H =>
                wGet (extractA t165 0) H fun t166 H =>
                wGet (extractA t165 1) H fun t167 H =>
                wGet (loadN 2 t4 H) H fun t169 H =>
                wCall E P 50 [t169, t64, t142] H fun t172 H =>
                wGet (extractA t172 0) H fun t173 H =>
                wGet (extractA t172 1) H fun t174 H =>
                wBool (eqA .iface t143 (.val (.nilIface))) H true fun t176 H =>
                wGuard t176 false H (fun k => k t167 H) fun t178 H =>
                wGuard t176 false H (fun k => wBool (eqA .iface t178 (.val (.nilIface))) H true k) fun t179 H =>
                wGet (pickA t176 (.val (.bool true)) t179) H fun t180 H =>
                wGuard t180 false H (fun k => k t174 H) fun t182 H =>
                wGuard t180 false H (fun k => wBool (eqA .iface t182 (.val (.nilIface))) H true k) fun t183 H =>
                wGet (pickA t180 (.val (.bool true)) t183) H fun t184 H =>
                wGuard t184 false H (fun k => k t166 H) fun t186 H =>
                wGuard t184 false H (fun k => wGet (lenA t186) H k) fun t187 H =>
                wGuard t184 false H (fun k => k t142 H) fun t188 H =>
                wGuard t184 false H (fun k => wGet (lenA t188) H k) fun t189 H =>
                wGuard t184 false H (fun k => wGet (binA .neq t187 t189) H k) fun t190 H =>
                wGet (pickA t184 (.val (.bool true)) t190) H fun t191 H =>
                wGuard t191 false H (fun k => k t173 H) fun t193 H =>
                wGuard t191 false H (fun k => wGet (lenA t193) H k) fun t194 H =>
                wGuard t191 false H (fun k => k t142 H) fun t195 H =>
                wGuard t191 false H (fun k => wGet (lenA t195) H k) fun t196 H =>
                wGuard t191 false H (fun k => wGet (binA .neq t194 t196) H k) fun t197 H =>
                wGet (pickA t191 (.val (.bool true)) t197) H fun t198 H =>
                wGuard t198 false H (fun k => k t142 H) fun t200 H =>
                wGuard t198 false H (fun k => wGet (lenA t200) H k) fun t201 H =>
                wGuard t198 false H (fun k => wGet (binA .eql t201 (.val (.int .i64 0))) H k) fun t202 H =>
                wGet (pickA t198 (.val (.bool true)) t202) H fun t203 H =>
                wIf t203 (
                  R (.val (.bool false)) H) (
                  wGet (lenA t142) H fun t205 H =>
                  wGet (binA .sub t205 (.val (.int .i64 1))) H fun t206 H =>
                  wGet (iaddr 1 t166 t206) H fun t209 H =>
                  wGet (load1 t209 H) H fun t210 H =>
                  wGet (iaddr 1 t173 t206) H fun t213 H =>
                  wGet (load1 t213 H) H fun t214 H =>
                  wGet (binA .neq t210 t214) H fun t215 H =>
                  wGuard t215 true H (fun k => k t166 H) fun t217 H =>
                  wGuard t215 true H (fun k => k t206 H) fun t218 H =>
                  wGuard t215 true H (fun k => wGet (sliceA 1 t217 none (some t218) H) H k) fun t219 H =>
                  wGuard t215 true H (fun k => k t173 H) fun t220 H =>
                  wGuard t215 true H (fun k => k t206 H) fun t221 H =>
                  wGuard t215 true H (fun k => wGet (sliceA 1 t220 none (some t221) H) H k) fun t222 H =>
                  wGuard t215 true H (fun k => wCall E P 51 [t219, t222] H k) fun t223 H =>
                  wGet (pickA t215 t223 (.val (.bool false))) H fun t224 H =>
                  R t224 H)))))))

/-- signalbox/signalboxkeep.few -/
def keep_few (E : Env) (P : Program) (a0 a1 : AV) (H : AH) (R : Kt) : Prop :=
  wNew 2 (AV.cells? a0) H fun t2 H =>
  wGet (faddr 0 t2) H fun t5 H =>
  wGet (load1 t5 H) H fun t6 H =>
  wGet (lenA t6) H fun t7 H =>
  wGet (binA .leq t7 a1) H fun t9 H =>
  wGuard t9 true H (fun k => wGet (faddr 1 t2) H k) fun t11 H =>
  wGuard t9 true H (fun k => wGet (load1 t11 H) H k) fun t12 H =>
  wGuard t9 true H (fun k => wGet (lenA t12) H k) fun t13 H =>
  wGuard t9 true H (fun k => wGet (binA .leq t13 (.val (.int .i64 500))) H k) fun t14 H =>
  wGet (pickA t9 t14 (.val (.bool false))) H fun t15 H =>
  wGuard t15 true H (fun k => wGet (faddr 0 t2) H k) fun t17 H =>
  wGuard t15 true H (fun k => wGet (load1 t17 H) H k) fun t18 H =>
  wGuard t15 true H (fun k => wGet (lenA t18) H k) fun t19 H =>
  wGuard t15 true H (fun k => wGet (binA .eql t19 (.val (.int .i64 0))) H k) fun t20 H =>
  wGuard t15 true H (fun k => k t20 H) fun t21 H =>
  wGuard t21 false H (fun k => wGet (faddr 0 t2) H k) fun t22 H =>
  wGuard t21 false H (fun k => wGet (load1 t22 H) H k) fun t23 H =>
  wGuard t21 false H (fun k => wGet (iaddr 1 t23 (.val (.int .i64 0))) H k) fun t24 H =>
  wGuard t21 false H (fun k => wGet (load1 t24 H) H k) fun t25 H =>
  wGuard t21 false H (fun k => wGet (lenA t25) H k) fun t26 H =>
  wGuard t21 false H (fun k => wGet (binA .leq t26 (.val (.int .i64 16))) H k) fun t27 H =>
  wGuard t15 true H (fun k => wGet (pickA t21 (.val (.bool true)) t27) H k) fun t28 H =>
  wGet (pickA t15 t28 (.val (.bool false))) H fun t29 H =>
  R t29 H

/-- signalbox/block.Blocks -/
def block_Blocks (E : Env) (P : Program) (a0 : AV) (H : AH) (R : Kt) : Prop :=
  wNew 2 (AV.cells? a0) H fun t1 H =>
  wGet (loadN 2 t1 H) H fun t6 H =>
  wCall E P 55 [t6] H fun t7 H =>
  wBool (eqA .iface t7 (.val (.nilIface))) H true fun t9 H =>
  wIf t9 (
    R (.tup [(.val (.slice none 0 0)), t7]) H) (
    wGet (loadN 2 t1 H) H fun t11 H =>
    wCall E P 56 [t11] H fun t12 H =>
    wGet (lenA t12) H fun t15 H =>
    wGet (binA .sub t15 (.val (.int .i64 1))) H fun t16 H =>
    wGet (iaddr 1 t12 t16) H fun t17 H =>
    wGet (load1 t17 H) H fun t18 H =>
    R (.tup [t18, (.val (.nilIface))]) H)

/-- signalbox/signalboxkeep.blocked -/
def keep_blocked (E : Env) (P : Program) (H : AH) (R : Kt) : Prop :=
  wNewS 1 1 (fillA (List.replicate 1 [(.val (.int .i64 0))]).flatten [(0, 1, (.val (.int .i64 1)))]) H fun t6 H =>
  wNewS 1 1 (fillA (List.replicate 1 [(.val (.int .i64 0))]).flatten [(0, 1, (.val (.int .i64 0)))]) H fun t7 H =>
  wNewS 1 1 (fillA (List.replicate 1 [(.val (.int .i64 0))]).flatten [(0, 1, (.val (.int .i64 0)))]) H fun t8 H =>
  wNewS 1 3 (fillA (List.replicate 3 [(.val (.slice none 0 0))]).flatten [(0, 1, t6), (1, 1, t7), (2, 1, t8)]) H fun t9 H =>
  wNewS 1 1 (fillA (List.replicate 1 [(.val (.int .i64 0))]).flatten [(0, 1, (.val (.int .i64 5)))]) H fun t10 H =>
  wNewS 1 1 (fillA (List.replicate 1 [(.val (.int .i64 0))]).flatten [(0, 1, (.val (.int .i64 5)))]) H fun t11 H =>
  wNewS 1 1 (fillA (List.replicate 1 [(.val (.int .i64 0))]).flatten [(0, 1, (.val (.int .i64 6)))]) H fun t12 H =>
  wNewS 1 3 (fillA (List.replicate 3 [(.val (.slice none 0 0))]).flatten [(0, 1, t10), (1, 1, t11), (2, 1, t12)]) H fun t13 H =>
  wAgg (fillA [(.val (.slice none 0 0)), (.val (.slice none 0 0))] [(0, 1, t9), (1, 1, t13)]) H fun t14 H =>
  wNew 2 (some [(.val (.slice none 0 0)), (.val (.slice none 0 0))]) H fun t1 H =>
  wPut (storeN 2 t1 t14 H) fun _u H =>
  wGet (loadN 2 t1 H) H fun t16 H =>
  wCall E P 46 [t16] H fun t17 H =>
  wGet (extractA t17 0) H fun t18 H =>
  wGet (extractA t17 1) H fun t19 H =>
  wGet (loadN 2 t1 H) H fun t21 H =>
  wCall E P 52 [t21, (.val (.int .i64 0)), (.val (.int .i64 2))] H fun t22 H =>
  wGet (extractA t22 0) H fun t23 H =>
  wGet (extractA t22 1) H fun t24 H =>
  wBool (eqA .iface t19 (.val (.nilIface))) H false fun t26 H =>
  wGuard t26 true H (fun k => k t24 H) fun t28 H =>
  wGuard t26 true H (fun k => wBool (eqA .iface t28 (.val (.nilIface))) H false k) fun t29 H =>
  wGet (pickA t26 t29 (.val (.bool false))) H fun t30 H =>
  wGuard t30 true H (fun k => k t18 H) fun t32 H =>
  wGuard t30 true H (fun k => wNewS 1 3 (fillA (List.replicate 3 [(.val (.int .i64 0))]).flatten [(0, 1, (.val (.int .i64 0))), (1, 1, (.val (.int .i64 0))), (2, 1, (.val (.int .i64 1)))]) H k) fun t33 H =>
  wGuard t30 true H (fun k => wCall E P 51 [t32, t33] H k) fun t34 H =>
  wGet (pickA t30 t34 (.val (.bool false))) H fun t35 H =>
  wGuard t35 true H (fun k => k t23 H) fun t37 H =>
  wGuard t35 true H (fun k => wNewS 1 1 (fillA (List.replicate 1 [(.val (.int .i64 0))]).flatten [(0, 1, (.val (.int .i64 0)))]) H k) fun t38 H =>
  wGuard t35 true H (fun k => wCall E P 51 [t37, t38] H k) fun t39 H =>
  wGet (pickA t35 t39 (.val (.bool false))) H fun t40 H =>
  R t40 H

/-- signalbox/signalboxkeep.pick -/
def keep_pick (E : Env) (P : Program) (a0 a1 : AV) (H : AH) (R : Kt) : Prop :=
  wGet (convA (.int .u64) a0) H fun t6 H =>
  wGet (convA (.int .u64) a1) H fun t8 H =>
  wGet (binA .rem t6 t8) H fun t9 H =>
  wGet (convA (.int .i64) t9) H fun t10 H =>
  R t10 H

/-- signalbox/block.Least -/
def block_Least (E : Env) (P : Program) (a0 : AV) (H : AH) (R : Kt) : Prop :=
  wNew 2 (AV.cells? a0) H fun t1 H =>
  wNew 2 (some [(.val (.slice none 0 0)), (.val (.slice none 0 0))]) H fun t2 H =>
  wGet (loadN 2 t1 H) H fun t13 H =>
  wCall E P 46 [t13] H fun t14 H =>
  wGet (extractA t14 0) H fun t15 H =>
  wGet (extractA t14 1) H fun t16 H =>
  wBool (eqA .iface t16 (.val (.nilIface))) H true fun t18 H =>
  wIf t18 (
    wAgg (fillA [(.val (.slice none 0 0)), (.val (.slice none 0 0))] []) H fun t19 H =>
    wPut (storeN 2 t2 t19 H) fun _u H =>
    wGet (retPack [loadN 2 t2 H, some t16]) H R) (
    wNew 2 (some [(.val (.slice none 0 0)), (.val (.slice none 0 0))]) H fun t6 H =>
    wGet (lenA t15) H fun t22 H =>
    wLoop 1 (fun I1 => I1 (.val (.int .i64 0)) H) fun I1 t23 H =>
      wGet (binA .lss t23 t22) H fun t24 H =>
      wIf t24 (
        wJoin 0 (fun J2 =>
          wGet (iaddr 1 t15 t23) H fun t26 H =>
          wGet (load1 t26 H) H fun t27 H =>
          wGet (faddr 0 t6) H fun t29 H =>
          wGet (load1 t29 H) H fun t30 H =>
          wGet (lenA t30) H fun t31 H =>
          wGet (binA .lss t27 t31) H fun t32 H =>
          wIf t32 (
            J2 H) (
            wGet (faddr 0 t1) H fun t33 H =>
            wGet (load1 t33 H) H fun t34 H =>
            wGet (iaddr 1 t34 t23) H fun t36 H =>
            wGet (load1 t36 H) H fun t37 H =>
            wGet (lenA t37) H fun t38 H =>
            wLoop 2 (fun I3 => I3 (.val (.slice none 0 0)) (.val (.int .i64 0)) H) fun I3 t9 t39 H =>
              wGet (binA .lss t39 t38) H fun t40 H =>
              wIf t40 (
                wGet (iaddr 1 t37 t39) H fun t41 H =>
                wGet (load1 t41 H) H fun t42 H =>
                wGet (iaddr 1 t15 t42) H fun t46 H =>
                wGet (load1 t46 H) H fun t47 H =>
                wNewS 1 1 (fillA (List.replicate 1 [(.val (.int .i64 0))]).flatten [(0, 1, t47)]) H fun t48 H =>
                wApp 1 8 t9 t48 H fun t49 H =>
                wGet (binA .add t39 (.val (.int .i64 1))) H fun t50 H =>
                I3 t49 t50 H) (
                wGet (faddr 0 t6) H fun t51 H =>
                wGet (load1 t51 H) H fun t52 H =>
                wGet (faddr 1 t6) H fun t56 H =>
                wGet (load1 t56 H) H fun t57 H =>
                wGet (faddr 1 t1) H fun t58 H =>
                wGet (load1 t58 H) H fun t59 H =>
                wGet (iaddr 1 t59 t23) H fun t61 H =>
                wGet (load1 t61 H) H fun t62 H =>
                wNewS 1 1 (fillA (List.replicate 1 [(.val (.slice none 0 0))]).flatten [(0, 1, t9)]) H fun t54 H =>
                (wGet (load1 t51 H) H (fun y H2 => y = t52 ∧ H2 = H)) ∧
                (wGet (load1 t56 H) H (fun y H2 => y = t57 ∧ H2 = H)) ∧
                (wGet (load1 t58 H) H (fun y H2 => y = t59 ∧ H2 = H)) ∧
                (wGet (load1 t61 H) H (fun y H2 => y = t62 ∧ H2 = H)) ∧
                wApp 1 24 t52 t54 H fun t55 H =>
                (wGet (load1 t56 H) H (fun y H2 => y = t57 ∧ H2 = H)) ∧
                (wGet (load1 t58 H) H (fun y H2 => y = t59 ∧ H2 = H)) ∧
                (wGet (load1 t61 H) H (fun y H2 => y = t62 ∧ H2 = H)) ∧
                wGet (faddr 0 t6) H fun t66 H =>
                wCall E P 57 [t62] H fun t63 H =>
                (wGet (load1 t56 H) H (fun y H2 => y = t57 ∧ H2 = H)) ∧
                wNewS 1 1 (fillA (List.replicate 1 [(.val (.slice none 0 0))]).flatten [(0, 1, t63)]) H fun t64 H =>
                (wGet (load1 t56 H) H (fun y H2 => y = t57 ∧ H2 = H)) ∧
                wApp 1 24 t57 t64 H fun t65 H =>
                wPut (store1 t66 t55 H) fun _u H =>
                wGet (faddr 1 t6) H fun t67 H =>
                wPut (store1 t67 t65 H) fun _u H =>
                J2 H))) fun H =>
          wGet (binA .add t23 (.val (.int .i64 1))) H fun t68 H =>
          I1 t68 H) (
        wGet (loadN 2 t6 H) H fun t69 H =>
        wPut (storeN 2 t2 t69 H) fun _u H =>
        wGet (retPack [loadN 2 t2 H, some (.val (.nilIface))]) H R))

/-- signalbox/block.Tell -/
def block_Tell (E : Env) (P : Program) (a0 a1 a2 : AV) (H : AH) (R : Kt) : Prop :=
  wNew 2 (AV.cells? a0) H fun t3 H =>
  wGet (loadN 2 t3 H) H fun t12 H =>
  wCall E P 55 [t12] H fun t13 H =>
  wBool (eqA .iface t13 (.val (.nilIface))) H true fun t15 H =>
  wIf t15 (
    R (.tup [(.val (.slice none 0 0)), t13]) H) (
    wGet (binA .lss a1 (.val (.int .i64 0))) H fun t18 H =>
    wGuard t18 false H (fun k => k a1 H) fun t20 H =>
    wGuard t18 false H (fun k => wGet (faddr 0 t3) H k) fun t21 H =>
    wGuard t18 false H (fun k => wGet (load1 t21 H) H k) fun t22 H =>
    wGuard t18 false H (fun k => wGet (lenA t22) H k) fun t23 H =>
    wGuard t18 false H (fun k => wGet (binA .geq t20 t23) H k) fun t24 H =>
    wGet (pickA t18 (.val (.bool true)) t24) H fun t25 H =>
    wGuard t25 false H (fun k => k a2 H) fun t27 H =>
    wGuard t25 false H (fun k => k (.fn 58 [] [t3]) H) fun t28 H =>
    wGuard t25 false H (fun k => wCall E P 59 [t27, t28] H k) fun t29 H =>
    wGet (pickA t25 (.val (.bool true)) t29) H fun t30 H =>
    wIf t30 (
      R (.tup [(.val (.slice none 0 0)), (.ifc 1 (.val (.int .i64 2)))]) H) (
      wGet (lenA a2) H fun t33 H =>
      wLoop 3 (fun I1 => I1 a1 (.val (.slice none 0 0)) (.val (.int .i64 0)) H) fun I1 t1 t9 t34 H =>
        wGet (binA .lss t34 t33) H fun t35 H =>
        wIf t35 (
          wGet (iaddr 1 a2 t34) H fun t36 H =>
          wGet (load1 t36 H) H fun t37 H =>
          wGet (faddr 1 t3) H fun t39 H =>
          wGet (load1 t39 H) H fun t40 H =>
          wGet (iaddr 1 t40 t1) H fun t42 H =>
          wGet (load1 t42 H) H fun t43 H =>
          wGet (iaddr 1 t43 t37) H fun t45 H =>
          wGet (load1 t45 H) H fun t46 H =>
          wNewS 1 1 (fillA (List.replicate 1 [(.val (.int .i64 0))]).flatten [(0, 1, t46)]) H fun t47 H =>
          wApp 1 8 t9 t47 H fun t48 H =>
          wGet (faddr 0 t3) H fun t49 H =>
          wGet (load1 t49 H) H fun t50 H =>
          wGet (iaddr 1 t50 t1) H fun t52 H =>
          wGet (load1 t52 H) H fun t53 H =>
          wGet (iaddr 1 t53 t37) H fun t55 H =>
          wGet (load1 t55 H) H fun t56 H =>
          wGet (binA .add t34 (.val (.int .i64 1))) H fun t57 H =>
          I1 t56 t48 t57 H) (
          R (.tup [t9, (.val (.nilIface))]) H)))

/-- signalbox/signalboxkeep.sameInts -/
def keep_sameInts (E : Env) (P : Program) (a0 a1 : AV) (H : AH) (R : Kt) : Prop :=
  wGet (lenA a0) H fun t7 H =>
  wGet (lenA a1) H fun t9 H =>
  wGet (binA .neq t7 t9) H fun t10 H =>
  wIf t10 (
    R (.val (.bool false)) H) (
    wLoop 1 (fun I1 => I1 (.val (.int .i64 0)) H) fun I1 t5 H =>
      wGet (lenA a0) H fun t13 H =>
      wGet (binA .lss t5 t13) H fun t14 H =>
      wIf t14 (
        wGet (iaddr 1 a0 t5) H fun t19 H =>
        wGet (load1 t19 H) H fun t20 H =>
        wGet (iaddr 1 a1 t5) H fun t23 H =>
        wGet (load1 t23 H) H fun t24 H =>
        wGet (binA .neq t20 t24) H fun t25 H =>
        wIf t25 (
          R (.val (.bool false)) H) (
          wGet (binA .add t5 (.val (.int .i64 1))) H fun t16 H =>
          I1 t16 H)) (
        R (.val (.bool true)) H))

/-- signalbox/block.Part -/
def block_Part (E : Env) (P : Program) (a0 a1 a2 : AV) (H : AH) (R : Kt) : Prop :=
  wNew 2 (AV.cells? a0) H fun t3 H =>
  wNew 1 (AV.cells? a1) H fun t4 H =>
  wNew 1 (AV.cells? a2) H fun t5 H =>
  wGet (loadN 2 t3 H) H fun t15 H =>
  wCall E P 55 [t15] H fun t16 H =>
  wBool (eqA .iface t16 (.val (.nilIface))) H true fun t18 H =>
  wIf t18 (
    R (.tup [(.val (.slice none 0 0)), t16]) H) (
    wGet (load1 t4 H) H fun t20 H =>
    wGet (binA .lss t20 (.val (.int .i64 0))) H fun t21 H =>
    wGuard t21 false H (fun k => wGet (load1 t4 H) H k) fun t23 H =>
    wGuard t21 false H (fun k => wGet (faddr 0 t3) H k) fun t24 H =>
    wGuard t21 false H (fun k => wGet (load1 t24 H) H k) fun t25 H =>
    wGuard t21 false H (fun k => wGet (lenA t25) H k) fun t26 H =>
    wGuard t21 false H (fun k => wGet (binA .geq t23 t26) H k) fun t27 H =>
    wGet (pickA t21 (.val (.bool true)) t27) H fun t28 H =>
    wGuard t28 false H (fun k => wGet (load1 t5 H) H k) fun t30 H =>
    wGuard t28 false H (fun k => wGet (binA .lss t30 (.val (.int .i64 0))) H k) fun t31 H =>
    wGet (pickA t28 (.val (.bool true)) t31) H fun t32 H =>
    wGuard t32 false H (fun k => wGet (load1 t5 H) H k) fun t34 H =>
    wGuard t32 false H (fun k => wGet (faddr 0 t3) H k) fun t35 H =>
    wGuard t32 false H (fun k => wGet (load1 t35 H) H k) fun t36 H =>
    wGuard t32 false H (fun k => wGet (lenA t36) H k) fun t37 H =>
    wGuard t32 false H (fun k => wGet (binA .geq t34 t37) H k) fun t38 H =>
    wGet (pickA t32 (.val (.bool true)) t38) H fun t39 H =>
    wIf t39 (
      R (.tup [(.val (.slice none 0 0)), (.ifc 1 (.val (.int .i64 2)))]) H) (
      wGet (loadN 2 t3 H) H fun t41 H =>
      wCall E P 56 [t41] H fun t42 H =>
      wCall E P 61 [t42, (.fn 60 [] [t4, t5])] H fun t45 H =>
      wGet (binA .lss t45 (.val (.int .i64 0))) H fun t47 H =>
      wIf t47 (
        R (.tup [(.val (.slice none 0 0)), (.ifc 1 (.val (.int .i64 8)))]) H) (
        wLoop 2 (fun I1 => I1 t45 (.val (.slice none 0 0)) H) fun I1 t10 t11 H =>
          wGet (binA .gtr t10 (.val (.int .i64 0))) H fun t50 H =>
          wIf t50 (
            wJoin 1 (fun J2 =>
              wGet (faddr 0 t3) H fun t53 H =>
              wGet (load1 t53 H) H fun t54 H =>
              wGet (load1 t4 H) H fun t55 H =>
              wGet (iaddr 1 t54 t55) H fun t56 H =>
              wGet (load1 t56 H) H fun t57 H =>
              wGet (lenA t57) H fun t58 H =>
              wLoop 2 (fun I3 => I3 t11 (.val (.int .i64 0)) H) fun I3 t11_1 t59 H =>
                wGet (binA .lss t59 t58) H fun t60 H =>
                wIf t60 (
                  wGet (faddr 0 t3) H fun t62 H =>
                  wGet (load1 t62 H) H fun t63 H =>
                  wGet (load1 t4 H) H fun t64 H =>
                  wGet (iaddr 1 t63 t64) H fun t65 H =>
                  wGet (load1 t65 H) H fun t66 H =>
                  wGet (iaddr 1 t66 t59) H fun t68 H =>
                  wGet (load1 t68 H) H fun t69 H =>
                  wGet (faddr 0 t3) H fun t70 H =>
                  wGet (load1 t70 H) H fun t71 H =>
                  wGet (load1 t5 H) H fun t72 H =>
                  wGet (iaddr 1 t71 t72) H fun t73 H =>
                  wGet (load1 t73 H) H fun t74 H =>
                  wGet (iaddr 1 t74 t59) H fun t76 H =>
                  wGet (load1 t76 H) H fun t77 H =>
                  (wGet (load1 t70 H) H (fun y H2 => y = t71 ∧ H2 = H)) ∧
                  (wGet (load1 t5 H) H (fun y H2 => y = t72 ∧ H2 = H)) ∧
                  (wGet (load1 t73 H) H (fun y H2 => y = t74 ∧ H2 = H)) ∧
                  (wGet (load1 t76 H) H (fun y H2 => y = t77 ∧ H2 = H)) ∧
                  wGet (binA .eql t10 (.val (.int .i64 1))) H fun t79 H =>
                  wGuard t79 true H (fun k => wGet (faddr 1 t3) H k) fun t81 H =>
                  wGuard t79 true H (fun k => wGet (load1 t81 H) H k) fun t82 H =>
                  wGuard t79 true H (fun k => wGet (load1 t4 H) H k) fun t83 H =>
                  wGuard t79 true H (fun k => wGet (iaddr 1 t82 t83) H k) fun t84 H =>
                  wGuard t79 true H (fun k => wGet (load1 t84 H) H k) fun t85 H =>
                  wGuard t79 true H (fun k => k t59 H) fun t86 H =>
                  wGuard t79 true H (fun k => wGet (iaddr 1 t85 t86) H k) fun t87 H =>
                  wGuard t79 true H (fun k => wGet (load1 t87 H) H k) fun t88 H =>
                  wGuard t79 true H (fun k => wGet (faddr 1 t3) H k) fun t89 H =>
                  wGuard t79 true H (fun k => wGet (load1 t89 H) H k) fun t90 H =>
                  wGuard t79 true H (fun k => wGet (load1 t5 H) H k) fun t91 H =>
                  wGuard t79 true H (fun k => wGet (iaddr 1 t90 t91) H k) fun t92 H =>
                  wGuard t79 true H (fun k => wGet (load1 t92 H) H k) fun t93 H =>
                  wGuard t79 true H (fun k => k t59 H) fun t94 H =>
                  wGuard t79 true H (fun k => wGet (iaddr 1 t93 t94) H k) fun t95 H =>
                  wGuard t79 true H (fun k => wGet (load1 t95 H) H k) fun t96 H =>
                  wGuard t79 true H (fun k => wGet (binA .neq t88 t96) H k) fun t97 H =>
                  wGet (pickA t79 t97 (.val (.bool false))) H fun t98 H =>
                  wGuard t98 false H (fun k => k t10 H) fun t100 H =>
                  wGuard t98 false H (fun k => wGet (binA .gtr t100 (.val (.int .i64 1))) H k) fun t101 H =>
                  wGuard t98 false H (fun k => k t101 H) fun t102 H =>
                  wGuard t102 true H (fun k => k t42 H) fun t103 H =>
                  wGuard t102 true H (fun k => k t10 H) fun t104 H =>
                  wGuard t102 true H (fun k => wGet (binA .sub t104 (.val (.int .i64 1))) H k) fun t105 H =>
                  wGuard t102 true H (fun k => wGet (iaddr 1 t103 t105) H k) fun t106 H =>
                  wGuard t102 true H (fun k => wGet (load1 t106 H) H k) fun t107 H =>
                  wGuard t102 true H (fun k => k t69 H) fun t108 H =>
                  wGuard t102 true H (fun k => wGet (iaddr 1 t107 t108) H k) fun t109 H =>
                  wGuard t102 true H (fun k => wGet (load1 t109 H) H k) fun t110 H =>
                  wGuard t102 true H (fun k => k t42 H) fun t111 H =>
                  wGuard t102 true H (fun k => k t10 H) fun t112 H =>
                  wGuard t102 true H (fun k => wGet (binA .sub t112 (.val (.int .i64 1))) H k) fun t113 H =>
                  wGuard t102 true H (fun k => wGet (iaddr 1 t111 t113) H k) fun t114 H =>
                  wGuard t102 true H (fun k => wGet (load1 t114 H) H k) fun t115 H =>
                  wGuard t102 true H (fun k => k t77 H) fun t116 H =>
                  wGuard t102 true H (fun k => wGet (iaddr 1 t115 t116) H k) fun t117 H =>
                  wGuard t102 true H (fun k => wGet (load1 t117 H) H k) fun t118 H =>
                  wGuard t102 true H (fun k => wGet (binA .neq t110 t118) H k) fun t119 H =>
                  wGuard t98 false H (fun k => wGet (pickA t102 t119 (.val (.bool false))) H k) fun t120 H =>
                  wGet (pickA t98 (.val (.bool true)) t120) H fun t121 H =>
                  wIf t121 (
                    wNewS 1 1 (fillA (List.replicate 1 [(.val (.int .i64 0))]).flatten [(0, 1, t59)]) H fun t124 H =>
                    wApp 1 8 t11_1 t124 H fun t125 H =>
                    wPut (store1 t4 t69 H) fun _u H =>
                    wPut (store1 t5 t77 H) fun _u H =>
                    J2 t125 H) (
                    wGet (binA .add t59 (.val (.int .i64 1))) H fun t128 H =>
                    I3 t11_1 t128 H)) (
                  J2 t11_1 H)) fun t11_2 H =>
              wGet (binA .sub t10 (.val (.int .i64 1))) H fun t52 H =>
              I1 t52 t11_2 H) (
            R (.tup [t11, (.val (.nilIface))]) H))))

/-- signalbox/api.Tell -/
def api_Tell (E : Env) (P : Program) (a0 : AV) (H : AH) (R : Kt) : Prop :=
  wBool (eqA .iface a0 (.val (.nilIface))) H false fun t5 H =>
  wIf t5 (
    R (.val (.int .i64 0)) H) (
    wNew 1 (some [(.val (.int .i64 0))]) H fun t3 H =>
    wCall E P 62 [a0, (.ifc 3 t3)] H fun t8 H =>
    wIf t8 (
      wGet (load1 t3 H) H fun t9 H =>
      R t9 H) (
      R (.val (.int .i64 (-1))) H))

/-- signalbox/block.Check -/
def block_Check (E : Env) (P : Program) (a0 : AV) (H : AH) (R : Kt) : Prop :=
  wNew 2 (AV.cells? a0) H fun t1 H =>
  wGet (faddr 0 t1) H fun t5 H =>
  wGet (load1 t5 H) H fun t6 H =>
  wGet (lenA t6) H fun t7 H =>
  wNew 1 (some [(.val (.int .i64 0))]) H fun t3 H =>
  wPut (store1 t3 t7 H) fun _u H =>
  wGet (load1 t3 H) H fun t8 H =>
  wGet (binA .lss t8 (.val (.int .i64 1))) H fun t9 H =>
  wGuard t9 false H (fun k => wGet (load1 t3 H) H k) fun t11 H =>
  wGuard t9 false H (fun k => wGet (binA .gtr t11 (.val (.int .i64 500))) H k) fun t12 H =>
  wGet (pickA t9 (.val (.bool true)) t12) H fun t13 H =>
  wGuard t13 false H (fun k => wGet (faddr 0 t1) H k) fun t15 H =>
  wGuard t13 false H (fun k => wGet (load1 t15 H) H k) fun t16 H =>
  wGuard t13 false H (fun k => wGet (iaddr 1 t16 (.val (.int .i64 0))) H k) fun t17 H =>
  wGuard t13 false H (fun k => wGet (load1 t17 H) H k) fun t18 H =>
  wGuard t13 false H (fun k => wGet (lenA t18) H k) fun t19 H =>
  wGuard t13 false H (fun k => wGet (binA .gtr t19 (.val (.int .i64 64))) H k) fun t20 H =>
  wGet (pickA t13 (.val (.bool true)) t20) H fun t21 H =>
  wIf t21 (
    R (.ifc 1 (.val (.int .i64 4))) H) (
    wGet (faddr 1 t1) H fun t23 H =>
    wGet (load1 t23 H) H fun t24 H =>
    wGet (lenA t24) H fun t25 H =>
    wGet (load1 t3 H) H fun t26 H =>
    wGet (binA .neq t25 t26) H fun t27 H =>
    wIf t27 (
      R (.ifc 1 (.val (.int .i64 3))) H) (
      wGet (faddr 0 t1) H fun t29 H =>
      wGet (load1 t29 H) H fun t30 H =>
      wGet (lenA t30) H fun t31 H =>
      wLoop 1 (fun I1 => I1 (.val (.int .i64 0)) H) fun I1 t32 H =>
        wGet (binA .lss t32 t31) H fun t33 H =>
        wIf t33 (
          wGet (faddr 0 t1) H fun t35 H =>
          wGet (load1 t35 H) H fun t36 H =>
          wGet (iaddr 1 t36 t32) H fun t38 H =>
          wGet (load1 t38 H) H fun t39 H =>
          wGet (lenA t39) H fun t40 H =>
          wGet (faddr 0 t1) H fun t41 H =>
          wGet (load1 t41 H) H fun t42 H =>
          wGet (iaddr 1 t42 (.val (.int .i64 0))) H fun t43 H =>
          wGet (load1 t43 H) H fun t44 H =>
          wGet (lenA t44) H fun t45 H =>
          wGet (binA .neq t40 t45) H fun t46 H =>
          wGuard t46 false H (fun k => wGet (faddr 1 t1) H k) fun t48 H =>
          wGuard t46 false H (fun k => wGet (load1 t48 H) H k) fun t49 H =>
          wGuard t46 false H (fun k => k t32 H) fun t50 H =>
          wGuard t46 false H (fun k => wGet (iaddr 1 t49 t50) H k) fun t51 H =>
          wGuard t46 false H (fun k => wGet (load1 t51 H) H k) fun t52 H =>
          wGuard t46 false H (fun k => wGet (lenA t52) H k) fun t53 H =>
          wGuard t46 false H (fun k => wGet (faddr 0 t1) H k) fun t54 H =>
          wGuard t46 false H (fun k => wGet (load1 t54 H) H k) fun t55 H =>
          wGuard t46 false H (fun k => wGet (iaddr 1 t55 (.val (.int .i64 0))) H k) fun t56 H =>
          wGuard t46 false H (fun k => wGet (load1 t56 H) H k) fun t57 H =>
          wGuard t46 false H (fun k => wGet (lenA t57) H k) fun t58 H =>
          wGuard t46 false H (fun k => wGet (binA .neq t53 t58) H k) fun t59 H =>
          wGet (pickA t46 (.val (.bool true)) t59) H fun t60 H =>
          wIf t60 (
            wAgg (fillA [(.val (.int .i64 0)), (.val (.int .i64 0))] [(0, 1, (.val (.int .i64 3))), (1, 1, t32)]) H fun t62 H =>
            wNew 2 (AV.cells? t62) H fun t63 H =>
            R (.ifc 2 t63) H) (
            wGet (faddr 0 t1) H fun t65 H =>
            wGet (load1 t65 H) H fun t66 H =>
            wGet (iaddr 1 t66 t32) H fun t68 H =>
            wGet (load1 t68 H) H fun t69 H =>
            wCall E P 59 [t69, (.fn 63 [] [t3])] H fun t71 H =>
            wIf t71 (
              wAgg (fillA [(.val (.int .i64 0)), (.val (.int .i64 0))] [(0, 1, (.val (.int .i64 2))), (1, 1, t32)]) H fun t73 H =>
              wNew 2 (AV.cells? t73) H fun t74 H =>
              R (.ifc 2 t74) H) (
              wGet (binA .add t32 (.val (.int .i64 1))) H fun t76 H =>
              I1 t76 H))) (
          R (.val (.nilIface)) H)))

/-- signalbox/block.rounds -/
def block_rounds (E : Env) (P : Program) (a0 : AV) (H : AH) (R : Kt) : Prop :=
  wNew 2 (AV.cells? a0) H fun t1 H =>
  wGet (faddr 0 t1) H fun t12 H =>
  wGet (load1 t12 H) H fun t13 H =>
  wGet (lenA t13) H fun t14 H =>
  wMake 1 8 [(.val (.int .i64 0))] t14 t14 H fun t16 H =>
  wNewS 1 1 (fillA (List.replicate 1 [(.val (.slice none 0 0))]).flatten [(0, 1, t16)]) H fun t17 H =>
  wLoop 1 (fun I1 => I1 t17 H) fun I1 t4 H =>
    wGet (lenA t4) H fun t20 H =>
    wGet (binA .sub t20 (.val (.int .i64 1))) H fun t21 H =>
    wGet (iaddr 1 t4 t21) H fun t22 H =>
    wGet (load1 t22 H) H fun t23 H =>
    wLoop 2 (fun I2 => I2 (.val (.slice none 0 0)) (.val (.int .i64 0)) H) fun I2 t6 t25 H =>
      wGet (binA .lss t25 t14) H fun t26 H =>
      wIf t26 (
        wGet (iaddr 1 t23 t25) H fun t30 H =>
        wGet (load1 t30 H) H fun t31 H =>
        wNewS 1 1 (fillA (List.replicate 1 [(.val (.int .i64 0))]).flatten [(0, 1, t31)]) H fun t32 H =>
        wGet (faddr 0 t1) H fun t33 H =>
        wGet (load1 t33 H) H fun t34 H =>
        wGet (iaddr 1 t34 t25) H fun t36 H =>
        wGet (load1 t36 H) H fun t37 H =>
        wGet (lenA t37) H fun t38 H =>
        wLoop 2 (fun I3 => I3 t32 (.val (.int .i64 0)) H) fun I3 t8 t39 H =>
          wGet (binA .lss t39 t38) H fun t40 H =>
          wIf t40 (
            wGet (iaddr 1 t37 t39) H fun t42 H =>
            wGet (load1 t42 H) H fun t43 H =>
            wGet (faddr 1 t1) H fun t45 H =>
            wGet (load1 t45 H) H fun t46 H =>
            wGet (iaddr 1 t46 t25) H fun t48 H =>
            wGet (load1 t48 H) H fun t49 H =>
            wGet (iaddr 1 t49 t39) H fun t51 H =>
            wGet (load1 t51 H) H fun t52 H =>
            wGet (iaddr 1 t23 t43) H fun t55 H =>
            wGet (load1 t55 H) H fun t56 H =>
            wNewS 1 2 (fillA (List.replicate 2 [(.val (.int .i64 0))]).flatten [(0, 1, t52), (1, 1, t56)]) H fun t57 H =>
            wApp 1 8 t8 t57 H fun t58 H =>
            wGet (binA .add t39 (.val (.int .i64 1))) H fun t59 H =>
            I3 t58 t59 H) (
            wNewS 1 1 (fillA (List.replicate 1 [(.val (.slice none 0 0))]).flatten [(0, 1, t8)]) H fun t62 H =>
            wApp 1 24 t6 t62 H fun t63 H =>
            wGet (binA .add t25 (.val (.int .i64 1))) H fun t64 H =>
            I2 t63 t64 H)) (
        wCall E P 64 [t6] H fun t66 H =>
        wCall E P 65 [t66, t23] H fun t69 H =>
        wIf t69 (
          R t4 H) (
          wNewS 1 1 (fillA (List.replicate 1 [(.val (.slice none 0 0))]).flatten [(0, 1, t66)]) H fun t73 H =>
          wApp 1 24 t4 t73 H fun t74 H =>
          I1 t74 H))

/-- slices.Clone[[]int,int] -/
def slices_Clone_Lint_int (E : Env) (P : Program) (a0 : AV) (H : AH) (R : Kt) : Prop :=
  wBool (eqA .slice a0 (.val (.slice none 0 0))) H false fun t4 H =>
  wIf t4 (
    R (.val (.slice none 0 0)) H) (
    wNewS 1 0 (fillA (List.replicate 0 [(.val (.int .i64 0))]).flatten []) H fun t5 H =>
    wApp 1 8 t5 a0 H fun t7 H =>
    R t7 H)

/-- slices.ContainsFunc[[]int,int] -/
def slices_ContainsFunc_Lint_int (E : Env) (P : Program) (a0 a1 : AV) (H : AH) (R : Kt) : Prop :=
  wCall E P 66 [a0, a1] H fun t7 H =>
  wGet (binA .geq t7 (.val (.int .i64 0))) H fun t8 H =>
  R t8 H

/-- signalbox/block.Tell$1 -/
def block_Tell_c1 (E : Env) (P : Program) (a0 a1 : AV) (H : AH) (R : Kt) : Prop :=
  wGet (binA .lss a0 (.val (.int .i64 0))) H fun t5 H =>
  wGuard t5 false H (fun k => k a0 H) fun t7 H =>
  wGuard t5 false H (fun k => wGet (faddr 0 a1) H k) fun t8 H =>
  wGuard t5 false H (fun k => wGet (load1 t8 H) H k) fun t9 H =>
  wGuard t5 false H (fun k => wGet (iaddr 1 t9 (.val (.int .i64 0))) H k) fun t10 H =>
  wGuard t5 false H (fun k => wGet (load1 t10 H) H k) fun t11 H =>
  wGuard t5 false H (fun k => wGet (lenA t11) H k) fun t12 H =>
  wGuard t5 false H (fun k => wGet (binA .geq t7 t12) H k) fun t13 H =>
  wGet (pickA t5 (.val (.bool true)) t13) H fun t14 H =>
  R t14 H

/-- slices.IndexFunc[[][]int,[]int] -/
def slices_IndexFunc_LLint_Lint (E : Env) (P : Program) (a0 a1 : AV) (H : AH) (R : Kt) : Prop :=
  wGet (lenA a0) H fun t7 H =>
  wLoop 1 (fun I1 => I1 (.val (.int .i64 0)) H) fun I1 t8 H =>
    wGet (binA .lss t8 t7) H fun t9 H =>
    wIf t9 (
      wGet (iaddr 1 a0 t8) H fun t14 H =>
      wGet (load1 t14 H) H fun t15 H =>
      wCallV E P a1 [t15] H fun t16 H =>
      wIf t16 (
        R t8 H) (
        wGet (binA .add t8 (.val (.int .i64 1))) H fun t18 H =>
        I1 t18 H)) (
      R (.val (.int .i64 (-1))) H)

/-- signalbox/block.Part$1 -/
def block_Part_c1 (E : Env) (P : Program) (a0 a1 a2 : AV) (H : AH) (R : Kt) : Prop :=
  wGet (load1 a1 H) H fun t6 H =>
  wGet (iaddr 1 a0 t6) H fun t7 H =>
  wGet (load1 t7 H) H fun t8 H =>
  wGet (load1 a2 H) H fun t10 H =>
  wGet (iaddr 1 a0 t10) H fun t11 H =>
  wGet (load1 t11 H) H fun t12 H =>
  wGet (binA .neq t8 t12) H fun t13 H =>
  R t13 H

/-- errors.As -/
def errors_As (E : Env) (P : Program) (a0 a1 : AV) (H : AH) (R : Kt) : Prop :=
  wBool (eqA .iface a0 (.val (.nilIface))) H false fun t9 H =>
  wIf t9 (
    R (.val (.bool false)) H) (
    wJoin 0 (fun J1 =>
      wBool (eqA .iface a1 (.val (.nilIface))) H false fun t11 H =>
      wIf t11 (
        False) (
        J1 H)) fun H =>
      wCall E P 67 [a1] H fun t14 H =>
      wNew 3 (some [(.val (.pointer none)), (.val (.pointer none)), (.val (.int .u64 0))]) H fun t5 H =>
      wPut (storeN 3 t5 t14 H) fun _u H =>
      wGet (loadN 3 t5 H) H fun t15 H =>
      wCall E P 68 [t15] H fun t16 H =>
      wJoin 0 (fun J2 =>
        wInv E P t16 "Kind" [] H fun t18 H =>
        wGet (binA .neq t18 (.val (.int .u8 22))) H fun t19 H =>
        wGuard t19 false H (fun k => wGet (loadN 3 t5 H) H k) fun t21 H =>
        wGuard t19 false H (fun k => wCall E P 69 [t21] H k) fun t22 H =>
        wGet (pickA t19 (.val (.bool true)) t22) H fun t23 H =>
        wIf t23 (
          False) (
          J2 H)) fun H =>
        wInv E P t16 "Elem" [] H fun t26 H =>
        wJoin 0 (fun J3 =>
          wInv E P t26 "Kind" [] H fun t28 H =>
          wGet (binA .neq t28 (.val (.int .u8 20))) H fun t29 H =>
          wGuard t29 true H (fun k => k t26 H) fun t31 H =>
          wGuard t29 true H (fun k => wGet (load1 (gptr E 4) H) H k) fun t32 H =>
          wGuard t29 true H (fun k => wInv E P t31 "Implements" [t32] H k) fun t33 H =>
          wGuard t29 true H (fun k => wGet (unA .not t33) H k) fun t34 H =>
          wGet (pickA t29 t34 (.val (.bool false))) H fun t35 H =>
          wIf t35 (
            False) (
            J3 H)) fun H =>
          wGet (loadN 3 t5 H) H fun t39 H =>
          wCall E P 70 [a0, a1, t39, t26] H fun t41 H =>
          R t41 H)

/-- signalbox/block.Check$1 -/
def block_Check_c1 (E : Env) (P : Program) (a0 a1 : AV) (H : AH) (R : Kt) : Prop :=
  wGet (binA .lss a0 (.val (.int .i64 0))) H fun t5 H =>
  wGuard t5 false H (fun k => k a0 H) fun t7 H =>
  wGuard t5 false H (fun k => wGet (load1 a1 H) H k) fun t8 H =>
  wGuard t5 false H (fun k => wGet (binA .geq t7 t8) H k) fun t9 H =>
  wGet (pickA t5 (.val (.bool true)) t9) H fun t10 H =>
  R t10 H

/-- signalbox/block.number -/
def block_number (E : Env) (P : Program) (a0 : AV) (H : AH) (R : Kt) : Prop :=
  wGet (lenA a0) H fun t9 H =>
  wLoop 3 (fun I1 => I1 (.val (.slice none 0 0)) (.val (.slice none 0 0)) (.val (.int .i64 0)) H) fun I1 t3 t4 t10 H =>
    wGet (binA .lss t10 t9) H fun t11 H =>
    wIf t11 (
      wGet (iaddr 1 a0 t10) H fun t12 H =>
      wGet (load1 t12 H) H fun t13 H =>
      wNew 1 (some [(.val (.slice none 0 0))]) H fun t6 H =>
      wPut (store1 t6 t13 H) fun _u H =>
      wCall E P 61 [t3, (.fn 71 [] [t6])] H fun t16 H =>
      wJoin 2 (fun J2 =>
        wGet (binA .lss t16 (.val (.int .i64 0))) H fun t18 H =>
        wIf t18 (
          wGet (lenA t3) H fun t20 H =>
          wGet (load1 t6 H) H fun t22 H =>
          wNewS 1 1 (fillA (List.replicate 1 [(.val (.slice none 0 0))]).flatten [(0, 1, t22)]) H fun t23 H =>
          wApp 1 24 t3 t23 H fun t24 H =>
          J2 t24 t20 H) (
          J2 t3 t16 H)) fun t3_1 t7 H =>
        wNewS 1 1 (fillA (List.replicate 1 [(.val (.int .i64 0))]).flatten [(0, 1, t7)]) H fun t27 H =>
        wApp 1 8 t4 t27 H fun t28 H =>
        wGet (binA .add t10 (.val (.int .i64 1))) H fun t29 H =>
        I1 t3_1 t28 t29 H) (
      R t4 H)

/-- slices.Equal[[]int,int] -/
def slices_Equal_Lint_int (E : Env) (P : Program) (a0 a1 : AV) (H : AH) (R : Kt) : Prop :=
  wGet (lenA a0) H fun t7 H =>
  wGet (lenA a1) H fun t9 H =>
  wGet (binA .neq t7 t9) H fun t10 H =>
  wIf t10 (
    R (.val (.bool false)) H) (
    wGet (lenA a0) H fun t12 H =>
    wLoop 1 (fun I1 => I1 (.val (.int .i64 0)) H) fun I1 t13 H =>
      wGet (binA .lss t13 t12) H fun t14 H =>
      wIf t14 (
        wGet (iaddr 1 a0 t13) H fun t18 H =>
        wGet (load1 t18 H) H fun t19 H =>
        wGet (iaddr 1 a1 t13) H fun t22 H =>
        wGet (load1 t22 H) H fun t23 H =>
        wGet (binA .neq t19 t23) H fun t24 H =>
        wIf t24 (
          R (.val (.bool false)) H) (
          wGet (binA .add t13 (.val (.int .i64 1))) H fun t25 H =>
          I1 t25 H)) (
        R (.val (.bool true)) H))

/-- slices.IndexFunc[[]int,int] -/
def slices_IndexFunc_Lint_int (E : Env) (P : Program) (a0 a1 : AV) (H : AH) (R : Kt) : Prop :=
  wGet (lenA a0) H fun t7 H =>
  wLoop 1 (fun I1 => I1 (.val (.int .i64 0)) H) fun I1 t8 H =>
    wGet (binA .lss t8 t7) H fun t9 H =>
    wIf t9 (
      wGet (iaddr 1 a0 t8) H fun t14 H =>
      wGet (load1 t14 H) H fun t15 H =>
      wCallV E P a1 [t15] H fun t16 H =>
      wIf t16 (
        R t8 H) (
        wGet (binA .add t8 (.val (.int .i64 1))) H fun t18 H =>
        I1 t18 H)) (
      R (.val (.int .i64 (-1))) H)

/-- errors.as -/
def errors_as (E : Env) (P : Program) (a0 a1 a2 a3 : AV) (H : AH) (R : Kt) : Prop :=
  wNew 3 (AV.cells? a2) H fun t6 H =>
  wLoop 1 (fun I1 => I1 a0 H) fun I1 t0 H =>
    wCall E P 72 [t0] H fun t17 H =>
    wInv E P t17 "AssignableTo" [a3] H fun t19 H =>
    wIf t19 (
      wGet (loadN 3 t6 H) H fun t20 H =>
      wCall E P 73 [t20] H fun t21 H =>
      wCall E P 67 [t0] H fun t23 H =>
      wCall E P 74 [t21, t23] H fun t24 H =>
      R (.val (.bool true)) H) (
      wAsI E P 5 t0 H fun t27 H =>
      wGet (extractA t27 0) H fun t28 H =>
      wGet (extractA t27 1) H fun t29 H =>
      wGuard t29 true H (fun k => k t28 H) fun t32 H =>
      wGuard t29 true H (fun k => k a1 H) fun t33 H =>
      wGuard t29 true H (fun k => wInv E P t32 "As" [t33] H k) fun t34 H =>
      wGet (pickA t29 t34 (.val (.bool false))) H fun t35 H =>
      wIf t35 (
        R (.val (.bool true)) H) (
        wAsI E P 6 t0 H fun t37 H =>
        wGet (extractA t37 1) H fun t38 H =>
        wGet (extractA t37 0) H fun t39 H =>
        wIf t38 (
          wInv E P t39 "Unwrap" [] H fun t41 H =>
          wBool (eqA .iface t41 (.val (.nilIface))) H false fun t43 H =>
          wIf t43 (
            R (.val (.bool false)) H) (
            I1 t41 H)) (
          wAsI E P 7 t0 H fun t44 H =>
          wGet (extractA t44 1) H fun t45 H =>
          wGet (extractA t44 0) H fun t46 H =>
          wIf t45 (
            wInv E P t46 "Unwrap" [] H fun t48 H =>
            wGet (lenA t48) H fun t49 H =>
            wLoop 1 (fun I2 => I2 (.val (.int .i64 0)) H) fun I2 t50 H =>
              wGet (binA .lss t50 t49) H fun t51 H =>
              wIf t51 (
                wJoin 0 (fun J3 =>
                  wGet (iaddr 1 t48 t50) H fun t52 H =>
                  wGet (load1 t52 H) H fun t53 H =>
                  wBool (eqA .iface t53 (.val (.nilIface))) H false fun t55 H =>
                  wIf t55 (
                    J3 H) (
                    wGet (loadN 3 t6 H) H fun t58 H =>
                    wCall E P 70 [t53, a1, t58, a3] H fun t60 H =>
                    wIf t60 (
                      R (.val (.bool true)) H) (
                      J3 H))) fun H =>
                  wGet (binA .add t50 (.val (.int .i64 1))) H fun t61 H =>
                  I2 t61 H) (
                R (.val (.bool false)) H)) (
            R (.val (.bool false)) H))))

/-- signalbox/block.number$1 -/
def block_number_c1 (E : Env) (P : Program) (a0 a1 : AV) (H : AH) (R : Kt) : Prop :=
  wGet (load1 a1 H) H fun t5 H =>
  wCall E P 65 [a0, t5] H fun t6 H =>
  R t6 H

/-- (*signalbox/api.At).Unwrap -/
def papi_At_Unwrap (E : Env) (P : Program) (a0 : AV) (H : AH) (R : Kt) : Prop :=
  wGet (nilA a0) H fun t4 H =>
  wGet (faddr 0 t4) H fun t5 H =>
  wGet (load1 t5 H) H fun t6 H =>
  R (.ifc 1 t6) H

end Go.Sc.F
