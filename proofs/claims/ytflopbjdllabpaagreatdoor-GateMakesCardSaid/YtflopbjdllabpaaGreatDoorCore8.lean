/- CONTRACTS: package signalboxref: expressions are read. CONTRACTS: how expressions are written. CONTRACTS: package expr: what an expression says, and how great it is. WHAT AN EXPRESSION's TEXT TELLS IS THAT EXPRESSION AGAIN: plain. CONTRACTS: package expr: how great an expression is; the keep's fact of it. CONTRACTS OUT OF THE KIT's SHELF: strings.Join, strings.IndexByte. CONTRACTS OUT OF THE KIT's SHELF: what writes a row of texts of the caller's: slices.Sort, slices.Compact. CONTRACTS: package expr: names and edges, sorted, each once. PLAIN LAW: a list that is sorted, each once, is told by what is in it; what is put in place by place is sorted, each once. EXPRESSIONS MADE TIDY: plain. WHAT IS TIDY STAYS AS IT IS: plain. CONTRACTS: package signalboxref: how expressions are written. CONTRACTS: package signalboxref: an expression is made tidy. CONTRACTS: package signalboxref: what an expression says, how great it is, its names and edges. (of the seat YtflopbjdllabpaaGreatDoor) -/
import Derived.Test.YtflopbjdllabpaaGreatDoorCore7
import Derived.Lib.Join
import Derived.Lib.Bytealg
import Derived.Sort.Row
import Derived.Sort.EncStr
import Derived.Sort.Grow
import Derived.Lib.SlicesCompact
import Derived.Lib.IndexMore
namespace Go.Sc
open Go
set_option linter.unusedSimpArgs false
set_option linter.unusedVariables false
set_option linter.unnecessarySimpa false
section
variable {E : Env} {P : Program}
/-- how the document's reader of pieces is told -/
def PieceOk (E : Env) (P : Program) (s : Str) (f : Nat → Rs Ex) (a : Nat) : Prop := ∀ i, i ≤ s.length → PC E P 141 4 (pd s i 0 (-1)) (fun b g => [.ptrL b 0 g, Z a]) (PR s (f i))
theorem whole1_spec (B : RefReadBodies E P) (s : Str) (hs : s.length < 1000000) (f : Nat → Rs Ex) (hgood : GoodR s f) (herr : ErrR f) (a : Nat) (hf : PieceOk E P s f a) (i : Nat) (hi : i ≤ s.length) :
    PC E P 136 4 (pd s i 0 (-1)) (fun b g => [Z a, .ptrF [.ptrL b 0 g] 0]) (PR s (andR s f i)) := by
  refine PC.of (fun _ _ => rfl) (pd_closed _ _ _ _) (fun _ _ h => h.closed) fun n g R hR => B.whole1 _ _ _ _ ?_
  unfold F.pref_parser_whole_c1
  simp only [nd0, Y1n, Y1o, Y1p, Y1q, Y1w, Y1x, Y1y, Y1z, Y20, Y21, Y28, Y2a, AV.cells?, Nat.reduceAdd, Nat.reduceMul]
  refine wCall.pc (b := 0) (row_spec B s hs 38 (by decide) (by decide) .and (fun _ => rfl) f hgood herr 141 (fun b g => [.ptrL b 0 g]) (fun _ _ => []) a (fun _ _ => ⟨rfl, rfl⟩) hf i hi) rfl rfl ?_
  intro r cs n hr
  exact hR _ _ cs [] n (.same _) hr
theorem whole_spec (B : RefReadBodies E P) (s : Str) (hs : s.length < 1000000) (f : Nat → Rs Ex) (hgood : GoodR s f) (herr : ErrR f) (a : Nat) (hf : PieceOk E P s f a) (i : Nat) (hi : i ≤ s.length) :
    PC E P 130 4 (pd s i 0 (-1)) (fun b g => [.ptrL b 0 g, Z a]) (PR s (orR s f i)) := by
  refine PC.of (fun _ _ => rfl) (pd_closed _ _ _ _) (fun _ _ h => h.closed) fun n g R hR => B.whole _ _ _ _ ?_
  unfold F.pref_parser_whole
  refine wNew.F' (l := [.ptrL 0 0 g]) rfl ?_
  simp only [nd0, Y1n, Y1o, Y1p, Y1q, Y1w, Y1x, Y1y, Y1z, Y20, Y21, Y28, Y2a, AV.cells?, Nat.reduceAdd, Nat.reduceMul]
  refine wCall.pc (b := 0) (row_spec B s hs 124 (by decide) (by decide) .or (fun _ => rfl) (andR s f) (andR_good hgood) (allR_err herr) 136 (fun _ _ => []) (fun b g => [.ptrF [.ptrL b 0 g] 0]) a (fun _ _ => ⟨rfl, rfl⟩) (whole1_spec B s hs f hgood herr a hf) i hi) rfl rfl ?_
  intro r cs n hr
  exact hR _ _ cs [] n (.same _) hr
theorem or_join {b1 b2 : Bool} {g : Nat} {cs : List AV} {x : Nat} {k : KN 1} {n : Nat}
    (h : ∀ n, k (Bo (b1 || b2)) ⟨[.cells g 4 cs], n⟩) : wJoin 1 (fun J => wIf (Bo b1) (J (Bo b1) ⟨[.cells g 4 cs], n⟩) (J (Bo b2) ⟨[.cells g 4 cs], n⟩)) k := by
  refine wJoin.one (fun t H => t = Bo (b1 || b2) ∧ ∃ n, H = ⟨[.cells g 4 cs], n⟩) ?_ ?_
  · cases b1
    · exact wIf_false.2 (gh1.mk ⟨rfl, _, rfl⟩)
    · exact wIf_true.2 (gh1.mk ⟨rfl, _, rfl⟩)
  · rintro t H ⟨rfl, n, rfl⟩
    exact h n
set_option maxHeartbeats 2000000 in
theorem piece_spec (B : RefReadBodies E P) (s : Str) (hs : s.length < 1000000) : ∀ (d : Nat), d ≤ 20 → PieceOk E P s (oneR s d) (20 - d) := by
  intro d
  induction d with
  | zero =>
    intro _ i hi
    refine PC.of (fun _ _ => rfl) (pd_closed _ _ _ _) (fun _ _ h => h.closed) fun n g R hR => B.piece _ _ _ _ ?_
    unfold F.pref_parser_piece
    unfold pd
    simp only [nd0, Y1n, Y1o, Y1p, Y1q, Y1w, Y1x, Y1y, Y1z, Y20, Y21, Y28, Y2a, AV.cells?, Nat.reduceAdd, Nat.reduceMul, show decide ((0 : Int) = 0) = true from rfl, show decide ((20 : Int) ≤ ((20 - 0 : Nat) : Int)) = true from rfl]
    refine wCall.pc (b := 0) (rfail_spec B s i 4 hi hs) rfl rfl ?_
    rintro r cs n2 ⟨rfl, rfl⟩
    exact hR _ _ _ [] n2 (.same _) ⟨trivial, rfl, _, rfl⟩
  | succ d ih =>
    intro hd i hi
    have ih := ih (by omega)
    have hgood := oneR_good s d
    have herr := oneR_err s d
    refine PC.of (fun _ _ => rfl) (pd_closed _ _ _ _) (fun _ _ h => h.closed) fun n g R hR => B.piece _ _ _ _ ?_
    unfold F.pref_parser_piece
    have hsc : ∀ x : AV, x.scalar = true → fillA (List.replicate 1 [nilP]).flatten [(0, 1, x)] = some [x] := fun x h => fill1 h
    have hadd : binA .add (Z ((20 - (d + 1) : Nat) : Int)) (Z 1) = some (Z ((20 - d : Nat) : Int)) := by
      rw [binA_add (by omega)]; congr 3; omega
    have p1 : ∀ j e p, (pd s j e p)[1]? = some (Z j) := fun _ _ _ => rfl
    have p2 : ∀ j e p, (pd s j e p)[2]? = some (Z e) := fun _ _ _ => rfl
    have plen : ∀ j e p, (1 : Nat) < (pd s j e p).length := fun _ _ _ => by show 1 < 4; omega
    have hset : ∀ j e p j', (pd s j e p).set 1 (Z j') = pd s j' e p := fun _ _ _ _ => rfl
    simp only [nd0, Y1n, Y1o, Y1p, Y1q, Y1w, Y1x, Y1y, Y1z, Y20, Y21, Y28, Y2a, AV.cells?, Nat.reduceAdd, Nat.reduceMul, p2, show decide ((0 : Int) = 0) = true from rfl, decide_eq_false (show ¬ (20 : Int) ≤ ((20 - (d + 1) : Nat) : Int) by omega)]
    refine wCall.pc (b := 0) (rnext_spec B s i 0 (-1) hi hs) rfl rfl ?_
    rintro r cs n2 ⟨rfl, rfl⟩
    have hk := skipTo_len hi
    have hid := skipTo_idem s i
    have hnx := fun (c : UInt8) (hc : c ≠ 0) => nextC_eq (s := s) (i := i) hc
    have hget := fun (c : UInt8) => nextC_get (s := s) (i := i) (c := c)
    unfold oneR at hR
    generalize skipTo s i = k at hk hid hR hnx hget
    generalize nextC s i = N at hnx hget
    have hstep : ∀ n, k + 1 ≤ s.length → binA .add (Z (k : Int)) (Z 1) = some (Z ((k + 1 : Nat) : Int)) ∧ store1 (.ptrL 0 (0 + 1) g) (Z ((k + 1 : Nat) : Int)) ⟨[.cells g 4 (pd s k 0 (-1))], n⟩ = some ⟨[.cells g 4 (pd s ((k + 1 : Nat) : Int) 0 (-1))], n⟩ := fun n h => by
      refine ⟨binA_succ (by omega), ?_⟩
      rw [store1_L rfl]
      simp [blkDo, pd]
    simp only [nd0, Y1n, Y1o, Y1p, Y1q, Y1w, Y1x, Y1y, Y1z, Y20, Y21, Y28, Y2a, AV.cells?, Nat.reduceAdd, Nat.reduceMul]
    have e33 : (N.toNat : Int) = 33 ↔ s[k]? = some 33 := hnx 33 (by decide)
    by_cases h33 : s[k]? = some 33
    · rw [if_pos h33] at hR
      have hlt := lt_of_get h33
      simp only [nd0, Y1n, Y1o, Y1p, Y1q, Y1w, Y1x, Y1y, Y1z, Y20, Y21, Y28, Y2a, AV.cells?, Nat.reduceAdd, Nat.reduceMul, decide_eq_true (e33.2 h33), p1]
      rw [binA_succ (by omega)]
      simp only [nd0, Y1n, Y1o, Y1p, Y1q, Y1w, Y1x, Y1y, Y1z, Y20, Y21, Y28, Y2a, AV.cells?, Nat.reduceAdd, Nat.reduceMul]
      rw [store1_L rfl]
      simp only [nd0, Y1n, Y1o, Y1p, Y1q, Y1w, Y1x, Y1y, Y1z, Y20, Y21, Y28, Y2a, AV.cells?, Nat.reduceAdd, Nat.reduceMul, plen, hset, hadd]
      refine wCall.pc (b := 0) (ih (k + 1) (by omega)) rfl rfl ?_
      intro r cs n3 hr
      cases hx : oneR s d (k + 1) with
      | no e p =>
        rw [hx] at hr hR
        obtain ⟨h1, h2, j, rfl⟩ := hr
        refine wNewS.F' (l := [r]) (hsc r h2) rfl ?_
        simp only [nd0, Y1n, Y1o, Y1p, Y1q, Y1w, Y1x, Y1y, Y1z, Y20, Y21, Y28, Y2a, AV.cells?, Nat.reduceAdd, Nat.reduceMul, show fillA [S [], S [], nilS] [(0, 1, S [33]), (2, 1, .slN [r] 1)] = some [S [33], S [], .slN [r] 1] from rfl]
        refine wNew.F' rfl ?_
        exact hR _ _ _ [] n3 (.same _) ⟨⟨trivial, trivial, ⟨h1, trivial⟩, trivial⟩, rfl, j, rfl⟩
      | ok x j =>
        rw [hx] at hr hR
        obtain ⟨rfl, rfl⟩ := hr
        refine wNewS.F' (l := [x.ref]) (hsc _ (Ex.ref_scalar x)) rfl ?_
        simp only [nd0, Y1n, Y1o, Y1p, Y1q, Y1w, Y1x, Y1y, Y1z, Y20, Y21, Y28, Y2a, AV.cells?, Nat.reduceAdd, Nat.reduceMul, show fillA [S [], S [], nilS] [(0, 1, S [33]), (2, 1, .slN [x.ref] 1)] = some [S [33], S [], .slN [x.ref] 1] from rfl]
        refine wNew.F' rfl ?_
        exact hR _ _ _ [] n3 (.same _) ⟨rfl, rfl⟩
    rw [if_neg h33] at hR
    simp only [nd0, Y1n, Y1o, Y1p, Y1q, Y1w, Y1x, Y1y, Y1z, Y20, Y21, Y28, Y2a, AV.cells?, Nat.reduceAdd, Nat.reduceMul, decide_eq_false (fun h => h33 (e33.1 h))]
    have e40 : (N.toNat : Int) = 40 ↔ s[k]? = some 40 := hnx 40 (by decide)
    by_cases h40 : s[k]? = some 40
    · rw [if_pos h40] at hR
      have hlt := lt_of_get h40
      simp only [nd0, Y1n, Y1o, Y1p, Y1q, Y1w, Y1x, Y1y, Y1z, Y20, Y21, Y28, Y2a, AV.cells?, Nat.reduceAdd, Nat.reduceMul, decide_eq_true (e40.2 h40), p1]
      rw [binA_succ (by omega)]
      simp only [nd0, Y1n, Y1o, Y1p, Y1q, Y1w, Y1x, Y1y, Y1z, Y20, Y21, Y28, Y2a, AV.cells?, Nat.reduceAdd, Nat.reduceMul]
      rw [store1_L rfl]
      simp only [nd0, Y1n, Y1o, Y1p, Y1q, Y1w, Y1x, Y1y, Y1z, Y20, Y21, Y28, Y2a, AV.cells?, Nat.reduceAdd, Nat.reduceMul, plen, hset, hadd]
      refine wCall.pc (b := 0) (whole_spec B s hs (oneR s d) hgood herr _ ih (k + 1) (by omega)) rfl rfl ?_
      intro r cs n3 hr
      cases hx : orR s (oneR s d) (k + 1) with
      | no e p =>
        rw [hx] at hr hR
        have he : e ≠ 0 := allR_err (allR_err herr) _ _ _ hx
        obtain ⟨h1, h2, j, rfl⟩ := hr
        simp only [nd0, Y1n, Y1o, Y1p, Y1q, Y1w, Y1x, Y1y, Y1z, Y20, Y21, Y28, Y2a, AV.cells?, Nat.reduceAdd, Nat.reduceMul, p2, p1, decide_eq_false (show ¬ (e : Int) = 0 by omega), binA_add']
        rw [store1_L rfl]
        simp only [nd0, Y1n, Y1o, Y1p, Y1q, Y1w, Y1x, Y1y, Y1z, Y20, Y21, Y28, Y2a, AV.cells?, Nat.reduceAdd, Nat.reduceMul, plen, hset]
        exact hR _ _ (pd s _ e p) [] n3 (.same _) ⟨h1, h2, _, rfl⟩
      | ok x j =>
        rw [hx] at hr hR
        obtain ⟨rfl, rfl⟩ := hr
        obtain ⟨a1, a2, a3, a4⟩ := orR_good hgood _ x j (by omega) hx
        have b2 := skipTo_len a2
        simp only [nd0, Y1n, Y1o, Y1p, Y1q, Y1w, Y1x, Y1y, Y1z, Y20, Y21, Y28, Y2a, AV.cells?, Nat.reduceAdd, Nat.reduceMul, p2, show decide ((0 : Int) = 0) = true from rfl]
        refine wCall.pc (b := 0) (rnext_spec B s j 0 (-1) a2 hs) rfl rfl ?_
        rintro r cs n4 ⟨rfl, rfl⟩
        simp only [closeR] at hR
        have e41 : ((nextC s j).toNat : Int) = 41 ↔ s[skipTo s j]? = some 41 := nextC_eq (c := 41) (by decide)
        by_cases h41 : s[skipTo s j]? = some 41
        · rw [if_pos h41] at hR
          have hlt2 := lt_of_get h41
          simp only [nd0, Y1n, Y1o, Y1p, Y1q, Y1w, Y1x, Y1y, Y1z, Y20, Y21, Y28, Y2a, AV.cells?, Nat.reduceAdd, Nat.reduceMul, decide_eq_true (e41.2 h41), p1]
          rw [binA_succ (by omega)]
          simp only [nd0, Y1n, Y1o, Y1p, Y1q, Y1w, Y1x, Y1y, Y1z, Y20, Y21, Y28, Y2a, AV.cells?, Nat.reduceAdd, Nat.reduceMul]
          rw [store1_L rfl]
          simp only [nd0, Y1n, Y1o, Y1p, Y1q, Y1w, Y1x, Y1y, Y1z, Y20, Y21, Y28, Y2a, AV.cells?, Nat.reduceAdd, Nat.reduceMul, plen, hset]
          exact hR _ _ (pd s _ 0 (-1)) [] n4 (.same _) ⟨rfl, rfl⟩
        · rw [if_neg h41] at hR
          simp only [nd0, Y1n, Y1o, Y1p, Y1q, Y1w, Y1x, Y1y, Y1z, Y20, Y21, Y28, Y2a, AV.cells?, Nat.reduceAdd, Nat.reduceMul, decide_eq_false (fun h => h41 (e41.1 h))]
          refine wCall.pc (b := 0) (rfail_spec B s (skipTo s j) 3 b2 hs) rfl rfl ?_
          rintro r cs n5 ⟨rfl, rfl⟩
          exact hR _ _ _ [] n5 (.same _) ⟨trivial, rfl, _, by rw [skipTo_idem]⟩
    rw [if_neg h40] at hR
    simp only [nd0, Y1n, Y1o, Y1p, Y1q, Y1w, Y1x, Y1y, Y1z, Y20, Y21, Y28, Y2a, AV.cells?, Nat.reduceAdd, Nat.reduceMul, decide_eq_false (fun h => h40 (e40.1 h))]
    have e48 : (N.toNat : Int) = 48 ↔ s[k]? = some 48 := hnx 48 (by decide)
    have e49 : (N.toNat : Int) = 49 ↔ s[k]? = some 49 := hnx 49 (by decide)
    have e94 : (N.toNat : Int) = 94 ↔ s[k]? = some 94 := hnx 94 (by decide)
    have e126 : (N.toNat : Int) = 126 ↔ s[k]? = some 126 := hnx 126 (by decide)
    refine or_join (x := 0) fun n3 => ?_
    by_cases hk1 : s[k]? = some 48 ∨ s[k]? = some 49
    · have hb : (decide ((N.toNat : Int) = 48) || decide ((N.toNat : Int) = 49)) = true := by
        rcases hk1 with h | h
        · rw [decide_eq_true (e48.2 h)]; rfl
        · rw [decide_eq_true (e49.2 h), Bool.or_true]
      have hlt : k < s.length := by rcases hk1 with h | h <;> exact lt_of_get h
      have hN : N.toNat < 128 := by rcases hk1 with h | h <;> rw [hget _ h] <;> decide
      rw [hb]
      simp only [nd0, Y1n, Y1o, Y1p, Y1q, Y1w, Y1x, Y1y, Y1z, Y20, Y21, Y28, Y2a, AV.cells?, Nat.reduceAdd, Nat.reduceMul, p1]
      rw [binA_succ (by omega)]
      simp only [nd0, Y1n, Y1o, Y1p, Y1q, Y1w, Y1x, Y1y, Y1z, Y20, Y21, Y28, Y2a, AV.cells?, Nat.reduceAdd, Nat.reduceMul]
      rw [store1_L rfl]
      simp only [nd0, Y1n, Y1o, Y1p, Y1q, Y1w, Y1x, Y1y, Y1z, Y20, Y21, Y28, Y2a, AV.cells?, Nat.reduceAdd, Nat.reduceMul, plen, hset, conv_byte N hN, show fillA [S [], S [], nilS] [(0, 1, S [N])] = some [S [N], S [], nilS] from rfl]
      refine wNew.F' rfl ?_
      rcases hk1 with h | h
      · rw [if_pos h] at hR
        rw [hget _ h]
        exact hR _ _ (pd s _ 0 (-1)) [] n3 (.same _) ⟨rfl, rfl⟩
      · rw [if_neg (by rw [h]; decide), if_pos h] at hR
        rw [hget _ h]
        exact hR _ _ (pd s _ 0 (-1)) [] n3 (.same _) ⟨rfl, rfl⟩
    have h48 : ¬ s[k]? = some 48 := fun h => hk1 (.inl h)
    have h49 : ¬ s[k]? = some 49 := fun h => hk1 (.inr h)
    rw [if_neg h48, if_neg h49] at hR
    have hb : (decide ((N.toNat : Int) = 48) || decide ((N.toNat : Int) = 49)) = false := by
      rw [decide_eq_false (fun h => h48 (e48.1 h)), decide_eq_false (fun h => h49 (e49.1 h))]; rfl
    rw [hb]
    simp only [nd0, Y1n, Y1o, Y1p, Y1q, Y1w, Y1x, Y1y, Y1z, Y20, Y21, Y28, Y2a, AV.cells?, Nat.reduceAdd, Nat.reduceMul]
    refine or_join (x := 0) fun n4 => ?_
    by_cases hk2 : s[k]? = some 94 ∨ s[k]? = some 126
    · have hb : (decide ((N.toNat : Int) = 94) || decide ((N.toNat : Int) = 126)) = true := by
        rcases hk2 with h | h
        · rw [decide_eq_true (e94.2 h)]; rfl
        · rw [decide_eq_true (e126.2 h), Bool.or_true]
      have hlt : k < s.length := by rcases hk2 with h | h <;> exact lt_of_get h
      have hN : N.toNat < 128 := by rcases hk2 with h | h <;> rw [hget _ h] <;> decide
      rw [hb]
      simp only [nd0, Y1n, Y1o, Y1p, Y1q, Y1w, Y1x, Y1y, Y1z, Y20, Y21, Y28, Y2a, AV.cells?, Nat.reduceAdd, Nat.reduceMul, p1]
      rw [binA_succ (by omega)]
      simp only [nd0, Y1n, Y1o, Y1p, Y1q, Y1w, Y1x, Y1y, Y1z, Y20, Y21, Y28, Y2a, AV.cells?, Nat.reduceAdd, Nat.reduceMul]
      rw [store1_L rfl]
      simp only [nd0, Y1n, Y1o, Y1p, Y1q, Y1w, Y1x, Y1y, Y1z, Y20, Y21, Y28, Y2a, AV.cells?, Nat.reduceAdd, Nat.reduceMul, plen, hset, conv_byte N hN]
      refine wCall.pc (b := 0) (rword_spec B s (k + 1) (by omega) hs) rfl rfl ?_
      intro r cs n5 hr
      have hR2 : ∀ x cs, PR s ((wordR s (k + 1)).map (if N = 94 then Ex.rise else Ex.fall)) x cs → ∀ n, R x ⟨[.cells g 4 cs], n⟩ := by
        intro x cs hp n
        refine hR x x cs [] n (.same _) ?_
        rcases hk2 with h | h
        · rw [if_pos h]
          rw [if_pos (hget _ h)] at hp
          exact hp
        · rw [if_neg (by rw [h]; decide), if_pos h]
          rw [if_neg (by rw [hget _ h]; decide)] at hp
          exact hp
      have hNx : N = 94 ∨ N = 126 := by rcases hk2 with h | h; exact .inl (hget _ h); exact .inr (hget _ h)
      cases hx : wordR s (k + 1) with
      | no e p =>
        rw [hx] at hr hR2
        obtain ⟨w, rfl, j, rfl⟩ := hr
        simp only [nd0, Y1n, Y1o, Y1p, Y1q, Y1w, Y1x, Y1y, Y1z, Y20, Y21, Y28, Y2a, AV.cells?, Nat.reduceAdd, Nat.reduceMul, show fillA [S [], S [], nilS] [(0, 1, S [N]), (1, 1, S w)] = some [S [N], S w, nilS] from rfl]
        refine wNew.F' rfl ?_
        exact hR2 (.ptrF [S [N], S w, nilS] 0) (pd s j e p) ⟨⟨trivial, trivial, trivial, trivial⟩, rfl, j, rfl⟩ _
      | ok w j =>
        rw [hx] at hr hR2
        obtain ⟨rfl, rfl⟩ := hr
        simp only [nd0, Y1n, Y1o, Y1p, Y1q, Y1w, Y1x, Y1y, Y1z, Y20, Y21, Y28, Y2a, AV.cells?, Nat.reduceAdd, Nat.reduceMul, show fillA [S [], S [], nilS] [(0, 1, S [N]), (1, 1, S w)] = some [S [N], S w, nilS] from rfl]
        refine wNew.F' rfl ?_
        refine hR2 _ _ ⟨?_, rfl⟩ _
        rcases hNx with rfl | rfl <;> rfl
    have h94 : ¬ s[k]? = some 94 := fun h => hk2 (.inl h)
    have h126 : ¬ s[k]? = some 126 := fun h => hk2 (.inr h)
    rw [if_neg h94, if_neg h126] at hR
    have hb : (decide ((N.toNat : Int) = 94) || decide ((N.toNat : Int) = 126)) = false := by
      rw [decide_eq_false (fun h => h94 (e94.1 h)), decide_eq_false (fun h => h126 (e126.1 h))]; rfl
    rw [hb]
    simp only [nd0, Y1n, Y1o, Y1p, Y1q, Y1w, Y1x, Y1y, Y1z, Y20, Y21, Y28, Y2a, AV.cells?, Nat.reduceAdd, Nat.reduceMul]
    refine wCall.pc (b := 0) (rword_spec B s k hk hs) rfl rfl ?_
    intro r cs n5 hr
    cases hx : wordR s k with
    | no e p =>
      rw [hx] at hr hR
      obtain ⟨w, rfl, j, rfl⟩ := hr
      simp only [nd0, Y1n, Y1o, Y1p, Y1q, Y1w, Y1x, Y1y, Y1z, Y20, Y21, Y28, Y2a, AV.cells?, Nat.reduceAdd, Nat.reduceMul, show fillA [S [], S [], nilS] [(0, 1, S [98, 105, 116]), (1, 1, S w)] = some [S [98, 105, 116], S w, nilS] from rfl]
      refine wNew.F' rfl ?_
      exact hR _ _ _ [] n5 (.same _) ⟨⟨trivial, trivial, trivial, trivial⟩, rfl, j, rfl⟩
    | ok w j =>
      rw [hx] at hr hR
      obtain ⟨rfl, rfl⟩ := hr
      simp only [nd0, Y1n, Y1o, Y1p, Y1q, Y1w, Y1x, Y1y, Y1z, Y20, Y21, Y28, Y2a, AV.cells?, Nat.reduceAdd, Nat.reduceMul, show fillA [S [], S [], nilS] [(0, 1, S [98, 105, 116]), (1, 1, S w)] = some [S [98, 105, 116], S w, nilS] from rfl]
      refine wNew.F' rfl ?_
      exact hR _ _ _ [] n5 (.same _) ⟨rfl, rfl⟩
/-- what the document's ExprParse answers -/
def refParseA (s : Str) : AV := if 2000 < s.length then .tup [nilP, .agg [Z 4, Z (-1)]] else match parseR s with
  | .ok x _ => .tup [x.ref, .agg [Z 0, Z (-1)]]
  | .no e p => .tup [nilP, .agg [Z e, Z p]]
theorem refParseA_closed (s : Str) : (refParseA s).closed := by
  unfold refParseA
  split
  · exact ⟨trivial, ⟨trivial, trivial, trivial⟩, trivial⟩
  split
  · exact ⟨Ex.ref_closed _, ⟨trivial, trivial, trivial⟩, trivial⟩
  · exact ⟨trivial, ⟨trivial, trivial, trivial⟩, trivial⟩
theorem ret_pf (a : AV) (b : List AV) : retPack [some a, some (.agg b)] = some (.tup [a, .agg b]) := rfl
theorem Bare_spec' (B : RefReadBodies E P) (e : Int) : FX E P 87 [Z e] (.agg [Z e, Z (-1)]) := Bare_spec B.bare e
theorem ExprParse_spec (B : RefReadBodies E P) (s : Str) : FX E P 125 [S s] (refParseA s) := by
  refine FX.of' ⟨trivial, trivial⟩ (refParseA_closed s) fun n R hR => B.parse _ _ _ ?_
  have gfine : gptr E 5 = .ptrF [Z 0, Z (-1)] 0 := by simp [gptr, B.fine]
  unfold F.ref_ExprParse
  unfold refParseA at hR
  refine wNew.L (l := [Z 0, Z 0]) rfl ?_
  simp only [nd0, Y1n, Y1o, Y1p, Y1q, Y1w, Y1x, Y1y, Y1z, Y20, Y21, Y28, Y2a, AV.cells?, Nat.reduceAdd, Nat.reduceMul]
  by_cases hl : 2000 < s.length
  · rw [if_pos hl] at hR
    simp only [nd0, Y1n, Y1o, Y1p, Y1q, Y1w, Y1x, Y1y, Y1z, Y20, Y21, Y28, Y2a, AV.cells?, Nat.reduceAdd, Nat.reduceMul, decide_eq_true (show (2000 : Int) < (s.length : Int) by omega)]
    refine wCall.fx (Bare_spec' B 4) fun n => ?_
    simp only [nd0, Y1n, Y1o, Y1p, Y1q, Y1w, Y1x, Y1y, Y1z, Y20, Y21, Y28, Y2a, AV.cells?, Nat.reduceAdd, Nat.reduceMul]
    rw [storeN_L (n := 2) (xs := [Z 4, Z (-1)]) rfl rfl]
    simp only [nd0, Y1n, Y1o, Y1p, Y1q, Y1w, Y1x, Y1y, Y1z, Y20, Y21, Y28, Y2a, AV.cells?, Nat.reduceAdd, Nat.reduceMul, put_two, ret_pf]
    exact hR _ _ rfl
  rw [if_neg hl] at hR
  simp only [nd0, Y1n, Y1o, Y1p, Y1q, Y1w, Y1x, Y1y, Y1z, Y20, Y21, Y28, Y2a, AV.cells?, Nat.reduceAdd, Nat.reduceMul, decide_eq_false (show ¬ (2000 : Int) < (s.length : Int) by omega), gfine, show fillA [S [], Z 0, Z 0, Z 0] [(0, 1, S s), (2, 2, .agg [Z 0, Z (-1)])] = some (pd s 0 0 (-1)) from rfl, show (AV.val (.string ⟨#[]⟩)) = S [] from rfl]
  refine wNew.L (l := pd s 0 0 (-1)) rfl ?_
  have hs : s.length < 1000000 := by omega
  have hgood := oneR_good s 20
  have herr := oneR_err s 20
  simp only [nd0, Y1n, Y1o, Y1p, Y1q, Y1w, Y1x, Y1y, Y1z, Y20, Y21, Y28, Y2a, AV.cells?, Nat.reduceAdd, Nat.reduceMul]
  refine wCall.pc (b := 1) (whole_spec B s hs (oneR s 20) hgood herr 0 (piece_spec B s hs 20 (by omega)) 0 (by omega)) rfl rfl ?_
  intro r cs n2 hr
  have p1 : ∀ j e p, (pd s j e p)[1]? = some (Z j) := fun _ _ _ => rfl
  have p2 : ∀ j e p, (pd s j e p)[2]? = some (Z e) := fun _ _ _ => rfl
  have psub : ∀ j e p, subL (pd s j e p) 2 2 = some [Z e, Z p] := fun _ _ _ => rfl
  unfold parseR at hR
  cases hx : orR s (oneR s 20) 0 with
  | no e p =>
    rw [hx] at hr hR
    have he : e ≠ 0 := allR_err (allR_err herr) _ _ _ hx
    obtain ⟨h1, h2, j, rfl⟩ := hr
    refine wJoin.zero (fun H => ∃ c, H = ⟨[.cells n 2 [Z 0, Z 0], .cells (n + 1) 4 (pd s j e p)], c⟩) ?_ ?_
    · simp only [nd0, Y1n, Y1o, Y1p, Y1q, Y1w, Y1x, Y1y, Y1z, Y20, Y21, Y28, Y2a, AV.cells?, Nat.reduceAdd, Nat.reduceMul, p2, decide_eq_false (show ¬ (e : Int) = 0 by omega)]
      exact gh0.mk ⟨_, rfl⟩
    · rintro H ⟨c, rfl⟩
      simp only [nd0, Y1n, Y1o, Y1p, Y1q, Y1w, Y1x, Y1y, Y1z, Y20, Y21, Y28, Y2a, AV.cells?, Nat.reduceAdd, Nat.reduceMul, p2, decide_eq_false (show ¬ (e : Int) = 0 by omega), psub, and_self, true_and]
      rw [storeN_L (n := 2) (xs := [Z e, Z p]) rfl rfl]
      simp only [nd0, Y1n, Y1o, Y1p, Y1q, Y1w, Y1x, Y1y, Y1z, Y20, Y21, Y28, Y2a, AV.cells?, Nat.reduceAdd, Nat.reduceMul, put_two, ret_pf]
      exact hR _ _ rfl
  | ok x j =>
    rw [hx] at hr hR
    obtain ⟨rfl, rfl⟩ := hr
    obtain ⟨a1, a2, a3, a4⟩ := orR_good hgood _ x j (by omega) hx
    have b2 := skipTo_len a2
    refine wJoin.zero (fun H => ∃ c, H = ⟨[.cells n 2 [Z 0, Z 0], .cells (n + 1) 4 (if skipTo s j < s.length then pd s (skipTo s j) 3 (skipTo s j) else pd s (skipTo s j) 0 (-1))], c⟩) ?_ ?_
    · simp only [nd0, Y1n, Y1o, Y1p, Y1q, Y1w, Y1x, Y1y, Y1z, Y20, Y21, Y28, Y2a, AV.cells?, Nat.reduceAdd, Nat.reduceMul, p2, show decide ((0 : Int) = 0) = true from rfl]
      refine wCall.pc (b := 1) (rnext_spec B s j 0 (-1) a2 hs) rfl rfl ?_
      rintro r cs n4 ⟨rfl, rfl⟩
      have hfail : skipTo s j < s.length → ∀ c, wCall E P 132 [.ptrL 1 0 (n + 1), Z 3] ⟨[.cells n 2 [Z 0, Z 0], .cells (n + 1) 4 (pd s (skipTo s j) 0 (-1))], c⟩ fun _ H => gh0 (fun H => ∃ c, H = ⟨[.cells n 2 [Z 0, Z 0], .cells (n + 1) 4 (if skipTo s j < s.length then pd s (skipTo s j) 3 (skipTo s j) else pd s (skipTo s j) 0 (-1))], c⟩) H := fun hlt c => by
        refine wCall.pc (b := 1) (rfail_spec B s (skipTo s j) 3 b2 hs) rfl rfl ?_
        rintro r cs n5 ⟨rfl, rfl⟩
        refine gh0.mk ⟨n5, ?_⟩
        rw [if_pos hlt, skipTo_idem]; rfl
      by_cases hz : nextC s j = 0
      · simp only [nd0, Y1n, Y1o, Y1p, Y1q, Y1w, Y1x, Y1y, Y1z, Y20, Y21, Y28, Y2a, AV.cells?, Nat.reduceAdd, Nat.reduceMul, hz, show decide ((((0 : UInt8).toNat : Nat) : Int) = 0) = true from rfl, p2, p1, show decide ((0 : Int) = 0) = true from rfl]
        by_cases hlt : skipTo s j < s.length
        · simp only [nd0, Y1n, Y1o, Y1p, Y1q, Y1w, Y1x, Y1y, Y1z, Y20, Y21, Y28, Y2a, AV.cells?, Nat.reduceAdd, Nat.reduceMul, decide_eq_true (show ((skipTo s j : Nat) : Int) < (s.length : Int) by omega)]
          exact hfail hlt _
        · simp only [nd0, Y1n, Y1o, Y1p, Y1q, Y1w, Y1x, Y1y, Y1z, Y20, Y21, Y28, Y2a, AV.cells?, Nat.reduceAdd, Nat.reduceMul, decide_eq_false (show ¬ ((skipTo s j : Nat) : Int) < (s.length : Int) by omega)]
          exact gh0.mk ⟨_, by rw [if_neg hlt]⟩
      · have hlt : skipTo s j < s.length := by
          have : ¬ s.length ≤ skipTo s j := fun h => hz (by unfold nextC; rw [List.getElem?_eq_none h]; rfl)
          omega
        have hz2 : ¬ ((nextC s j).toNat : Int) = 0 := fun h => hz (UInt8.toNat_inj.1 (by simp; omega))
        simp only [nd0, Y1n, Y1o, Y1p, Y1q, Y1w, Y1x, Y1y, Y1z, Y20, Y21, Y28, Y2a, AV.cells?, Nat.reduceAdd, Nat.reduceMul, decide_eq_false hz2]
        exact hfail hlt _
    · rintro H ⟨c, rfl⟩
      by_cases hlt : skipTo s j < s.length
      · simp only [if_pos hlt] at hR ⊢
        simp only [nd0, Y1n, Y1o, Y1p, Y1q, Y1w, Y1x, Y1y, Y1z, Y20, Y21, Y28, Y2a, AV.cells?, Nat.reduceAdd, Nat.reduceMul, p2, show decide ((3 : Int) = 0) = false from rfl, psub, and_self, true_and]
        rw [storeN_L (n := 2) (xs := [Z 3, Z (skipTo s j)]) rfl rfl]
        simp only [nd0, Y1n, Y1o, Y1p, Y1q, Y1w, Y1x, Y1y, Y1z, Y20, Y21, Y28, Y2a, AV.cells?, Nat.reduceAdd, Nat.reduceMul, put_two, ret_pf]
        exact hR _ _ rfl
      · simp only [if_neg hlt] at hR ⊢
        simp only [nd0, Y1n, Y1o, Y1p, Y1q, Y1w, Y1x, Y1y, Y1z, Y20, Y21, Y28, Y2a, AV.cells?, Nat.reduceAdd, Nat.reduceMul, p2, show decide ((0 : Int) = 0) = true from rfl, psub, and_self, true_and, gfine]
        rw [storeN_L (n := 2) (xs := [Z 0, Z (-1)]) rfl rfl]
        simp only [nd0, Y1n, Y1o, Y1p, Y1q, Y1w, Y1x, Y1y, Y1z, Y20, Y21, Y28, Y2a, AV.cells?, Nat.reduceAdd, Nat.reduceMul, put_two, ret_pf]
        exact hR _ _ rfl
end
end Go.Sc
namespace Go.Sc
open Go
set_option linter.unusedSimpArgs false
set_option linter.unusedVariables false
set_option linter.unnecessarySimpa false
theorem binA_cat {s t : Str} (h : s.length + t.length ≤ 4611686018427387904) : binA .add (S s) (S t) = some (S (s ++ t)) := by
  have h1 : ¬ (((⟨s.toArray⟩ : ByteArray).size + (⟨t.toArray⟩ : ByteArray).size : Nat) : Int) > IntKind.i64.max := by
    simp [ByteArray.size, IntKind.max, IntKind.bits, IntKind.signed]; omega
  simp only [binA, strBin, if_neg h1, Option.map_some]
  congr 3
def Ex.kind : Ex → Str
  | .k b => if b then [49] else [48]
  | .bit _ => [98, 105, 116]
  | .rise _ => [94]
  | .fall _ => [126]
  | .not _ => [33]
  | .and _ => [38]
  | .or _ => [124]
def Ex.nm : Ex → Str
  | .bit s => s
  | .rise s => s
  | .fall s => s
  | _ => []
def Ex.of : Ex → AV
  | .not x => .slN [x.ref] 1
  | .and l => .slN (Ex.refL l) l.length
  | .or l => .slN (Ex.refL l) l.length
  | _ => nilS
theorem Ex.ref_eq (x : Ex) : x.ref = .ptrF [S x.kind, S x.nm, x.of] 0 := by cases x <;> rfl
theorem Ex.wt_mem {x : Ex} : ∀ {l : List Ex}, x ∈ l → x.wt ≤ Ex.wtL l
  | y :: l, h => by
    rcases List.mem_cons.1 h with rfl | h
    · simp only [Ex.wtL]; omega
    · have := Ex.wt_mem h; simp only [Ex.wtL]; omega
theorem Ex.fine_mem {x : Ex} : ∀ {l : List Ex}, Ex.fineL l → x ∈ l → x.fine
  | y :: l, h, hx => by
    rcases List.mem_cons.1 hx with rfl | hx
    · exact h.1
    · exact Ex.fine_mem h.2 hx
theorem Ex.len_wtL : ∀ {l : List Ex}, Ex.fineL l → l.length ≤ Ex.wtL l
  | [], _ => by simp
  | x :: l, h => by
    have h2 := Ex.len_wtL h.2
    have : 1 ≤ x.wt := by
      have h1 := h.1
      cases x with
      | bit s => cases s with
        | nil => simp [Ex.fine, nameOk] at h1
        | cons a b => simp [Ex.wt]
      | _ => simp only [Ex.wt]; omega
    simp only [Ex.wtL, List.length_cons]; omega
theorem Lm_S {l : List Str} : Lm S l = .slN (l.map fun s => S s) l.length := rfl
section
variable {E : Env} {P : Program}
theorem asA {k k' : Nat} {z a : AV} : assertA k z (.ifc k' a) = some (if k' = k then .tup [a, Bo true] else .tup [z, Bo false]) := by
  simp only [assertA]; split <;> rfl
end
end Go.Sc
namespace Go.Sc.F
open Go Go.Sc
set_option linter.unusedVariables false
/-- signalbox/expr.Size -/
def expr_Size (E : Env) (P : Program) (a0 : AV) (H : AH) (R : Kt) : Prop :=
  wNew 1 (some [(.val (.int .i64 0))]) H fun t3 H =>
  wPut (store1 t3 (.val (.int .i64 0)) H) fun _u H =>
  wCall E P 161 [a0, (.fn 160 [] [t3])] H fun t6 H =>
  wGet (load1 t3 H) H fun t7 H =>
  R t7 H

/-- signalbox/expr.walk -/
def expr_walk (E : Env) (P : Program) (a0 a1 : AV) (H : AH) (R : Kt) : Prop :=
  wCallV E P a1 [a0] H fun t13 H =>
  wGet (assertA 10 (.agg [(.val (.nilIface))]) a0) H fun t15 H =>
  wGet (extractA t15 1) H fun t16 H =>
  wGet (extractA t15 0) H fun t17 H =>
  wIf t16 (
    wNew 1 (some [(.val (.nilIface))]) H fun t4 H =>
    wPut (storeN 1 t4 t17 H) fun _u H =>
    wGet (faddr 0 t4) H fun t18 H =>
    wGet (load1 t18 H) H fun t19 H =>
    wCall E P 161 [t19, a1] H fun t21 H =>
    R (.tup []) H) (
    wGet (assertA 9 (.val (.slice none 0 0)) a0) H fun t22 H =>
    wGet (extractA t22 1) H fun t23 H =>
    wGet (extractA t22 0) H fun t24 H =>
    wIf t23 (
      wGet (lenA t24) H fun t26 H =>
      wLoop 1 (fun I1 => I1 (.val (.int .i64 0)) H) fun I1 t27 H =>
        wGet (binA .lss t27 t26) H fun t28 H =>
        wIf t28 (
          wGet (iaddr 1 t24 t27) H fun t29 H =>
          wGet (load1 t29 H) H fun t30 H =>
          wCall E P 161 [t30, a1] H fun t33 H =>
          wGet (binA .add t27 (.val (.int .i64 1))) H fun t34 H =>
          I1 t34 H) (
          R (.tup []) H)) (
      wGet (assertA 8 (.val (.slice none 0 0)) a0) H fun t35 H =>
      wGet (extractA t35 1) H fun t36 H =>
      wGet (extractA t35 0) H fun t37 H =>
      wIf t36 (
        wGet (lenA t37) H fun t39 H =>
        wLoop 1 (fun I2 => I2 (.val (.int .i64 0)) H) fun I2 t40 H =>
          wGet (binA .lss t40 t39) H fun t41 H =>
          wIf t41 (
            wGet (iaddr 1 t37 t40) H fun t42 H =>
            wGet (load1 t42 H) H fun t43 H =>
            wCall E P 161 [t43, a1] H fun t46 H =>
            wGet (binA .add t40 (.val (.int .i64 1))) H fun t47 H =>
            I2 t47 H) (
            R (.tup []) H)) (
        R (.tup []) H)))

/-- signalbox/expr.Size$1 -/
def expr_Size_c1 (E : Env) (P : Program) (a0 a1 : AV) (H : AH) (R : Kt) : Prop :=
  wGet (load1 a1 H) H fun t3 H =>
  wGet (binA .add t3 (.val (.int .i64 1))) H fun t4 H =>
  wPut (store1 a1 t4 H) fun _u H =>
  R (.tup []) H

end Go.Sc.F
namespace Go.Sc
open Go
set_option linter.unusedSimpArgs false
set_option linter.unusedVariables false
set_option linter.unnecessarySimpa false
/-! ### what it says -/
mutual
def Ex.says (p q : Str → Bool) : Ex → Bool
  | .k b => b
  | .bit s => p s
  | .rise s => p s && !q s
  | .fall s => !p s && q s
  | .not x => !x.says p q
  | .and l => Ex.allL p q l
  | .or l => Ex.anyL p q l
def Ex.allL (p q : Str → Bool) : List Ex → Bool
  | [] => true
  | x :: l => x.says p q && Ex.allL p q l
def Ex.anyL (p q : Str → Bool) : List Ex → Bool
  | [] => false
  | x :: l => x.says p q || Ex.anyL p q l
end
mutual
def Ex.size : Ex → Nat
  | .not x => x.size + 1
  | .and l => Ex.sizeL l + 1
  | .or l => Ex.sizeL l + 1
  | _ => 1
def Ex.sizeL : List Ex → Nat
  | [] => 0
  | x :: l => x.size + Ex.sizeL l
end
mutual
theorem Ex.size_wt : ∀ x : Ex, x.fine → x.size ≤ x.wt
  | .k _, _ => by simp [Ex.size, Ex.wt]
  | .bit s, h => by
    cases s with
    | nil => simp [Ex.fine, nameOk] at h
    | cons a b => simp [Ex.size, Ex.wt]
  | .rise _, _ => by simp [Ex.size, Ex.wt]
  | .fall _, _ => by simp [Ex.size, Ex.wt]
  | .not x, h => by have := Ex.size_wt x h; simp only [Ex.size, Ex.wt]; omega
  | .and l, h => by have := Ex.sizeL_wt l h.2; simp only [Ex.size, Ex.wt]; omega
  | .or l, h => by have := Ex.sizeL_wt l h.2; simp only [Ex.size, Ex.wt]; omega
theorem Ex.sizeL_wt : ∀ l : List Ex, Ex.fineL l → Ex.sizeL l ≤ Ex.wtL l
  | [], _ => by simp [Ex.sizeL, Ex.wtL]
  | x :: l, h => by have h1 := Ex.size_wt x h.1; have h2 := Ex.sizeL_wt l h.2; simp only [Ex.sizeL, Ex.wtL]; omega
end
/-- a question of names -/
structure Asks (E : Env) (P : Program) (f : AV) (p : Str → Bool) : Prop where
  ok : ∃ k cc, f = .fn k [] cc ∧ AV.closedL cc ∧ ∀ s, FX E P k ([S s] ++ cc) (Bo (p s))
theorem Asks.closed {E : Env} {P : Program} {f : AV} {p : Str → Bool} (h : Asks E P f p) : f.closed := by
  obtain ⟨k, cc, rfl, h, _⟩ := h.ok
  exact ⟨trivial, h⟩
theorem Asks.scalar {E : Env} {P : Program} {f : AV} {p : Str → Bool} (h : Asks E P f p) : f.scalar = true := by
  obtain ⟨k, cc, rfl, h, _⟩ := h.ok
  rfl
theorem Asks.call {E : Env} {P : Program} {f : AV} {p : Str → Bool} (h : Asks E P f p) (s : Str) {H : AH} {K : Kt} (hK : ∀ n, K (Bo (p s)) ⟨H.bs, n⟩) : wCallV E P f [S s] H K := by
  obtain ⟨k, cc, rfl, _, h⟩ := h.ok
  exact wCallV.fx (fs := []) (h s) hK
/-- a list of texts, or nil -/
def TXL (a : AV) (l : List Str) : Prop := (a = nilS ∧ l = []) ∨ a = Lm S l
theorem TXL.closed {a : AV} {l : List Str} (h : TXL a l) : a.closed := by
  rcases h with ⟨rfl, _⟩ | rfl
  · trivial
  · exact closed_S l
theorem TXL.scalar {a : AV} {l : List Str} (h : TXL a l) : a.scalar = true := by
  rcases h with ⟨rfl, _⟩ | rfl <;> rfl
theorem TXL.len {a : AV} {l : List Str} (h : TXL a l) : lenA a = some (Z l.length) := by
  rcases h with ⟨rfl, rfl⟩ | rfl <;> rfl
section
variable {E : Env} {P : Program}
end
end Go.Sc
namespace Go.Sc
open Go
set_option linter.unusedSimpArgs false
set_option linter.unusedVariables false
/-! ### how deep -/
/-! ### what stands behind -/
def T9 (r : Str) : Prop := r = [] ∨ ∃ c r', r = c :: r' ∧ (c = 32 ∨ c = 41)
def fnb (r : Str) : Option UInt8 := (r.dropWhile (· == 32)).head?
def TO (r : Str) : Prop := T9 r ∧ fnb r ≠ some 38 ∧ fnb r ≠ some 124
/-! ### names -/
/-! ### blanks ahead count for nothing -/
end Go.Sc
namespace Go.Sc
open Go
set_option linter.unusedSimpArgs false
set_option linter.unusedVariables false
set_option linter.unnecessarySimpa false
structure SizeBodies (E : Env) (P : Program) : Prop where
  size : Body1 E P 156 F.expr_Size
  size1 : Body2 E P 160 F.expr_Size_c1
  walk : Body2 E P 161 F.expr_walk
section
variable {E : Env} {P : Program}
theorem size1_spec (B : SizeBodies E P) (y : Ex) (n : Nat) (hn : n < 1000000000) : PC E P 160 1 [Z n] (fun b g => [y.enc, .ptrL b 0 g]) (fun r cs => r = .tup [] ∧ cs = [Z ((n + 1 : Nat) : Int)]) := by
  refine PC.of (fun f g => by simp only [AV.renL, AV.ren, AV.ren_closed _ (Ex.enc_closed y)]) ⟨trivial, trivial⟩ (by rintro r cs ⟨rfl, rfl⟩; exact ⟨trivial, trivial, trivial⟩) fun c g R hR => B.size1 _ _ _ _ ?_
  unfold F.expr_Size_c1
  simp only [nd0, Y1n, Y1o, Y1p, Y1q, Y1w, Y1x, Y1y, Y1z, Y20, Y21, Y28, Y2a, AV.cells?, Nat.reduceAdd, Nat.reduceMul]
  rw [binA_succ (by omega)]
  simp only [nd0, Y1n, Y1o, Y1p, Y1q, Y1w, Y1x, Y1y, Y1z, Y20, Y21, Y28, Y2a, AV.cells?, Nat.reduceAdd, Nat.reduceMul]
  rw [store1_L rfl]
  simp only [nd0, Y1n, Y1o, Y1p, Y1q, Y1w, Y1x, Y1y, Y1z, Y20, Y21, Y28, Y2a, AV.cells?, Nat.reduceAdd, Nat.reduceMul, Nat.reduceLT]
  exact hR _ _ [Z ((n + 1 : Nat) : Int)] [] c (.same _) ⟨rfl, rfl⟩
theorem walkL_spec (B : SizeBodies E P) (l : List Ex) (hl : ∀ x ∈ l, ∀ n : Nat, n + x.size < 1000000000 → PC E P 161 1 [Z n] (fun b g => [x.enc, .fn 160 [] [.ptrL b 0 g]]) (fun r cs => r = .tup [] ∧ cs = [Z ((n + x.size : Nat) : Int)])) (hlen : l.length < 1000000000) (n : Nat) (hn : n + Ex.sizeL l < 1000000000) {g c : Nat} {R : Kt} (rest : List Blk)
    (hR : ∀ c, R (.tup []) ⟨.cells g 1 [Z ((n + Ex.sizeL l : Nat) : Int)] :: rest, c⟩) :
    wLoop 1 (fun I1 => I1 (Z 0) ⟨.cells g 1 [Z n] :: rest, c⟩) fun I1 t27 H =>
      wGet (binA .lss t27 (Z l.length)) H fun t28 H =>
      wIf t28 (
        wGet (iaddr 1 (.slN (Ex.encL l) l.length) t27) H fun t29 H =>
        wGet (load1 t29 H) H fun t30 H =>
        wCall E P 161 [t30, .fn 160 [] [.ptrL 0 0 g]] H fun t33 H =>
        wGet (binA .add t27 (.val (.int .i64 1))) H fun t34 H =>
        I1 t34 H) (
        R (.tup []) H) := by
  refine wLoop.one (fun m i H => ∃ pre r c, l = pre ++ r ∧ i = Z pre.length ∧ m = r.length ∧ H = ⟨.cells g 1 [Z ((n + Ex.sizeL pre : Nat) : Int)] :: rest, c⟩) l.length (gh1.mk ⟨[], l, c, rfl, rfl, rfl, by simp [Ex.sizeL]⟩) ?_
  rintro m i H ⟨pre, r, c, rfl, rfl, rfl, rfl⟩
  have happ : ∀ a b : List Ex, Ex.sizeL (a ++ b) = Ex.sizeL a + Ex.sizeL b := fun a b => by
    induction a with
    | nil => simp [Ex.sizeL]
    | cons x a ih => simp only [List.cons_append, Ex.sizeL, ih]; omega
  cases r with
  | nil =>
    rw [List.append_nil] at hR ⊢
    simp only [nd0, Y1n, Y1o, Y1p, Y1q, Y1w, Y1x, Y1y, Y1z, Y20, Y21, Y28, Y2a, AV.cells?, Nat.reduceAdd, Nat.reduceMul, Int.lt_irrefl]
    exact hR c
  | cons x r =>
    rw [happ] at hn
    simp only [Ex.sizeL] at hn
    simp only [nd0, Y1n, Y1o, Y1p, Y1q, Y1w, Y1x, Y1y, Y1z, Y20, Y21, Y28, Y2a, AV.cells?, Nat.reduceAdd, Nat.reduceMul, decide_eq_true (show (pre.length : Int) < ((pre ++ x :: r).length : Int) by simp; omega)]
    rw [iaddr_Nn lt_mid]
    simp only [nd0, Y1n, Y1o, Y1p, Y1q, Y1w, Y1x, Y1y, Y1z, Y20, Y21, Y28, Y2a, AV.cells?, Nat.reduceAdd, Nat.reduceMul, show (Ex.encL (pre ++ x :: r))[pre.length]? = some x.enc by rw [Ex.encL_map]; simp]
    refine wCall.pc (b := 0) (hl x (by simp) (n + Ex.sizeL pre) (by omega)) rfl rfl ?_
    rintro rr cs n3 ⟨rfl, rfl⟩
    rw [binA_succ (by simp at hlen; omega)]
    simp only [nd0, Y1n, Y1o, Y1p, Y1q, Y1w, Y1x, Y1y, Y1z, Y20, Y21, Y28, Y2a, AV.cells?, Nat.reduceAdd, Nat.reduceMul]
    refine back1.mk r.length (by simp) ⟨pre ++ [x], r, n3, by simp, by simp, rfl, ?_⟩
    rw [happ]
    simp only [Ex.sizeL]
    congr 5; omega
theorem walk_spec (B : SizeBodies E P) : ∀ (k : Nat) (x : Ex), x.wt < k → x.wt ≤ 1000000 → x.fine → ∀ n : Nat, n + x.size < 1000000000 → PC E P 161 1 [Z n] (fun b g => [x.enc, .fn 160 [] [.ptrL b 0 g]]) (fun r cs => r = .tup [] ∧ cs = [Z ((n + x.size : Nat) : Int)]) := by
  intro k
  induction k with
  | zero => intro x h; omega
  | succ k ih =>
    intro x hx hw hf n hn
    refine PC.of (fun f g => by simp only [AV.renL, AV.ren, AV.ren_closed _ (Ex.enc_closed x)]) ⟨trivial, trivial⟩ (by rintro r cs ⟨rfl, rfl⟩; exact ⟨trivial, trivial, trivial⟩) fun c g R hR => B.walk _ _ _ _ ?_
    unfold F.expr_walk
    have h1 : 1 ≤ x.size := by cases x <;> simp [Ex.size]
    refine wCallV.pc (b := 0) (size1_spec B x n (by omega)) rfl rfl ?_
    rintro r cs c2 ⟨rfl, rfl⟩
    have fin : ∀ rest c, x.size = 1 → R (.tup []) ⟨.cells g 1 [Z ((n + 1 : Nat) : Int)] :: rest, c⟩ := fun rest c h => hR _ _ _ rest c (.same _) ⟨rfl, by rw [h]⟩
    cases x with
    | k b => simp only [Ex.enc]; simp only [nd0, Y1n, Y1o, Y1p, Y1q, Y1w, Y1x, Y1y, Y1z, Y20, Y21, Y28, Y2a, AV.cells?, Nat.reduceAdd, Nat.reduceMul, asA, show (11 : Nat) = 10 ↔ False by decide, show (11 : Nat) = 9 ↔ False by decide, show (11 : Nat) = 8 ↔ False by decide]; exact fin [] c2 rfl
    | bit b => simp only [Ex.enc]; simp only [nd0, Y1n, Y1o, Y1p, Y1q, Y1w, Y1x, Y1y, Y1z, Y20, Y21, Y28, Y2a, AV.cells?, Nat.reduceAdd, Nat.reduceMul, asA, show (14 : Nat) = 10 ↔ False by decide, show (14 : Nat) = 9 ↔ False by decide, show (14 : Nat) = 8 ↔ False by decide]; exact fin [] c2 rfl
    | rise b => simp only [Ex.enc]; simp only [nd0, Y1n, Y1o, Y1p, Y1q, Y1w, Y1x, Y1y, Y1z, Y20, Y21, Y28, Y2a, AV.cells?, Nat.reduceAdd, Nat.reduceMul, asA, show (12 : Nat) = 10 ↔ False by decide, show (12 : Nat) = 9 ↔ False by decide, show (12 : Nat) = 8 ↔ False by decide]; exact fin [] c2 rfl
    | fall b => simp only [Ex.enc]; simp only [nd0, Y1n, Y1o, Y1p, Y1q, Y1w, Y1x, Y1y, Y1z, Y20, Y21, Y28, Y2a, AV.cells?, Nat.reduceAdd, Nat.reduceMul, asA, show (13 : Nat) = 10 ↔ False by decide, show (13 : Nat) = 9 ↔ False by decide, show (13 : Nat) = 8 ↔ False by decide]; exact fin [] c2 rfl
    | not y =>
      simp only [Ex.enc]
      simp only [Ex.wt] at hw hx
      simp only [Ex.size] at hn hR
      simp only [nd0, Y1n, Y1o, Y1p, Y1q, Y1w, Y1x, Y1y, Y1z, Y20, Y21, Y28, Y2a, AV.cells?, Nat.reduceAdd, Nat.reduceMul, asA, show (10 : Nat) = 10 ↔ True by decide]
      refine wNew.L (l := [nilE]) rfl ?_
      simp only [nd0, Y1n, Y1o, Y1p, Y1q, Y1w, Y1x, Y1y, Y1z, Y20, Y21, Y28, Y2a, AV.cells?, Nat.reduceAdd, Nat.reduceMul]
      rw [storeN_L (n := 1) (xs := [y.enc]) rfl (by simp [Ex.enc_scalar])]
      simp only [nd0, Y1n, Y1o, Y1p, Y1q, Y1w, Y1x, Y1y, Y1z, Y20, Y21, Y28, Y2a, AV.cells?, Nat.reduceAdd, Nat.reduceMul, show putL [nilE] 0 [y.enc] = some [y.enc] from rfl]
      refine wCall.pc (b := 0) (ih y (by omega) (by omega) hf (n + 1) (by omega)) rfl rfl ?_
      rintro r cs c3 ⟨rfl, rfl⟩
      refine hR _ _ _ _ c3 (.same _) ⟨rfl, ?_⟩
      congr 3; omega
    | and l =>
      simp only [Ex.enc]
      simp only [Ex.wt] at hw hx
      simp only [Ex.size] at hn hR
      have hll := Ex.len_wtL hf.2
      simp only [nd0, Y1n, Y1o, Y1p, Y1q, Y1w, Y1x, Y1y, Y1z, Y20, Y21, Y28, Y2a, AV.cells?, Nat.reduceAdd, Nat.reduceMul, asA, show (9 : Nat) = 10 ↔ False by decide, show (9 : Nat) = 9 ↔ True by decide]
      refine walkL_spec B l (fun y hy => ih y (by have := Ex.wt_mem hy; omega) (by have := Ex.wt_mem hy; omega) (Ex.fine_mem hf.2 hy)) (by omega) (n + 1) (by omega) [] fun c => ?_
      refine hR _ _ _ [] c (.same _) ⟨rfl, ?_⟩
      congr 3; omega
    | or l =>
      simp only [Ex.enc]
      simp only [Ex.wt] at hw hx
      simp only [Ex.size] at hn hR
      have hll := Ex.len_wtL hf.2
      simp only [nd0, Y1n, Y1o, Y1p, Y1q, Y1w, Y1x, Y1y, Y1z, Y20, Y21, Y28, Y2a, AV.cells?, Nat.reduceAdd, Nat.reduceMul, asA, show (8 : Nat) = 10 ↔ False by decide, show (8 : Nat) = 9 ↔ False by decide, show (8 : Nat) = 8 ↔ True by decide]
      refine walkL_spec B l (fun y hy => ih y (by have := Ex.wt_mem hy; omega) (by have := Ex.wt_mem hy; omega) (Ex.fine_mem hf.2 hy)) (by omega) (n + 1) (by omega) [] fun c => ?_
      refine hR _ _ _ [] c (.same _) ⟨rfl, ?_⟩
      congr 3; omega
theorem Size_spec (B : SizeBodies E P) (x : Ex) (hw : x.wt ≤ 1000000) (hf : x.fine) : FX E P 156 [x.enc] (Z x.size) := by
  refine FX.of' ⟨Ex.enc_closed x, trivial⟩ trivial fun n R hR => B.size _ _ _ ?_
  unfold F.expr_Size
  refine wNew.L (l := [Z 0]) rfl ?_
  simp only [nd0, Y1n, Y1o, Y1p, Y1q, Y1w, Y1x, Y1y, Y1z, Y20, Y21, Y28, Y2a, AV.cells?, Nat.reduceAdd, Nat.reduceMul]
  rw [store1_L rfl]
  simp only [nd0, Y1n, Y1o, Y1p, Y1q, Y1w, Y1x, Y1y, Y1z, Y20, Y21, Y28, Y2a, AV.cells?, Nat.reduceAdd, Nat.reduceMul, Nat.reduceLT]
  have := Ex.size_wt x hf
  refine wCall.pc (b := 0) (walk_spec B (x.wt + 1) x (by omega) hw hf 0 (by omega)) rfl rfl ?_
  rintro r cs c2 ⟨rfl, rfl⟩
  simp only [nd0, Y1n, Y1o, Y1p, Y1q, Y1w, Y1x, Y1y, Y1z, Y20, Y21, Y28, Y2a, AV.cells?, Nat.reduceAdd, Nat.reduceMul]
  exact hR _ _ (by simp)
end
/-! ### a fact: an expression of two -/
section
variable {E : Env} {P : Program}
end
end Go.Sc
namespace Go.Sc
set_option linter.unusedSimpArgs false
open Go Go.RowKit
section
variable {E : Env} {P : Program}
theorem indexByte_idx (c : UInt8) : ∀ s : Str, Lib.indexByte s c = idx s c
  | [] => by simp [Lib.indexByte, idx]
  | x :: s => by
    have ih := indexByte_idx c s
    unfold Lib.indexByte
    by_cases h : x = c
    · subst h; simp [idx]
    · have h' : ¬ c = x := fun e => h e.symm
      have hb : (x == c) = false := by simpa using h
      by_cases hm : c ∈ s
      · simp [idx, hm, h, h', ih, List.idxOf_cons, hb] <;> omega
      · simp [idx, hm, h, h', ih]
theorem FX.indexByte {k : Nat} {fn : Func} (hf : P.funcs[E.fn k]? = some fn) (hn : (fn.name == "runtime.NumGoroutine") = false) (hb : fn.body.isNone = false)
    (h : ∀ (s : ByteArray) (c : Int) (w : World), Calls P (E.fn k) #[.string s, .int .u8 c] w fun e w' => e = .returned (.int .i64 (Lib.indexByte s.data.toList c.toNat.toUInt8)) ∧ w' = w) (s : Str) (c : UInt8) : FX E P k [S s, By c] (Z (idx s c)) := by
  refine FX.ofCalls hf hn hb (by simp [AV.closedL, AV.closed]) (by simp [AV.flat]) (by simp [AV.closed]) fun cx vs _ _ hv => ?_
  simp only [LRel, VRel] at hv
  obtain ⟨v0, _, rfl, rfl, v1, _, rfl, rfl, rfl⟩ := hv
  refine (h ⟨s.toArray⟩ c.toNat cx.w).mono ?_
  rintro e w' ⟨rfl, rfl⟩
  refine ⟨_, rfl, Below.refl _ _, ?_⟩
  have e1 : (((c.toNat : Nat) : Int).toNat).toUInt8 = c := by simp
  rw [e1, indexByte_idx]
  simp [VRel]
end
end Go.Sc
namespace Go.Sc
open Go Go.RowKit Go.Sort Go.Proofs
set_option linter.unusedSimpArgs false
set_option linter.unusedVariables false
section
variable {E : Env} {P : Program} {c : Cx} {H : AH}
theorem HRel.more (h : HRel E c H) (os : Array Obj) : HRel E { c with w := grow c.w os } H ∧ Later c { c with w := grow c.w os } := by
  have hsame : ∀ k, k < c.w.heap.size → (grow c.w os).heap[k]? = c.w.heap[k]? := fun k hk => by
    show (c.w.heap ++ os)[k]? = _
    rw [Array.getElem?_append_left hk]
  have hsz : c.w.heap.size ≤ (grow c.w os).heap.size := by show c.w.heap.size ≤ (c.w.heap ++ os).size; simp
  have hL : Later c { c with w := grow c.w os } := {
    le := ⟨Nat.le_refl _, fun b hb => ⟨hb, hsame b (h.fzlt b hb)⟩, fun k j hk => ⟨.inr hk, cell_of_heap (hsame k (h.fclt k j hk)) _ _⟩, fun b g _ e => ⟨e, rfl, rfl, rfl, rfl⟩, fun _ _ _ _ _ hj => hj⟩
    os := rfl
    tape := rfl
    output := rfl
    size := hsz
    keep := fun k hk _ => hsame k hk
    own := fun b hb => .inl ⟨b, hb, rfl⟩
    fz := fun k hk => .inl hk
    fc := fun k j hk => .inl hk }
  exact ⟨⟨h.ctr, h.out, fun b x e => (h.blk b x e).mono hL.le rfl rfl rfl rfl rfl (fun hd => hsame _ (h.lt b (h.live' e hd))), h.apart, h.solid, h.inj, fun b hb => Nat.lt_of_lt_of_le (h.lt b hb) hsz, fun b hb => Nat.lt_of_lt_of_le (h.fzlt b hb) hsz, fun b j hb => Nat.lt_of_lt_of_le (h.fclt b j hb) hsz, h.globLe hL.le⟩, hL⟩
theorem rel_texts : ∀ {l : List Str} {vs : List Value}, LRel E c (l.map fun s => S s) vs → vs = l.map encStr
  | [], vs, h => by simpa [LRel] using h
  | s :: l, vs, h => by
    simp only [List.map_cons, LRel] at h
    obtain ⟨u, us, rfl, hu, h⟩ := h
    simp only [VRel] at hu
    rw [rel_texts h, hu]
    rfl
theorem texts_rel : ∀ {l : List Str}, LRel E c (l.map fun s => S s) (l.map encStr)
  | [] => by simp [LRel]
  | s :: l => by simp only [List.map_cons, LRel]; exact ⟨_, _, rfl, by simp only [VRel], texts_rel⟩
/-- where a row of texts lies -/
theorem HRel.row (h : HRel E c H) {b g : Nat} {l : List Str} (hb : H.bs[b]? = some (.cells g 1 (l.map fun s => S s))) : ∃ p0 rest e, c.w.heap[c.al b]? = some (.cells (p0 ++ l.map encStr ++ rest).toArray e (0, 0)) ∧ p0.length = c.base b ∧ c.gen b = some g ∧ c.sz b = 1 ∧ c.csz b = (p0 ++ l.map encStr ++ rest).length := by
  have hB := h.blk b _ hb
  simp only [BRel] at hB
  obtain ⟨h1, h2, h3, arr, e, h4, h5, p0, pre, rest, rfl, h7, h8⟩ := hB
  have := rel_texts h8
  subst this
  exact ⟨p0, rest, e, h4, h7, h2, h3, h5⟩
theorem HRel.holds (h : HRel E c H) {b g : Nat} {l : List Str} (hb : H.bs[b]? = some (.cells g 1 (l.map fun s => S s))) : Holds encStr c.w (c.al b) (c.base b) l.toArray := by
  obtain ⟨p0, rest, e, h4, h7, -⟩ := h.row hb
  intro j hj
  simp at hj
  rw [← h7]
  refine ⟨?_, ?_⟩
  · simp only [World.cell?, h4]
    simp [List.getElem?_append_right, List.getElem?_append_left, hj]
  · simp [World.frozen?, h4]
theorem HRel.putTexts (h : HRel E c H) {b g : Nat} {l l' : List Str} (hl : l'.length = l.length) (hb : H.bs[b]? = some (.cells g 1 (l.map fun s => S s))) (q : Nat) (os : Array Obj) :
    HRel E { c with w := grow (putRow encStr (Sort.ahead c.w q) (c.al b) (c.base b) l'.toArray) os } ⟨H.bs.set b (.cells g 1 (l'.map fun s => S s)), H.ctr⟩ ∧ Later c { c with w := grow (putRow encStr (Sort.ahead c.w q) (c.al b) (c.base b) l'.toArray) os } := by
  obtain ⟨p0, rest, e, h4, h7, -⟩ := h.row hb
  have hlt := h.lt (b := b) (h.live' hb)
  have hheap : (putRow encStr (Sort.ahead c.w q) (c.al b) (c.base b) l'.toArray).heap = c.w.heap.setIfInBounds (c.al b) (.cells (p0 ++ l'.map encStr ++ rest).toArray e (0, 0)) := by
    have hput : putCells encStr (c.base b) l'.toArray (p0 ++ l.map encStr ++ rest).toArray = (p0 ++ l'.map encStr ++ rest).toArray := by
      apply Array.ext_getElem?
      intro k
      unfold putCells
      simp only [Array.getElem?_mapIdx, List.size_toArray, List.getElem?_toArray, ← h7]
      by_cases h1 : k < p0.length
      · rw [List.append_assoc, List.append_assoc, List.getElem?_append_left h1, List.getElem?_append_left h1]
        have : ¬ (p0.length ≤ k ∧ k < p0.length + l'.length) := by omega
        simp only [if_neg this]
        cases p0[k]? <;> rfl
      · by_cases h2 : k < p0.length + l'.length
        · have e1 : (p0 ++ l'.map encStr ++ rest)[k]? = some (encStr (l'[k - p0.length]'(by omega))) := by
            rw [List.getElem?_append_left (by simp; omega), List.getElem?_append_right (by omega), List.getElem?_map, List.getElem?_eq_getElem (by omega)]; rfl
          have e2 : ∃ v, (p0 ++ l.map encStr ++ rest)[k]? = some v := ⟨_, List.getElem?_eq_getElem (by simp; omega)⟩
          obtain ⟨v, e2⟩ := e2
          rw [e1, e2]
          have : (p0.length ≤ k ∧ k < p0.length + l'.length) := by omega
          simp only [Option.map_some, if_pos this]
          congr 2
          simp [getElem!_pos, show k - p0.length < l'.length by omega]
        · have : ¬ (p0.length ≤ k ∧ k < p0.length + l'.length) := by omega
          simp only [if_neg this]
          rw [List.getElem?_append_right (by simp; omega), List.getElem?_append_right (by simp; omega)]
          simp only [List.length_append, List.length_map, hl]
          cases rest[k - (p0.length + l.length)]? <;> rfl
    apply Array.ext_getElem?
    intro k
    unfold putRow mapBlock
    show (c.w.heap.modify (c.al b) _)[k]? = _
    rw [Array.getElem?_modify, Array.getElem?_setIfInBounds]
    by_cases hk : c.al b = k
    · subst hk
      rw [if_pos rfl, if_pos rfl, h4, if_pos hlt]
      simp only [Option.map_some, onCells, hput]
    · rw [if_neg hk, if_neg hk]
  obtain ⟨k1, k2⟩ := h.setRow (w' := putRow encStr (Sort.ahead c.w q) (c.al b) (c.base b) l'.toArray) hb h4 h7 (pre' := l'.map encStr) (by simp [hl]) texts_rel hheap rfl rfl rfl
  obtain ⟨k3, k4⟩ := k1.more os
  exact ⟨k3, k2.trans k4⟩
/-- a walk of the kit's, as a call of ours -/
theorem ACalls.ofWalk {k : Nat} {fn : Func} {args : List AV} {R : Kt} (hf : P.funcs[E.fn k]? = some fn) (hn : (fn.name == "runtime.NumGoroutine") = false) (hb : fn.body.isNone = false)
    (h : ∀ (c : Cx) (vs : List Value), HRel E c H → LRel E c args vs → Calls P (E.fn k) vs.toArray c.w fun e w' => ∃ v r c' H', e = .returned v ∧ c'.w = w' ∧ R r H' ∧ HRel E c' H' ∧ VRel E c' r v ∧ Later c c') : ACalls E P k args H R := by
  intro c vs hH hv o a next Q hnext
  have hrun : (callFunc (E.fn k) vs.toArray).run P c.w = .ok (.enter (E.fn k) vs.toArray) c.w := by
    have hn' : ¬ ((fn.name == "runtime.NumGoroutine") = true) := by rw [hn]; simp
    have hb' : ¬ (fn.body.isNone = true) := by rw [hb]; simp
    simp only [callFunc, Sem.run_bind, run_program, Result.andThen_ok, hf, if_neg hn', if_neg hb', Sem.run_pure]
  rw [hrun]
  simp only [Oper.upon]
  refine (h c vs hH hv).mono ?_
  rintro e w' ⟨v, r, c', H', rfl, h1, h2, h3, h4, h5⟩
  exact hnext v w' ⟨r, c', H', h1, h2, h3, h4, h5⟩
def sortS (l : List Str) : List Str := l.mergeSort fun x y => decide (x ≤ y)
theorem sortS_length (l : List Str) : (sortS l).length = l.length := by simp [sortS]
/-- slices.Sort of texts -/
theorem sort_calls {k : Nat} {fn : Func} (hf : P.funcs[E.fn k]? = some fn) (hn : (fn.name == "runtime.NumGoroutine") = false) (hbd : fn.body.isNone = false)
    (h0 : ∀ (p : Option Addr) (cap : Nat) (w : World), Calls P (E.fn k) #[.slice p 0 cap] w fun e w' => e = .returned (.tuple #[]) ∧ w' = w)
    (h1 : ∀ (blk off cap : Nat) (ss : List (List UInt8)) (w : World), Holds encStr w blk off ss.toArray → blk < w.heap.size → ss.length < 4611686018427387904 → Calls P (E.fn k) #[.slice (some ⟨blk, off, none⟩) ss.length cap] w fun e w' =>
      e = .returned (.tuple #[]) ∧ ∃ n os, w' = grow (putRow encStr (Sort.ahead w n) blk off (ss.mergeSort fun x y => decide (x ≤ y)).toArray) os)
    {b g : Nat} {l : List Str} (hl : l.length < 4611686018427387904) (hb : H.bs[b]? = some (.cells g 1 (l.map fun s => S s))) : ACalls E P k [.slL b 0 l.length g] H fun r H' => r = .tup [] ∧ H' = ⟨H.bs.set b (.cells g 1 ((sortS l).map fun s => S s)), H.ctr⟩ := by
  refine ACalls.ofWalk hf hn hbd fun c vs hH hv => ?_
  obtain ⟨v, rfl, hr⟩ := hv.one'
  simp only [VRel] at hr
  obtain ⟨_, p, cap, rfl, hcap, hp⟩ := hr
  obtain ⟨p0, rest, e, h4, h7, hg, _⟩ := hH.row hb
  rcases hp hg with hz | ⟨rfl, _⟩
  · subst hz
    have hl0 : l = [] := List.eq_nil_of_length_eq_zero (by omega)
    subst hl0
    refine (h0 (some p) 0 c.w).mono ?_
    rintro e w' ⟨rfl, rfl⟩
    obtain ⟨k1, k2⟩ := hH.more #[]
    refine ⟨_, .tup [], c, H, rfl, rfl, ⟨rfl, ?_⟩, hH, by simp [VRel, LRel], Later.refl c⟩
    have : sortS [] = [] := by simp [sortS]
    rw [this]
    have hlt := lt_of_get hb
    have : H.bs[b] = .cells g 1 (([] : List Str).map fun s => S s) := by rw [List.getElem?_eq_getElem hlt] at hb; injection hb
    rw [← this, List.set_getElem_self]
  · refine (h1 (c.al b) (c.base b) cap l c.w (hH.holds hb) (hH.lt b (hH.live' hb)) hl).mono ?_
    rintro e w' ⟨rfl, n, os, rfl⟩
    obtain ⟨k1, k2⟩ := hH.putTexts (l' := sortS l) (sortS_length l) hb n os
    exact ⟨_, .tup [], _, _, rfl, rfl, ⟨rfl, rfl⟩, k1, by simp [VRel, LRel], k2⟩
def packS (l : List Str) : List Str := Lib.compact l
theorem packS_length (l : List Str) : (packS l).length ≤ l.length := by
  have h := List.length_filter_le (Lib.keeps l.toArray) (List.range l.length)
  simp only [packS, Lib.compact, Lib.compactUpTo, List.length_map]
  simpa using h
theorem packS_mem {l : List Str} {x : Str} : x ∈ packS l ↔ x ∈ l := by
  simp only [packS, Lib.compact, Lib.compactUpTo, List.mem_map, List.mem_filter, List.mem_range]
  constructor
  · rintro ⟨j, ⟨hj, _⟩, rfl⟩
    have : (l.toArray)[j]! = l[j] := by simp [getElem!_pos, hj]
    rw [this]; exact List.getElem_mem hj
  · intro hx
    obtain ⟨j, hj, rfl⟩ := List.getElem_of_mem hx
    induction j with
    | zero => exact ⟨0, ⟨hj, by simp [Lib.keeps]⟩, by simp [getElem!_pos, hj]⟩
    | succ j ih =>
      by_cases hk : Lib.keeps l.toArray (j + 1) = true
      · exact ⟨j + 1, ⟨hj, hk⟩, by simp [getElem!_pos, hj]⟩
      · have heq : (l.toArray)[j + 1]! = (l.toArray)[j]! := by
          simp only [Lib.keeps] at hk
          simpa using hk
        have h1 : (l.toArray)[j + 1]! = l[j + 1] := by simp [getElem!_pos, hj]
        have h2 : (l.toArray)[j]! = l[j] := by simp [getElem!_pos, show j < l.length by omega]
        obtain ⟨i, hi, he⟩ := ih (by omega) (List.getElem_mem (by omega))
        exact ⟨i, hi, by rw [he, ← h2, ← heq, h1]⟩
theorem sortS_mem {l : List Str} {x : Str} : x ∈ sortS l ↔ x ∈ l := by simp [sortS]
/-- slices.Compact of texts -/
theorem compact_calls {k : Nat} {fn : Func} (hf : P.funcs[E.fn k]? = some fn) (hn : (fn.name == "runtime.NumGoroutine") = false) (hbd : fn.body.isNone = false)
    (h0 : ∀ (a : Option Addr) (cap : Nat) (w : World), Calls P (E.fn k) #[.slice a 0 cap] w fun e w' => e = .returned (.slice a 0 cap) ∧ w' = w)
    (h1 : ∀ (blk off cap : Nat) (zs : List (List UInt8)) (w : World), Holds encStr w blk off zs.toArray → zs.length ≤ 9223372036854775807 → zs.length ≤ cap → Calls P (E.fn k) #[.slice (some ⟨blk, off, none⟩) zs.length cap] w fun e w' =>
      e = .returned (.slice (some ⟨blk, off, none⟩) (Lib.compact zs).length cap) ∧ ∃ q, w' = putRow encStr (Sort.ahead w q) blk off (Lib.compact zs ++ List.replicate (zs.length - (Lib.compact zs).length) []).toArray)
    {b g : Nat} {l : List Str} (hl : l.length < 4611686018427387904) (hb : H.bs[b]? = some (.cells g 1 (l.map fun s => S s))) : ACalls E P k [.slL b 0 l.length g] H fun r H' => r = .slL b 0 (packS l).length g ∧ H' = ⟨H.bs.set b (.cells g 1 ((packS l ++ List.replicate (l.length - (packS l).length) []).map fun s => S s)), H.ctr⟩ := by
  refine ACalls.ofWalk hf hn hbd fun c vs hH hv => ?_
  obtain ⟨v, rfl, hr⟩ := hv.one'
  simp only [VRel] at hr
  obtain ⟨hgl, p, cap, rfl, hcap, hp⟩ := hr
  obtain ⟨p0, rest, e, h4, h7, hg, _⟩ := hH.row hb
  have hpl := packS_length l
  rcases hp hg with hz | ⟨rfl, hroom⟩
  · subst hz
    have hl0 : l = [] := List.eq_nil_of_length_eq_zero (by omega)
    subst hl0
    have hp0 : packS [] = [] := List.eq_nil_of_length_eq_zero (by simpa using hpl)
    refine (h0 (some p) 0 c.w).mono ?_
    rintro e w' ⟨rfl, rfl⟩
    refine ⟨_, .slL b 0 (packS []).length g, c, H, rfl, rfl, ⟨rfl, ?_⟩, hH, ?_, Later.refl c⟩
    · rw [hp0]
      have hlt := lt_of_get hb
      have : H.bs[b] = .cells g 1 (([] : List Str).map fun s => S s) := by rw [List.getElem?_eq_getElem hlt] at hb; injection hb
      simp only [List.length_nil, Nat.sub_self, List.replicate_zero, List.append_nil]
      rw [← this, List.set_getElem_self]
    · simp only [VRel]
      exact ⟨hgl, p, 0, by rw [hp0]; rfl, by rw [hp0]; exact Nat.le_refl _, fun _ => .inl rfl⟩
  · refine (h1 (c.al b) (c.base b) cap l c.w (hH.holds hb) (by omega) hcap).mono ?_
    rintro e w' ⟨rfl, q, rfl⟩
    obtain ⟨k1, k2⟩ := hH.putTexts (l' := packS l ++ List.replicate (l.length - (packS l).length) []) (by simp; omega) hb q #[]
    rw [grow_empty] at k1 k2
    refine ⟨_, .slL b 0 (packS l).length g, _, _, rfl, rfl, ⟨rfl, rfl⟩, k1, ?_, k2⟩
    simp only [VRel]
    exact ⟨hgl, _, cap, rfl, Nat.le_trans hpl hcap, fun _ => .inr ⟨rfl, hroom⟩⟩
theorem FX.sortNil {k : Nat} {fn : Func} (hf : P.funcs[E.fn k]? = some fn) (hn : (fn.name == "runtime.NumGoroutine") = false) (hbd : fn.body.isNone = false)
    (h0 : ∀ (p : Option Addr) (cap : Nat) (w : World), Calls P (E.fn k) #[.slice p 0 cap] w fun e w' => e = .returned (.tuple #[]) ∧ w' = w) : FX E P k [nilS] (.tup []) := by
  refine FX.ofCalls hf hn hbd ⟨trivial, trivial⟩ trivial trivial fun c vs _ _ hv => ?_
  obtain ⟨v, rfl, hr⟩ := hv.one'
  simp only [VRel] at hr
  subst hr
  refine (h0 none 0 c.w).mono ?_
  rintro e w' ⟨rfl, rfl⟩
  exact ⟨_, rfl, Below.refl _ _, by simp [VRel, LRel]⟩
theorem FX.compactNil {k : Nat} {fn : Func} (hf : P.funcs[E.fn k]? = some fn) (hn : (fn.name == "runtime.NumGoroutine") = false) (hbd : fn.body.isNone = false)
    (h0 : ∀ (a : Option Addr) (cap : Nat) (w : World), Calls P (E.fn k) #[.slice a 0 cap] w fun e w' => e = .returned (.slice a 0 cap) ∧ w' = w) : FX E P k [nilS] nilS := by
  refine FX.ofCalls hf hn hbd ⟨trivial, trivial⟩ trivial trivial fun c vs _ _ hv => ?_
  obtain ⟨v, rfl, hr⟩ := hv.one'
  simp only [VRel] at hr
  subst hr
  refine (h0 none 0 c.w).mono ?_
  rintro e w' ⟨rfl, rfl⟩
  exact ⟨_, rfl, Below.refl _ _, by simp [VRel]⟩
end
end Go.Sc
namespace Go.Sc.F
open Go Go.Sc
set_option linter.unusedVariables false
/-- signalbox/expr.Names -/
def expr_Names (E : Env) (P : Program) (a0 : AV) (H : AH) (R : Kt) : Prop :=
  wCall E P 190 [a0, (.fn 189 [] [])] H fun t4 H =>
  R t4 H

/-- (*signalbox/signalboxref.Expr).Names -/
def pref_Expr_Names (E : Env) (P : Program) (a0 : AV) (H : AH) (R : Kt) : Prop :=
  wCall E P 191 [a0, (.val (.string ⟨#[98, 105, 116, 94, 126]⟩))] H fun t4 H =>
  R t4 H

/-- signalbox/expr.Edges -/
def expr_Edges (E : Env) (P : Program) (a0 : AV) (H : AH) (R : Kt) : Prop :=
  wCall E P 190 [a0, (.fn 192 [] [])] H fun t4 H =>
  R t4 H

/-- (*signalbox/signalboxref.Expr).Edges -/
def pref_Expr_Edges (E : Env) (P : Program) (a0 : AV) (H : AH) (R : Kt) : Prop :=
  wCall E P 191 [a0, (.val (.string ⟨#[94, 126]⟩))] H fun t4 H =>
  R t4 H

/-- (*signalbox/signalboxref.Expr).Size -/
def pref_Expr_Size (E : Env) (P : Program) (a0 : AV) (H : AH) (R : Kt) : Prop :=
  wGet (nilA a0) H fun t7 H =>
  wGet (faddr 2 t7) H fun t8 H =>
  wGet (load1 t8 H) H fun t9 H =>
  wGet (lenA t9) H fun t10 H =>
  wLoop 2 (fun I1 => I1 (.val (.int .i64 1)) (.val (.int .i64 0)) H) fun I1 t3 t11 H =>
    wGet (binA .lss t11 t10) H fun t12 H =>
    wIf t12 (
      wGet (iaddr 1 t9 t11) H fun t13 H =>
      wGet (load1 t13 H) H fun t14 H =>
      wCall E P 186 [t14] H fun t17 H =>
      wGet (binA .add t3 t17) H fun t18 H =>
      wGet (binA .add t11 (.val (.int .i64 1))) H fun t19 H =>
      I1 t18 t19 H) (
      R t3 H)

/-- signalbox/expr.sorted -/
def expr_sorted (E : Env) (P : Program) (a0 a1 : AV) (H : AH) (R : Kt) : Prop :=
  wNew 1 (AV.cells? a1) H fun t3 H =>
  wNew 1 (some [(.val (.slice none 0 0))]) H fun t5 H =>
  wCall E P 161 [a0, (.fn 193 [] [t3, t5])] H fun t8 H =>
  wGet (load1 t5 H) H fun t9 H =>
  wCall E P 194 [t9] H fun t10 H =>
  wGet (load1 t5 H) H fun t11 H =>
  wCall E P 195 [t11] H fun t12 H =>
  R t12 H

/-- signalbox/expr.Names$1 -/
def expr_Names_c1 (E : Env) (P : Program) (a0 : AV) (H : AH) (R : Kt) : Prop :=
  wGet (assertA 14 (.val (.string ⟨#[]⟩)) a0) H fun t7 H =>
  wGet (extractA t7 1) H fun t8 H =>
  wGet (extractA t7 0) H fun t9 H =>
  wIf t8 (
    R t9 H) (
    wGet (assertA 12 (.val (.string ⟨#[]⟩)) a0) H fun t11 H =>
    wGet (extractA t11 1) H fun t12 H =>
    wGet (extractA t11 0) H fun t13 H =>
    wIf t12 (
      R t13 H) (
      wGet (assertA 13 (.val (.string ⟨#[]⟩)) a0) H fun t15 H =>
      wGet (extractA t15 1) H fun t16 H =>
      wGet (extractA t15 0) H fun t17 H =>
      wIf t16 (
        R t17 H) (
        R (.val (.string ⟨#[]⟩)) H)))

/-- (*signalbox/signalboxref.Expr).named -/
def pref_Expr_named (E : Env) (P : Program) (a0 a1 : AV) (H : AH) (R : Kt) : Prop :=
  wNew 1 (AV.cells? a1) H fun t3 H =>
  wNew 1 (some [(.val (.slice none 0 0))]) H fun t5 H =>
  wNew 1 (some [(.val (.nilFunc))]) H fun t6 H =>
  wPut (store1 t6 (.fn 196 [] [t3, t5, t6]) H) fun _u H =>
  wGet (load1 t6 H) H fun t8 H =>
  wCallV E P t8 [a0] H fun t10 H =>
  wGet (load1 t5 H) H fun t11 H =>
  R t11 H

/-- signalbox/expr.Edges$1 -/
def expr_Edges_c1 (E : Env) (P : Program) (a0 : AV) (H : AH) (R : Kt) : Prop :=
  wGet (assertA 12 (.val (.string ⟨#[]⟩)) a0) H fun t6 H =>
  wGet (extractA t6 1) H fun t7 H =>
  wGet (extractA t6 0) H fun t8 H =>
  wIf t7 (
    R t8 H) (
    wGet (assertA 13 (.val (.string ⟨#[]⟩)) a0) H fun t10 H =>
    wGet (extractA t10 1) H fun t11 H =>
    wGet (extractA t10 0) H fun t12 H =>
    wIf t11 (
      R t12 H) (
      R (.val (.string ⟨#[]⟩)) H))

/-- signalbox/expr.sorted$1 -/
def expr_sorted_c1 (E : Env) (P : Program) (a0 a1 a2 : AV) (H : AH) (R : Kt) : Prop :=
  wGet (load1 a1 H) H fun t5 H =>
  wCallV E P t5 [a0] H fun t7 H =>
  wGet (binA .neq t7 (.val (.string ⟨#[]⟩))) H fun t9 H =>
  wIf t9 (
    wGet (load1 a2 H) H fun t10 H =>
    wNewS 1 1 (fillA (List.replicate 1 [(.val (.string ⟨#[]⟩))]).flatten [(0, 1, t7)]) H fun t12 H =>
    wApp 1 16 t10 t12 H fun t13 H =>
    wPut (store1 a2 t13 H) fun _u H =>
    R (.tup []) H) (
    R (.tup []) H)

/-- (*signalbox/signalboxref.Expr).named$1 -/
def pref_Expr_named_c1 (E : Env) (P : Program) (a0 a1 a2 a3 : AV) (H : AH) (R : Kt) : Prop :=
  wJoin 0 (fun J1 =>
    wGet (nilA a0) H fun t9 H =>
    wGet (faddr 1 t9) H fun t10 H =>
    wGet (load1 t10 H) H fun t11 H =>
    wGet (binA .neq t11 (.val (.string ⟨#[]⟩))) H fun t12 H =>
    wGuard t12 true H (fun k => wGet (load1 a1 H) H k) fun t14 H =>
    wGuard t12 true H (fun k => k a0 H) fun t15 H =>
    wGuard t12 true H (fun k => wGet (nilA t15) H k) fun t16 H =>
    wGuard t12 true H (fun k => wGet (faddr 0 t16) H k) fun t17 H =>
    wGuard t12 true H (fun k => wGet (load1 t17 H) H k) fun t18 H =>
    wGuard t12 true H (fun k => wCall E P 199 [t14, t18] H k) fun t19 H =>
    wGet (pickA t12 t19 (.val (.bool false))) H fun t20 H =>
    wIf t20 (
      wLoop 1 (fun I2 => I2 (.val (.int .i64 0)) H) fun I2 t5 H =>
        wGet (load1 a2 H) H fun t22 H =>
        wGet (lenA t22) H fun t23 H =>
        wGet (binA .lss t5 t23) H fun t24 H =>
        wGuard t24 true H (fun k => wGet (load1 a2 H) H k) fun t26 H =>
        wGuard t24 true H (fun k => k t5 H) fun t27 H =>
        wGuard t24 true H (fun k => wGet (iaddr 1 t26 t27) H k) fun t28 H =>
        wGuard t24 true H (fun k => wGet (load1 t28 H) H k) fun t29 H =>
        wGuard t24 true H (fun k => k a0 H) fun t30 H =>
        wGuard t24 true H (fun k => wGet (nilA t30) H k) fun t31 H =>
        wGuard t24 true H (fun k => wGet (faddr 1 t31) H k) fun t32 H =>
        wGuard t24 true H (fun k => wGet (load1 t32 H) H k) fun t33 H =>
        wGuard t24 true H (fun k => wGet (binA .lss t29 t33) H k) fun t34 H =>
        wGet (pickA t24 t34 (.val (.bool false))) H fun t35 H =>
        wIf t35 (
          wGet (binA .add t5 (.val (.int .i64 1))) H fun t37 H =>
          I2 t37 H) (
          wGet (load1 a2 H) H fun t39 H =>
          wGet (lenA t39) H fun t40 H =>
          wGet (binA .eql t5 t40) H fun t41 H =>
          wGuard t41 false H (fun k => wGet (load1 a2 H) H k) fun t43 H =>
          wGuard t41 false H (fun k => k t5 H) fun t44 H =>
          wGuard t41 false H (fun k => wGet (iaddr 1 t43 t44) H k) fun t45 H =>
          wGuard t41 false H (fun k => wGet (load1 t45 H) H k) fun t46 H =>
          wGuard t41 false H (fun k => k a0 H) fun t47 H =>
          wGuard t41 false H (fun k => wGet (nilA t47) H k) fun t48 H =>
          wGuard t41 false H (fun k => wGet (faddr 1 t48) H k) fun t49 H =>
          wGuard t41 false H (fun k => wGet (load1 t49 H) H k) fun t50 H =>
          wGuard t41 false H (fun k => wGet (binA .neq t46 t50) H k) fun t51 H =>
          wGet (pickA t41 (.val (.bool true)) t51) H fun t52 H =>
          wIf t52 (
            wGet (load1 a2 H) H fun t53 H =>
            wNewS 1 1 (fillA (List.replicate 1 [(.val (.string ⟨#[]⟩))]).flatten [(0, 1, (.val (.string ⟨#[]⟩)))]) H fun t54 H =>
            wApp 1 16 t53 t54 H fun t55 H =>
            wPut (store1 a2 t55 H) fun _u H =>
            wGet (load1 a2 H) H fun t56 H =>
            wGet (binA .add t5 (.val (.int .i64 1))) H fun t58 H =>
            wGet (sliceA 1 t56 (some t58) none H) H fun t59 H =>
            wGet (load1 a2 H) H fun t60 H =>
            wGet (sliceA 1 t60 (some t5) none H) H fun t62 H =>
            wDo (copyA 1 t59 t62 H) fun t63 H =>
            wGet (load1 a2 H) H fun t64 H =>
            wGet (nilA a0) H fun t67 H =>
            wGet (faddr 1 t67) H fun t68 H =>
            wGet (load1 t68 H) H fun t69 H =>
            wGet (iaddr 1 t64 t5) H fun t70 H =>
            wPut (store1 t70 t69 H) fun _u H =>
            J1 H) (
            J1 H))) (
      J1 H)) fun H =>
    wGet (nilA a0) H fun t72 H =>
    wGet (faddr 2 t72) H fun t73 H =>
    wGet (load1 t73 H) H fun t74 H =>
    wGet (lenA t74) H fun t75 H =>
    wLoop 1 (fun I3 => I3 (.val (.int .i64 0)) H) fun I3 t76 H =>
      wGet (binA .lss t76 t75) H fun t77 H =>
      wIf t77 (
        wGet (iaddr 1 t74 t76) H fun t78 H =>
        wGet (load1 t78 H) H fun t79 H =>
        wGet (load1 a3 H) H fun t80 H =>
        wCallV E P t80 [t79] H fun t82 H =>
        wGet (binA .add t76 (.val (.int .i64 1))) H fun t83 H =>
        I3 t83 H) (
        R (.tup []) H)

end Go.Sc.F
namespace Go.Sc
open Go
set_option linter.unusedSimpArgs false
set_option linter.unusedVariables false
set_option linter.unnecessarySimpa false
def nmL (nf : Ex → Str) (x : Ex) : List Str := if nf x = [] then [] else [nf x]
mutual
/-- what is found in it, one after the other -/
def Ex.raw (nf : Ex → Str) : Ex → List Str
  | .not y => nmL nf (.not y) ++ y.raw nf
  | .and l => nmL nf (.and l) ++ Ex.rawL nf l
  | .or l => nmL nf (.or l) ++ Ex.rawL nf l
  | x => nmL nf x
def Ex.rawL (nf : Ex → Str) : List Ex → List Str
  | [] => []
  | x :: l => x.raw nf ++ Ex.rawL nf l
end
theorem Ex.rawL_append (nf : Ex → Str) : ∀ l m : List Ex, Ex.rawL nf (l ++ m) = Ex.rawL nf l ++ Ex.rawL nf m
  | [], m => by simp [Ex.rawL]
  | x :: l, m => by simp only [List.cons_append, Ex.rawL, Ex.rawL_append nf l m, List.append_assoc]
theorem nmL_len (nf : Ex → Str) (x : Ex) : (nmL nf x).length ≤ 1 := by unfold nmL; split <;> simp
mutual
theorem Ex.raw_len (nf : Ex → Str) : ∀ x : Ex, (x.raw nf).length ≤ x.size
  | .k _ => nmL_len nf _
  | .bit _ => nmL_len nf _
  | .rise _ => nmL_len nf _
  | .fall _ => nmL_len nf _
  | .not y => by have h1 := nmL_len nf (.not y); have h2 := Ex.raw_len nf y; simp only [Ex.raw, Ex.size, List.length_append]; omega
  | .and l => by have h1 := nmL_len nf (.and l); have h2 := Ex.rawL_len nf l; simp only [Ex.raw, Ex.size, List.length_append]; omega
  | .or l => by have h1 := nmL_len nf (.or l); have h2 := Ex.rawL_len nf l; simp only [Ex.raw, Ex.size, List.length_append]; omega
theorem Ex.rawL_len (nf : Ex → Str) : ∀ l : List Ex, (Ex.rawL nf l).length ≤ Ex.sizeL l
  | [] => by simp [Ex.rawL]
  | x :: l => by have h1 := Ex.raw_len nf x; have h2 := Ex.rawL_len nf l; simp only [Ex.rawL, Ex.sizeL, List.length_append]; omega
end
/-- what has been found so far -/
def SO (g0 : Nat) (l : List Str) (H : AH) : Prop := ∃ x tb c, H = ⟨.cells g0 1 [x] :: tb, c⟩ ∧ ((x = nilS ∧ l = [] ∧ tb = []) ∨ ∃ g1, x = .slL 1 0 l.length g1 ∧ tb = [.cells g1 1 (l.map fun s => S s)])
theorem ghost_drop {bs : List Blk} {n : Nat} {xs : List AV} (e : Blk) : Ghost xs ⟨bs ++ [e], n⟩ xs ⟨bs, n⟩ := by
  refine ghost_kill (H := ⟨bs ++ [e], n⟩) (H' := ⟨bs, n⟩) (S := fun i => decide (bs.length ≤ i)) rfl ?_ (FkL.same xs)
  have : ∀ (l : List Blk) (i : Nat), i + l.length = bs.length → KBL ⟨bs ++ [e], n⟩ (fun i => decide (bs.length ≤ i)) i (l ++ [e]) l := by
    intro l
    induction l with
    | nil =>
      intro i hi
      refine .cut fun j x hx => ?_
      cases j with
      | zero => exact .inl (by simp at hi ⊢; omega)
      | succ j => simp at hx
    | cons x l ih =>
      intro i hi
      simp only [List.length_cons] at hi
      exact .keep (by simp; omega) (KB.same x) (ih _ (by omega))
  exact this bs 0 (by omega)
structure SortedBodies (E : Env) (P : Program) : Prop where
  walk : Body2 E P 161 F.expr_walk
  sorted : Body2 E P 190 F.expr_sorted
  sorted1 : Body3 E P 193 F.expr_sorted_c1
  names : Body1 E P 181 F.expr_Names
  names1 : Body1 E P 189 F.expr_Names_c1
  edges : Body1 E P 184 F.expr_Edges
  edges1 : Body1 E P 192 F.expr_Edges_c1
  sortN : FX E P 194 [nilS] (.tup [])
  sortC : ∀ {H : AH} {b g : Nat} {l : List Str}, l.length < 4611686018427387904 → H.bs[b]? = some (.cells g 1 (l.map fun s => S s)) → ACalls E P 194 [.slL b 0 l.length g] H fun r H' => r = .tup [] ∧ H' = ⟨H.bs.set b (.cells g 1 ((sortS l).map fun s => S s)), H.ctr⟩
  compN : FX E P 195 [nilS] nilS
  compC : ∀ {H : AH} {b g : Nat} {l : List Str}, l.length < 4611686018427387904 → H.bs[b]? = some (.cells g 1 (l.map fun s => S s)) → ACalls E P 195 [.slL b 0 l.length g] H fun r H' => r = .slL b 0 (packS l).length g ∧ H' = ⟨H.bs.set b (.cells g 1 ((packS l ++ List.replicate (l.length - (packS l).length) []).map fun s => S s)), H.ctr⟩
section
variable {E : Env} {P : Program}
theorem look_spec (B : SortedBodies E P) {kn : Nat} {nf : Ex → Str} (hnf : ∀ y, FX E P kn [y.enc] (S (nf y))) {g0 : Nat} {l : List Str} (hl : l.length < 10000000) (y : Ex) {H : AH} (hH : SO g0 l H) :
    ACalls E P 193 [y.enc, .ptrF [.fn kn [] []] 0, .ptrL 0 0 g0] H fun r H' => r = .tup [] ∧ SO g0 (l ++ nmL nf y) H' := by
  obtain ⟨x, tb, c, rfl, ht⟩ := hH
  refine B.sorted1 _ _ _ _ _ ?_
  unfold F.expr_sorted_c1
  simp only [nd0, Y1n, Y1o, Y1p, Y1q, Y1w, Y1x, Y1y, Y1z, Y20, Y21, Y28, Y2a, AV.cells?, Nat.reduceAdd, Nat.reduceMul]
  refine wCallV.fx (fs := []) (cs := []) (hnf y) fun n1 => ?_
  simp only [nd0, Y1n, Y1o, Y1p, Y1q, Y1w, Y1x, Y1y, Y1z, Y20, Y21, Y28, Y2a, AV.cells?, Nat.reduceAdd, Nat.reduceMul, show (AV.val (.string ⟨#[]⟩)) = S [] from rfl]
  by_cases hn : nf y = []
  · simp only [nd0, Y1n, Y1o, Y1p, Y1q, Y1w, Y1x, Y1y, Y1z, Y20, Y21, Y28, Y2a, AV.cells?, Nat.reduceAdd, Nat.reduceMul, decide_eq_true hn]
    unfold nmL
    rw [if_pos hn, List.append_nil]
    exact ⟨trivial, x, tb, n1, rfl, ht⟩
  · simp only [nd0, Y1n, Y1o, Y1p, Y1q, Y1w, Y1x, Y1y, Y1z, Y20, Y21, Y28, Y2a, AV.cells?, Nat.reduceAdd, Nat.reduceMul, decide_eq_false hn]
    unfold nmL
    rw [if_neg hn]
    refine wNewS.F' (l := [S (nf y)]) rfl rfl ?_
    rcases ht with ⟨rfl, rfl, rfl⟩ | ⟨g1, rfl, rfl⟩
    · refine ⟨_, _, .old (r := .slL 1 0 1 n1) (H' := ⟨[.cells g0 1 [nilS], .cells n1 1 [S (nf y)]], n1 + 1⟩) rfl, ?_⟩
      rw [store1_L rfl]
      simp only [nd0, Y1n, Y1o, Y1p, Y1q, Y1w, Y1x, Y1y, Y1z, Y20, Y21, Y28, Y2a, AV.cells?, Nat.reduceAdd, Nat.reduceMul, Nat.reduceLT]
      exact ⟨trivial, .slL 1 0 1 n1, _, _, rfl, .inr ⟨n1, rfl, rfl⟩⟩
    · have happ : appendA 1 16 (.slL 1 0 l.length g1) (.slN [S (nf y)] 1) ⟨[.cells g0 1 [.slL 1 0 l.length g1], .cells g1 1 (l.map fun s => S s)], n1⟩
          = some (.slL 1 0 (l.length + 1) n1, ⟨[.cells g0 1 [.slL 1 0 l.length g1], .cells n1 1 ((l ++ [nf y]).map fun s => S s)], n1 + 1⟩) := by
        have hb : (l.length + 1) * 16 ≤ mostBytes ∧ l.length + 1 ≤ mostBytes := by simp [mostBytes]; omega
        simp [appendA, cellsOfA, subL, AH.cells, AH.esz, hb, AV.scalar]
      refine ⟨_, _, .old happ, ?_⟩
      rw [store1_L rfl]
      simp only [nd0, Y1n, Y1o, Y1p, Y1q, Y1w, Y1x, Y1y, Y1z, Y20, Y21, Y28, Y2a, AV.cells?, Nat.reduceAdd, Nat.reduceMul, Nat.reduceLT]
      exact ⟨trivial, .slL 1 0 (l.length + 1) n1, _, _, rfl, .inr ⟨n1, by simp, rfl⟩⟩
def WalkOk (E : Env) (P : Program) (kn g0 : Nat) (nf : Ex → Str) (x : Ex) : Prop := ∀ (l : List Str) (H : AH), l.length + x.size < 10000000 → SO g0 l H → ACalls E P 161 [x.enc, .fn 193 [] [.ptrF [.fn kn [] []] 0, .ptrL 0 0 g0]] H fun r H' => r = .tup [] ∧ SO g0 (l ++ x.raw nf) H'
theorem sizeL_app : ∀ a b : List Ex, Ex.sizeL (a ++ b) = Ex.sizeL a + Ex.sizeL b
  | [], b => by simp [Ex.sizeL]
  | x :: a, b => by simp only [List.cons_append, Ex.sizeL, sizeL_app a b]; omega
theorem walkSL_spec {kn g0 : Nat} {nf : Ex → Str} (xs : List Ex) (hx : ∀ x ∈ xs, WalkOk E P kn g0 nf x) (hlen : xs.length < 10000000) (l : List Str) (hn : l.length + Ex.sizeL xs < 10000000) {H0 : AH} (hH0 : SO g0 l H0) {R : Kt} (hR : ∀ H, SO g0 (l ++ Ex.rawL nf xs) H → R (.tup []) H) :
    wLoop 1 (fun I1 => I1 (Z 0) H0) fun I1 t27 H =>
      wGet (binA .lss t27 (Z xs.length)) H fun t28 H =>
      wIf t28 (
        wGet (iaddr 1 (.slN (Ex.encL xs) xs.length) t27) H fun t29 H =>
        wGet (load1 t29 H) H fun t30 H =>
        wCall E P 161 [t30, .fn 193 [] [.ptrF [.fn kn [] []] 0, .ptrL 0 0 g0]] H fun t33 H =>
        wGet (binA .add t27 (.val (.int .i64 1))) H fun t34 H =>
        I1 t34 H) (
        R (.tup []) H) := by
  refine wLoop.one (fun m i H => ∃ pre r, xs = pre ++ r ∧ i = Z pre.length ∧ m = r.length ∧ SO g0 (l ++ Ex.rawL nf pre) H) xs.length (gh1.mk ⟨[], xs, rfl, rfl, rfl, by simpa [Ex.rawL] using hH0⟩) ?_
  rintro m i H ⟨pre, r, rfl, rfl, rfl, hH⟩
  cases r with
  | nil =>
    rw [List.append_nil] at hR ⊢
    simp only [nd0, Y1n, Y1o, Y1p, Y1q, Y1w, Y1x, Y1y, Y1z, Y20, Y21, Y28, Y2a, AV.cells?, Nat.reduceAdd, Nat.reduceMul, Int.lt_irrefl]
    exact hR _ hH
  | cons x r =>
    rw [sizeL_app] at hn
    simp only [Ex.sizeL] at hn
    simp only [nd0, Y1n, Y1o, Y1p, Y1q, Y1w, Y1x, Y1y, Y1z, Y20, Y21, Y28, Y2a, AV.cells?, Nat.reduceAdd, Nat.reduceMul, decide_eq_true (show (pre.length : Int) < ((pre ++ x :: r).length : Int) by simp; omega)]
    rw [iaddr_Nn lt_mid]
    simp only [nd0, Y1n, Y1o, Y1p, Y1q, Y1w, Y1x, Y1y, Y1z, Y20, Y21, Y28, Y2a, AV.cells?, Nat.reduceAdd, Nat.reduceMul, show (Ex.encL (pre ++ x :: r))[pre.length]? = some x.enc by rw [Ex.encL_map]; simp]
    have hrl := Ex.rawL_len nf pre
    refine ⟨_, hx x (by simp) _ _ (by rw [List.length_append]; omega) hH, ?_⟩
    rintro rr H' ⟨rfl, hH'⟩
    rw [binA_succ (by simp at hlen; omega)]
    simp only [nd0, Y1n, Y1o, Y1p, Y1q, Y1w, Y1x, Y1y, Y1z, Y20, Y21, Y28, Y2a, AV.cells?, Nat.reduceAdd, Nat.reduceMul]
    refine back1.mk r.length (by simp) ⟨pre ++ [x], r, by simp, by simp, rfl, ?_⟩
    rw [Ex.rawL_append]
    simpa [Ex.rawL, List.append_assoc] using hH'
theorem walkS_spec (B : SortedBodies E P) {kn : Nat} {nf : Ex → Str} (hnf : ∀ y, FX E P kn [y.enc] (S (nf y))) {g0 : Nat} : ∀ (k : Nat) (x : Ex), x.wt < k → x.wt ≤ 1000000 → x.fine → WalkOk E P kn g0 nf x := by
  intro k
  induction k with
  | zero => intro x h; omega
  | succ k ih =>
    intro x hx hw hf l H hn hH
    refine B.walk _ _ _ _ ?_
    unfold F.expr_walk
    have h1 : 1 ≤ x.size := by cases x <;> simp [Ex.size]
    refine ⟨⟨193, [], _, rfl, _, look_spec B hnf (by omega) x hH, ?_⟩⟩
    rintro r H1 ⟨rfl, hH1⟩
    have hl1 : (l ++ nmL nf x).length ≤ l.length + 1 := by rw [List.length_append]; have := nmL_len nf x; omega
    have fin : x.raw nf = nmL nf x → SO g0 (l ++ x.raw nf) H1 := fun e => by rw [e]; exact hH1
    cases x with
    | k b => simp only [Ex.enc]; simp only [nd0, Y1n, Y1o, Y1p, Y1q, Y1w, Y1x, Y1y, Y1z, Y20, Y21, Y28, Y2a, AV.cells?, Nat.reduceAdd, Nat.reduceMul, asA, show (11 : Nat) = 10 ↔ False by decide, show (11 : Nat) = 9 ↔ False by decide, show (11 : Nat) = 8 ↔ False by decide]; exact ⟨trivial, fin rfl⟩
    | bit b => simp only [Ex.enc]; simp only [nd0, Y1n, Y1o, Y1p, Y1q, Y1w, Y1x, Y1y, Y1z, Y20, Y21, Y28, Y2a, AV.cells?, Nat.reduceAdd, Nat.reduceMul, asA, show (14 : Nat) = 10 ↔ False by decide, show (14 : Nat) = 9 ↔ False by decide, show (14 : Nat) = 8 ↔ False by decide]; exact ⟨trivial, fin rfl⟩
    | rise b => simp only [Ex.enc]; simp only [nd0, Y1n, Y1o, Y1p, Y1q, Y1w, Y1x, Y1y, Y1z, Y20, Y21, Y28, Y2a, AV.cells?, Nat.reduceAdd, Nat.reduceMul, asA, show (12 : Nat) = 10 ↔ False by decide, show (12 : Nat) = 9 ↔ False by decide, show (12 : Nat) = 8 ↔ False by decide]; exact ⟨trivial, fin rfl⟩
    | fall b => simp only [Ex.enc]; simp only [nd0, Y1n, Y1o, Y1p, Y1q, Y1w, Y1x, Y1y, Y1z, Y20, Y21, Y28, Y2a, AV.cells?, Nat.reduceAdd, Nat.reduceMul, asA, show (13 : Nat) = 10 ↔ False by decide, show (13 : Nat) = 9 ↔ False by decide, show (13 : Nat) = 8 ↔ False by decide]; exact ⟨trivial, fin rfl⟩
    | not y =>
      simp only [Ex.enc]
      simp only [Ex.wt] at hw hx
      simp only [Ex.size] at hn
      simp only [nd0, Y1n, Y1o, Y1p, Y1q, Y1w, Y1x, Y1y, Y1z, Y20, Y21, Y28, Y2a, AV.cells?, Nat.reduceAdd, Nat.reduceMul, asA, show (10 : Nat) = 10 ↔ True by decide]
      obtain ⟨x, tb, c, rfl, ht⟩ := hH1
      refine wNew.L (l := [nilE]) rfl ?_
      have hlast : ((Blk.cells g0 1 [x] :: tb) ++ [Blk.cells c 1 [nilE]])[(Blk.cells g0 1 [x] :: tb).length]? = some (.cells c 1 [nilE]) := by simp
      have hst : storeN 1 (.ptrL (Blk.cells g0 1 [x] :: tb).length 0 c) (.agg [y.enc]) ⟨(Blk.cells g0 1 [x] :: tb) ++ [Blk.cells c 1 [nilE]], c + 1⟩ = some ⟨(Blk.cells g0 1 [x] :: tb) ++ [Blk.cells c 1 [y.enc]], c + 1⟩ := by
        rw [storeN_L (n := 1) (xs := [y.enc]) rfl (by simp [Ex.enc_scalar]), hlast, blkDo_self]
        simp [putL]
      refine ⟨⟨_, hst, ?_⟩⟩
      refine wGet_some.2 ?_
      refine ⟨⟨y.enc, by simp [load1, AH.cells], ?_⟩⟩
      refine ⟨_, ACalls.args (ghost_drop _) (ih y (by omega) (by omega) hf _ ⟨Blk.cells g0 1 [x] :: tb, c + 1⟩ (by omega) ⟨x, tb, c + 1, rfl, ht⟩), ?_⟩
      rintro r H2 ⟨rfl, hH2⟩
      refine ⟨trivial, ?_⟩
      simp only [Ex.raw]
      rw [← List.append_assoc]; exact hH2
    | and xs =>
      simp only [Ex.enc]
      simp only [Ex.wt] at hw hx
      simp only [Ex.size] at hn
      have hll := Ex.len_wtL hf.2
      simp only [nd0, Y1n, Y1o, Y1p, Y1q, Y1w, Y1x, Y1y, Y1z, Y20, Y21, Y28, Y2a, AV.cells?, Nat.reduceAdd, Nat.reduceMul, asA, show (9 : Nat) = 10 ↔ False by decide, show (9 : Nat) = 9 ↔ True by decide]
      refine walkSL_spec (R := fun r H' => True ∧ SO g0 (l ++ (Ex.and xs).raw nf) H') xs (fun y hy => ih y (by have := Ex.wt_mem hy; omega) (by have := Ex.wt_mem hy; omega) (Ex.fine_mem hf.2 hy)) (by omega) _ (by omega) hH1 fun H2 hH2 => ⟨trivial, ?_⟩
      simp only [Ex.raw]
      rw [← List.append_assoc]; exact hH2
    | or xs =>
      simp only [Ex.enc]
      simp only [Ex.wt] at hw hx
      simp only [Ex.size] at hn
      have hll := Ex.len_wtL hf.2
      simp only [nd0, Y1n, Y1o, Y1p, Y1q, Y1w, Y1x, Y1y, Y1z, Y20, Y21, Y28, Y2a, AV.cells?, Nat.reduceAdd, Nat.reduceMul, asA, show (8 : Nat) = 10 ↔ False by decide, show (8 : Nat) = 9 ↔ False by decide, show (8 : Nat) = 8 ↔ True by decide]
      refine walkSL_spec (R := fun r H' => True ∧ SO g0 (l ++ (Ex.or xs).raw nf) H') xs (fun y hy => ih y (by have := Ex.wt_mem hy; omega) (by have := Ex.wt_mem hy; omega) (Ex.fine_mem hf.2 hy)) (by omega) _ (by omega) hH1 fun H2 hH2 => ⟨trivial, ?_⟩
      simp only [Ex.raw]
      rw [← List.append_assoc]; exact hH2
/-- sorted, each once -/
def onceS (l : List Str) : List Str := packS (sortS l)
theorem onceS_mem {l : List Str} {x : Str} : x ∈ onceS l ↔ x ∈ l := packS_mem.trans sortS_mem
theorem onceS_length (l : List Str) : (onceS l).length ≤ l.length := by
  have := packS_length (sortS l)
  rw [sortS_length] at this
  exact this
theorem sorted_spec (B : SortedBodies E P) {kn : Nat} {nf : Ex → Str} (hnf : ∀ y, FX E P kn [y.enc] (S (nf y))) (x : Ex) (hw : x.wt ≤ 1000000) (hf : x.fine) : FX E P 190 [x.enc, .fn kn [] []] (Lm S (onceS (x.raw nf))) := by
  refine FX.of ⟨Ex.enc_closed x, ⟨trivial, trivial⟩, trivial⟩ (closed_S _) fun n R hR => B.sorted _ _ _ _ ?_
  unfold F.expr_sorted
  rw [cells?_scalar (show (AV.fn kn [] []).scalar = true from rfl)]
  refine wNew.F' rfl ?_
  refine wNew.L (l := [nilS]) rfl ?_
  have hsz := Ex.size_wt x hf
  have hrl := Ex.raw_len nf x
  refine ⟨_, walkS_spec B hnf (x.wt + 1) x (by omega) hw hf [] _ (by simp; omega) ⟨nilS, [], _, rfl, .inl ⟨rfl, rfl, rfl⟩⟩, ?_⟩
  rintro r H1 ⟨rfl, y, tb, c, rfl, ht⟩
  rw [List.nil_append] at ht
  simp only [nd0, Y1n, Y1o, Y1p, Y1q, Y1w, Y1x, Y1y, Y1z, Y20, Y21, Y28, Y2a, AV.cells?, Nat.reduceAdd, Nat.reduceMul]
  rcases ht with ⟨rfl, hz, rfl⟩ | ⟨g1, rfl, rfl⟩
  · refine wCall.fx B.sortN fun n2 => ?_
    simp only [nd0, Y1n, Y1o, Y1p, Y1q, Y1w, Y1x, Y1y, Y1z, Y20, Y21, Y28, Y2a, AV.cells?, Nat.reduceAdd, Nat.reduceMul]
    refine wCall.fx B.compN fun n3 => ?_
    refine hR _ _ ?_
    rw [hz]
    have h0 : onceS [] = [] := List.eq_nil_of_length_eq_zero (by have := onceS_length []; simpa using this)
    rw [h0]
    exact .sub .nil
  · refine ⟨_, B.sortC (H := ⟨[.cells n 1 [.slL 1 0 (x.raw nf).length g1], .cells g1 1 ((x.raw nf).map fun s => S s)], c⟩) (b := 1) (by omega) rfl, ?_⟩
    rintro r H2 ⟨rfl, rfl⟩
    simp only [nd0, Y1n, Y1o, Y1p, Y1q, Y1w, Y1x, Y1y, Y1z, Y20, Y21, Y28, Y2a, AV.cells?, Nat.reduceAdd, Nat.reduceMul]
    have hlen := sortS_length (x.raw nf)
    rw [← hlen]
    refine ⟨_, B.compC (H := ⟨[.cells n 1 [.slL 1 0 (sortS (x.raw nf)).length g1], .cells g1 1 ((sortS (x.raw nf)).map fun s => S s)], c⟩) (b := 1) (by omega) rfl, ?_⟩
    rintro r H3 ⟨rfl, rfl⟩
    simp only [nd0, Y1n, Y1o, Y1p, Y1q, Y1w, Y1x, Y1y, Y1z, Y20, Y21, Y28, Y2a, AV.cells?, Nat.reduceAdd, Nat.reduceMul]
    refine hR _ _ ?_
    refine Fk.then (Fk.slF (H := ⟨[.cells n 1 [.slL 1 0 (sortS (x.raw nf)).length g1], .cells g1 1 ((packS (sortS (x.raw nf)) ++ List.replicate ((sortS (x.raw nf)).length - (packS (sortS (x.raw nf))).length) []).map fun s => S s)], c⟩) (b := 1) (ys := (onceS (x.raw nf)).map fun s => S s) (onceS (x.raw nf)).length rfl rfl ?_) .F'
    rw [List.drop_zero, List.map_append, List.take_append_of_le_length (by simp [onceS]), List.take_of_length_le (by simp [onceS])]
    exact FkL.same _
/-- its name, if it has one -/
def nf1 : Ex → Str
  | .bit s => s
  | .rise s => s
  | .fall s => s
  | _ => []
def nf2 : Ex → Str
  | .rise s => s
  | .fall s => s
  | _ => []
theorem names1_spec (B : SortedBodies E P) (y : Ex) : FX E P 189 [y.enc] (S (nf1 y)) := by
  refine FX.of' ⟨Ex.enc_closed y, trivial⟩ trivial fun n R hR => B.names1 _ _ _ ?_
  unfold F.expr_Names_c1
  cases y with
  | k b => simp only [Ex.enc]; simp only [nd0, Y1n, Y1o, Y1p, Y1q, Y1w, Y1x, Y1y, Y1z, Y20, Y21, Y28, Y2a, AV.cells?, Nat.reduceAdd, Nat.reduceMul, asA, show (11 : Nat) = 14 ↔ False by decide, show (11 : Nat) = 12 ↔ False by decide, show (11 : Nat) = 13 ↔ False by decide]; exact hR _ _ rfl
  | bit b => simp only [Ex.enc]; simp only [nd0, Y1n, Y1o, Y1p, Y1q, Y1w, Y1x, Y1y, Y1z, Y20, Y21, Y28, Y2a, AV.cells?, Nat.reduceAdd, Nat.reduceMul, asA, show (14 : Nat) = 14 ↔ True by decide]; exact hR _ _ rfl
  | rise b => simp only [Ex.enc]; simp only [nd0, Y1n, Y1o, Y1p, Y1q, Y1w, Y1x, Y1y, Y1z, Y20, Y21, Y28, Y2a, AV.cells?, Nat.reduceAdd, Nat.reduceMul, asA, show (12 : Nat) = 14 ↔ False by decide, show (12 : Nat) = 12 ↔ True by decide]; exact hR _ _ rfl
  | fall b => simp only [Ex.enc]; simp only [nd0, Y1n, Y1o, Y1p, Y1q, Y1w, Y1x, Y1y, Y1z, Y20, Y21, Y28, Y2a, AV.cells?, Nat.reduceAdd, Nat.reduceMul, asA, show (13 : Nat) = 14 ↔ False by decide, show (13 : Nat) = 12 ↔ False by decide, show (13 : Nat) = 13 ↔ True by decide]; exact hR _ _ rfl
  | not b => simp only [Ex.enc]; simp only [nd0, Y1n, Y1o, Y1p, Y1q, Y1w, Y1x, Y1y, Y1z, Y20, Y21, Y28, Y2a, AV.cells?, Nat.reduceAdd, Nat.reduceMul, asA, show (10 : Nat) = 14 ↔ False by decide, show (10 : Nat) = 12 ↔ False by decide, show (10 : Nat) = 13 ↔ False by decide]; exact hR _ _ rfl
  | and b => simp only [Ex.enc]; simp only [nd0, Y1n, Y1o, Y1p, Y1q, Y1w, Y1x, Y1y, Y1z, Y20, Y21, Y28, Y2a, AV.cells?, Nat.reduceAdd, Nat.reduceMul, asA, show (9 : Nat) = 14 ↔ False by decide, show (9 : Nat) = 12 ↔ False by decide, show (9 : Nat) = 13 ↔ False by decide]; exact hR _ _ rfl
  | or b => simp only [Ex.enc]; simp only [nd0, Y1n, Y1o, Y1p, Y1q, Y1w, Y1x, Y1y, Y1z, Y20, Y21, Y28, Y2a, AV.cells?, Nat.reduceAdd, Nat.reduceMul, asA, show (8 : Nat) = 14 ↔ False by decide, show (8 : Nat) = 12 ↔ False by decide, show (8 : Nat) = 13 ↔ False by decide]; exact hR _ _ rfl
theorem edges1_spec (B : SortedBodies E P) (y : Ex) : FX E P 192 [y.enc] (S (nf2 y)) := by
  refine FX.of' ⟨Ex.enc_closed y, trivial⟩ trivial fun n R hR => B.edges1 _ _ _ ?_
  unfold F.expr_Edges_c1
  cases y with
  | k b => simp only [Ex.enc]; simp only [nd0, Y1n, Y1o, Y1p, Y1q, Y1w, Y1x, Y1y, Y1z, Y20, Y21, Y28, Y2a, AV.cells?, Nat.reduceAdd, Nat.reduceMul, asA, show (11 : Nat) = 12 ↔ False by decide, show (11 : Nat) = 13 ↔ False by decide]; exact hR _ _ rfl
  | bit b => simp only [Ex.enc]; simp only [nd0, Y1n, Y1o, Y1p, Y1q, Y1w, Y1x, Y1y, Y1z, Y20, Y21, Y28, Y2a, AV.cells?, Nat.reduceAdd, Nat.reduceMul, asA, show (14 : Nat) = 12 ↔ False by decide, show (14 : Nat) = 13 ↔ False by decide]; exact hR _ _ rfl
  | rise b => simp only [Ex.enc]; simp only [nd0, Y1n, Y1o, Y1p, Y1q, Y1w, Y1x, Y1y, Y1z, Y20, Y21, Y28, Y2a, AV.cells?, Nat.reduceAdd, Nat.reduceMul, asA, show (12 : Nat) = 12 ↔ True by decide]; exact hR _ _ rfl
  | fall b => simp only [Ex.enc]; simp only [nd0, Y1n, Y1o, Y1p, Y1q, Y1w, Y1x, Y1y, Y1z, Y20, Y21, Y28, Y2a, AV.cells?, Nat.reduceAdd, Nat.reduceMul, asA, show (13 : Nat) = 12 ↔ False by decide, show (13 : Nat) = 13 ↔ True by decide]; exact hR _ _ rfl
  | not b => simp only [Ex.enc]; simp only [nd0, Y1n, Y1o, Y1p, Y1q, Y1w, Y1x, Y1y, Y1z, Y20, Y21, Y28, Y2a, AV.cells?, Nat.reduceAdd, Nat.reduceMul, asA, show (10 : Nat) = 12 ↔ False by decide, show (10 : Nat) = 13 ↔ False by decide]; exact hR _ _ rfl
  | and b => simp only [Ex.enc]; simp only [nd0, Y1n, Y1o, Y1p, Y1q, Y1w, Y1x, Y1y, Y1z, Y20, Y21, Y28, Y2a, AV.cells?, Nat.reduceAdd, Nat.reduceMul, asA, show (9 : Nat) = 12 ↔ False by decide, show (9 : Nat) = 13 ↔ False by decide]; exact hR _ _ rfl
  | or b => simp only [Ex.enc]; simp only [nd0, Y1n, Y1o, Y1p, Y1q, Y1w, Y1x, Y1y, Y1z, Y20, Y21, Y28, Y2a, AV.cells?, Nat.reduceAdd, Nat.reduceMul, asA, show (8 : Nat) = 12 ↔ False by decide, show (8 : Nat) = 13 ↔ False by decide]; exact hR _ _ rfl
def Ex.names (x : Ex) : List Str := onceS (x.raw nf1)
def Ex.edges (x : Ex) : List Str := onceS (x.raw nf2)
theorem Names_spec (B : SortedBodies E P) (x : Ex) (hw : x.wt ≤ 1000000) (hf : x.fine) : FX E P 181 [x.enc] (Lm S x.names) := by
  refine FX.of' ⟨Ex.enc_closed x, trivial⟩ (closed_S _) fun n R hR => B.names _ _ _ ?_
  unfold F.expr_Names
  exact wCall.fx (sorted_spec B (names1_spec B) x hw hf) fun n => hR _ _ rfl
theorem Edges_spec (B : SortedBodies E P) (x : Ex) (hw : x.wt ≤ 1000000) (hf : x.fine) : FX E P 184 [x.enc] (Lm S x.edges) := by
  refine FX.of' ⟨Ex.enc_closed x, trivial⟩ (closed_S _) fun n R hR => B.edges _ _ _ ?_
  unfold F.expr_Edges
  exact wCall.fx (sorted_spec B (edges1_spec B) x hw hf) fun n => hR _ _ rfl
end
end Go.Sc
namespace Go.Sc
open Go
set_option linter.unusedSimpArgs false
set_option linter.unusedVariables false
theorem str_lt_le {a b : Str} (h : a < b) : a ≤ b := fun h2 => List.lt_irrefl a (List.lt_trans h h2)
theorem str_ne_lt {a b : Str} (h : a ≤ b) (hn : a ≠ b) : a < b := by
  cases Classical.em (a < b) with
  | inl h1 => exact h1
  | inr h1 => exact absurd (List.le_antisymm h h1) hn
theorem str_lt_of_le_lt {a b c : Str} (h : a ≤ b) (h2 : b < c) : a < c := by
  by_cases e : a = b
  · exact e ▸ h2
  · exact List.lt_trans (str_ne_lt h e) h2
theorem strict_ext : ∀ {l m : List Str}, l.Pairwise (· < ·) → m.Pairwise (· < ·) → (∀ x, x ∈ l ↔ x ∈ m) → l = m
  | [], [], _, _, _ => rfl
  | [], b :: m, _, _, h => absurd ((h b).2 (by simp)) (by simp)
  | a :: l, [], _, _, h => absurd ((h a).1 (by simp)) (by simp)
  | a :: l, b :: m, hl, hm, h => by
    rw [List.pairwise_cons] at hl hm
    have hab : a = b := by
      rcases List.mem_cons.1 ((h a).1 (by simp)) with e | h1
      · exact e
      · rcases List.mem_cons.1 ((h b).2 (by simp)) with e | h2
        · exact e.symm
        · exact absurd (List.lt_trans (hm.1 a h1) (hl.1 b h2)) (List.lt_irrefl b)
    subst hab
    congr 1
    refine strict_ext hl.2 hm.2 fun x => ⟨fun hx => ?_, fun hx => ?_⟩
    · rcases List.mem_cons.1 ((h x).1 (List.mem_cons_of_mem _ hx)) with e | h1
      · exact absurd (e ▸ hl.1 x hx) (List.lt_irrefl _)
      · exact h1
    · rcases List.mem_cons.1 ((h x).2 (List.mem_cons_of_mem _ hx)) with e | h1
      · exact absurd (e ▸ hm.1 x hx) (List.lt_irrefl _)
      · exact h1
theorem compact_strict {d : Array Str} (hs : ∀ i j, i < j → j < d.size → d[i]! ≤ d[j]!) : ∀ m, m ≤ d.size → (Lib.compactUpTo d m).Pairwise (· < ·) ∧ (0 < m → ∀ x ∈ Lib.compactUpTo d m, x ≤ d[m - 1]!)
  | 0, _ => by simp [Lib.compactUpTo]
  | m + 1, hm => by
    obtain ⟨h1, h2⟩ := compact_strict hs m (by omega)
    rw [Lib.compactUpTo_succ]
    have hle : 0 < m → d[m - 1]! ≤ d[m]! := fun h => hs _ _ (by omega) (by omega)
    by_cases hk : Lib.keeps d m = true
    · rw [if_pos hk]
      have hlt : ∀ x ∈ Lib.compactUpTo d m, x < d[m]! := fun x hx => by
        by_cases h0 : m = 0
        · subst h0; simp [Lib.compactUpTo] at hx
        · have hne : d[m]! ≠ d[m - 1]! := by simpa [Lib.keeps, h0] using hk
          exact str_lt_of_le_lt (h2 (by omega) x hx) (str_ne_lt (hle (by omega)) (Ne.symm hne))
      refine ⟨List.pairwise_append.2 ⟨h1, by simp, fun a ha b hb => ?_⟩, fun _ x hx => ?_⟩
      · simp at hb; subst hb; exact hlt a ha
      · rcases List.mem_append.1 hx with hx | hx
        · exact str_lt_le (hlt x hx)
        · simp at hx; subst hx; exact List.le_refl _
    · rw [if_neg hk, List.append_nil]
      refine ⟨h1, fun _ x hx => ?_⟩
      have h0 : 0 < m := by
        rcases Nat.eq_zero_or_pos m with h | h
        · subst h; simp [Lib.keeps] at hk
        · exact h
      exact List.le_trans (h2 h0 x hx) (hle h0)
theorem sortS_sorted (l : List Str) : (sortS l).Pairwise (· ≤ ·) := by
  have := List.pairwise_mergeSort (le := fun x y : Str => decide (x ≤ y)) (fun a b c h1 h2 => by simp only [decide_eq_true_eq] at *; exact List.le_trans h1 h2) (fun a b => by simp only [Bool.or_eq_true, decide_eq_true_eq]; exact List.le_total a b) l
  simpa [sortS] using this
theorem onceS_strict (l : List Str) : (onceS l).Pairwise (· < ·) := by
  unfold onceS packS Lib.compact
  have := sortS_sorted l
  generalize sortS l = m at this
  refine (compact_strict (d := m.toArray) (fun i j hij hj => ?_) m.length (by simp)).1
  have hj' : j < m.length := by simpa using hj
  have := List.pairwise_iff_getElem.1 this i j (by omega) hj' hij
  simpa [getElem!_pos, hj', show i < m.length by omega] using this
/-- put in its place, unless it is there -/
def insA (s : Str) : List Str → Nat
  | [] => 0
  | x :: l => if x < s then insA s l + 1 else 0
def insN (l : List Str) (s : Str) : List Str := if l[insA s l]? = some s then l else l.take (insA s l) ++ s :: l.drop (insA s l)
theorem insA_le (s : Str) : ∀ l, insA s l ≤ l.length
  | [] => by simp [insA]
  | x :: l => by have := insA_le s l; simp only [insA, List.length_cons]; split <;> omega
theorem insN_cons (x : Str) (l : List Str) (s : Str) : insN (x :: l) s = if x < s then x :: insN l s else if x = s then x :: l else s :: x :: l := by
  by_cases h : x < s
  · have e : insA s (x :: l) = insA s l + 1 := by simp [insA, h]
    simp only [insN, e, List.getElem?_cons_succ, if_pos h, List.take_succ_cons, List.drop_succ_cons]
    split <;> rfl
  · have e : insA s (x :: l) = 0 := by simp [insA, h]
    simp [insN, e, h]
theorem insN_mem {s x : Str} : ∀ {l : List Str}, x ∈ insN l s ↔ x ∈ l ∨ x = s
  | [] => by simp [insN, insA]
  | y :: l => by
    rw [insN_cons]
    split
    · rw [List.mem_cons, insN_mem (l := l), List.mem_cons, or_assoc]
    · split
      · rename_i h; subst h; simp only [List.mem_cons]; exact ⟨.inl, fun h => h.elim id .inl⟩
      · simp only [List.mem_cons]; constructor <;> (intro h; rcases h with h | h | h <;> simp_all)
theorem insN_strict {s : Str} : ∀ {l : List Str}, l.Pairwise (· < ·) → (insN l s).Pairwise (· < ·)
  | [], _ => by simp [insN, insA]
  | y :: l, h => by
    rw [List.pairwise_cons] at h
    rw [insN_cons]
    split
    · rename_i hys
      rw [List.pairwise_cons]
      refine ⟨fun x hx => ?_, insN_strict h.2⟩
      rcases insN_mem.1 hx with hx | rfl
      · exact h.1 x hx
      · exact hys
    · rename_i hn
      split
      · rw [List.pairwise_cons]; exact h
      · rename_i hne
        have hsy : s < y := str_ne_lt hn (fun e => hne e.symm)
        rw [List.pairwise_cons, List.pairwise_cons]
        refine ⟨fun x hx => ?_, h⟩
        rcases List.mem_cons.1 hx with rfl | hx
        · exact hsy
        · exact List.lt_trans hsy (h.1 x hx)
theorem insN_length (l : List Str) (s : Str) : (insN l s).length ≤ l.length + 1 := by
  have := insA_le s l
  unfold insN
  split
  · omega
  · simp; omega
def insAll (l : List Str) (m : List Str) : List Str := m.foldl insN l
theorem insAll_mem {x : Str} : ∀ {m l : List Str}, x ∈ insAll l m ↔ x ∈ l ∨ x ∈ m
  | [], l => by simp [insAll]
  | s :: m, l => by
    show x ∈ insAll (insN l s) m ↔ _
    rw [insAll_mem, insN_mem, List.mem_cons, or_assoc]
theorem insAll_strict : ∀ {m l : List Str}, l.Pairwise (· < ·) → (insAll l m).Pairwise (· < ·)
  | [], l, h => h
  | s :: m, l, h => insAll_strict (l := insN l s) (m := m) (insN_strict h)
theorem insAll_once (m : List Str) : insAll [] m = onceS m :=
  strict_ext (insAll_strict .nil) (onceS_strict m) fun x => by rw [insAll_mem, onceS_mem]; simp
theorem insAll_length : ∀ (m l : List Str), (insAll l m).length ≤ l.length + m.length
  | [], l => by simp [insAll]
  | s :: m, l => by
    have h1 := insAll_length m (insN l s)
    have h2 := insN_length l s
    show (insAll (insN l s) m).length ≤ _
    simp only [List.length_cons]; omega
theorem insAll_append (l a b : List Str) : insAll l (a ++ b) = insAll (insAll l a) b := List.foldl_append ..
theorem bytesLess_lt : ∀ (x y : Str), Op.bytesLess x y = decide (x < y)
  | [], [] => by simp [Op.bytesLess]
  | _ :: _, [] => by simp [Op.bytesLess]
  | [], _ :: _ => by simp [Op.bytesLess]
  | a :: x, b :: y => by
    rw [Op.bytesLess, bytesLess_lt x y]
    rw [Bool.eq_iff_iff]
    simp only [Bool.or_eq_true, Bool.and_eq_true, decide_eq_true_eq, beq_iff_eq, List.cons_lt_cons_iff]
theorem binA_slt {s t : Str} : binA .lss (S s) (S t) = some (Bo (decide (s < t))) := by
  simp only [binA, strBin, Option.map_some, toList_mk, bytesLess_lt]
end Go.Sc
namespace Go.Sc
open Go
set_option linter.unusedSimpArgs false
set_option linter.unusedVariables false
def Ex.other : Ex → Ex
  | .not x => x
  | x => .not x
def hasT (l : List Ex) (t : Str) : Bool := l.any fun z => decide (z.wr 0 = t)
def addP (l : List Ex) (y : Ex) : Option (List Ex) := if hasT l (y.wr 0) = true then some l else if hasT l (y.other.wr 0) = true then none else some (l ++ [y])
def addAll : List Ex → List Ex → Option (List Ex)
  | l, [] => some l
  | l, y :: ys => match addP l y with
    | none => none
    | some l' => addAll l' ys
def pieces (mode : Bool) : Ex → Option (List Ex)
  | .k b => if b = mode then some [] else none
  | .and l => some (if mode then l else [.and l])
  | .or l => some (if mode then [.or l] else l)
  | x => some [x]
def packT (mode : Bool) : Option (List Ex) → Ex
  | none => .k (!mode)
  | some [] => .k mode
  | some [x] => x
  | some l => if mode then .and l else .or l
def notT : Ex → Ex
  | .k b => .k !b
  | .not y => y
  | y => .not y
mutual
def Ex.tidy : Ex → Ex
  | .not x => notT x.tidy
  | .and l => packT true (Ex.tidyL true l [])
  | .or l => packT false (Ex.tidyL false l [])
  | x => x
def Ex.tidyL (mode : Bool) : List Ex → List Ex → Option (List Ex)
  | [], acc => some acc
  | x :: l, acc => match pieces mode x.tidy with
    | none => none
    | some ps => match addAll acc ps with
      | none => none
      | some acc' => Ex.tidyL mode l acc'
end
/-! ### what is kept -/
/-! ### it says the same -/
section
variable {p q : Str → Bool}
end
end Go.Sc
namespace Go.Sc
open Go
set_option linter.unusedSimpArgs false
set_option linter.unusedVariables false
set_option linter.unnecessarySimpa false
section
variable {E : Env} {P : Program}
theorem lit (a : Array UInt8) : (AV.val (.string ⟨a⟩)) = S a.toList := by simp
end
end Go.Sc
namespace Go.Sc.F
open Go Go.Sc
set_option linter.unusedVariables false
/-- signalbox/signalboxlaw.read -/
def law_read (E : Env) (P : Program) (a0 : AV) (H : AH) (R : Kt) : Prop :=
  wGet (lenS a0) H fun t10 H =>
  wGet (binA .gtr t10 (.val (.int .i64 1000))) H fun t11 H =>
  wIf t11 (
    R (.tup [(.val (.nilIface)), (.val (.pointer none)), (.val (.bool false))]) H) (
    wCall E P 125 [a0] H fun t14 H =>
    wGet (extractA t14 0) H fun t15 H =>
    wGet (extractA t14 1) H fun t16 H =>
    wNew 2 (some [(.val (.int .i64 0)), (.val (.int .i64 0))]) H fun t6 H =>
    wPut (storeN 2 t6 t16 H) fun _u H =>
    wGet (faddr 0 t6) H fun t17 H =>
    wGet (load1 t17 H) H fun t18 H =>
    wGet (binA .neq t18 (.val (.int .i64 0))) H fun t19 H =>
    wIf t19 (
      R (.tup [(.val (.nilIface)), (.val (.pointer none)), (.val (.bool false))]) H) (
      wCall E P 126 [a0] H fun t22 H =>
      wGet (extractA t22 0) H fun t23 H =>
      wGet (extractA t22 1) H fun t24 H =>
      wBool (eqA .iface t24 (.val (.nilIface))) H true fun t26 H =>
      wIf t26 (
        R (.tup [(.val (.nilIface)), t15, (.val (.bool true))]) H) (
        R (.tup [t23, t15, (.val (.bool true))]) H)))

end Go.Sc.F
namespace Go.Sc
open Go
set_option linter.unusedSimpArgs false
set_option linter.unusedVariables false
set_option linter.unnecessarySimpa false
def kS (b : Bool) : Str := if b then [49] else [48]
theorem k_ref (b : Bool) : (Ex.k b).ref = .ptrF [S (kS b), S [], nilS] 0 := rfl
section
variable {E : Env} {P : Program}
end
end Go.Sc
namespace Go.Sc
open Go
set_option linter.unusedSimpArgs false
set_option linter.unusedVariables false
set_option linter.unnecessarySimpa false
structure RefSaysBodies0 (E : Env) (P : Program) : Prop where
  size : Body1 E P 186 F.pref_Expr_Size
  names : Body1 E P 182 F.pref_Expr_Names
  edges : Body1 E P 185 F.pref_Expr_Edges
  named : Body2 E P 191 F.pref_Expr_named
  named1 : Body4 E P 196 F.pref_Expr_named_c1
  con : ∀ s t : Str, s.length ≤ 1000 → FX E P 199 [S s, S t] (Bo (Lib.contains s t))
section
variable {E : Env} {P : Program}
theorem of_len (x : Ex) : ∃ l : List Ex, (x.of = .slN (Ex.refL l) l.length ∨ (x.of = nilS ∧ l = [])) ∧ x.size = Ex.sizeL l + 1 ∧ ∀ y ∈ l, y.wt < x.wt ∧ (x.fine → y.fine) := by
  cases x with
  | not y => exact ⟨[y], .inl rfl, by simp [Ex.size, Ex.sizeL], fun z hz => by simp at hz; subst hz; exact ⟨by simp [Ex.wt], fun h => h⟩⟩
  | and l => exact ⟨l, .inl rfl, rfl, fun z hz => ⟨by have := Ex.wt_mem hz; simp only [Ex.wt]; omega, fun h => Ex.fine_mem h.2 hz⟩⟩
  | or l => exact ⟨l, .inl rfl, rfl, fun z hz => ⟨by have := Ex.wt_mem hz; simp only [Ex.wt]; omega, fun h => Ex.fine_mem h.2 hz⟩⟩
  | _ => exact ⟨[], .inr ⟨rfl, rfl⟩, rfl, by simp⟩
theorem of_length {x : Ex} {l : List Ex} (h : x.of = .slN (Ex.refL l) l.length ∨ (x.of = nilS ∧ l = [])) : lenA x.of = some (Z l.length) := by
  rcases h with h | ⟨h, rfl⟩ <;> rw [h] <;> rfl
theorem refSize_spec (B : RefSaysBodies0 E P) : ∀ (n : Nat) (x : Ex), x.wt < n → x.wt ≤ 1000000 → x.fine → FX E P 186 [x.ref] (Z x.size) := by
  intro n
  induction n with
  | zero => intro x hx; omega
  | succ n ih =>
    intro x hx hw hfi
    refine FX.of' ⟨Ex.ref_closed x, trivial⟩ trivial fun c R hR => B.size _ _ _ ?_
    unfold F.pref_Expr_Size
    obtain ⟨l, hl, hs, hm⟩ := of_len x
    have hsz := Ex.size_wt x hfi
    rw [Ex.ref_eq]
    simp only [nd0, Y1n, Y1o, Y1p, Y1q, Y1w, Y1x, Y1y, Y1z, Y20, Y21, Y28, Y2a, AV.cells?, Nat.reduceAdd, Nat.reduceMul, of_length hl]
    refine wLoop.two (fun m t i H => ∃ pre rest c, l = pre ++ rest ∧ i = Z pre.length ∧ m = rest.length ∧ t = Z (Ex.sizeL pre + 1 : Nat) ∧ H = ⟨[], c⟩) l.length (gh2.mk ⟨[], l, _, rfl, rfl, rfl, rfl, rfl⟩) ?_
    rintro m t i H ⟨pre, rest, c, hpr, rfl, rfl, rfl, rfl⟩
    cases rest with
    | nil =>
      rw [List.append_nil] at hpr
      subst hpr
      simp only [nd0, Y1n, Y1o, Y1p, Y1q, Y1w, Y1x, Y1y, Y1z, Y20, Y21, Y28, Y2a, AV.cells?, Nat.reduceAdd, Nat.reduceMul, Int.lt_irrefl]
      exact hR _ _ (by rw [hs])
    | cons y rest =>
      have hym : y ∈ l := by rw [hpr]; simp
      have hlt : pre.length < l.length := by rw [hpr]; simp
      have hlo : x.of = .slN (Ex.refL l) l.length := by
        rcases hl with h | ⟨_, rfl⟩
        · exact h
        · simp at hym
      have hsum : Ex.sizeL l = Ex.sizeL pre + (y.size + Ex.sizeL rest) := by rw [hpr, sizeL_app]; rfl
      have hlen1 : ∀ m : List Ex, m.length ≤ Ex.sizeL m := fun m => by
        induction m with
        | nil => simp [Ex.sizeL]
        | cons a m ihm => have : 1 ≤ a.size := by cases a <;> simp [Ex.size]
                          simp only [List.length_cons, Ex.sizeL]; omega
      have := hlen1 pre
      obtain ⟨hy1, hy2⟩ := hm y hym
      simp only [nd0, Y1n, Y1o, Y1p, Y1q, Y1w, Y1x, Y1y, Y1z, Y20, Y21, Y28, Y2a, AV.cells?, Nat.reduceAdd, Nat.reduceMul, decide_eq_true (show (pre.length : Int) < (l.length : Int) by omega), hlo]
      rw [iaddr_Nn hlt]
      simp only [nd0, Y1n, Y1o, Y1p, Y1q, Y1w, Y1x, Y1y, Y1z, Y20, Y21, Y28, Y2a, AV.cells?, Nat.reduceAdd, Nat.reduceMul, show (Ex.refL l)[pre.length]? = some y.ref by rw [Ex.refL_map, hpr]; simp]
      refine wCall.fx (ih y (by omega) (by omega) (hy2 hfi)) fun n2 => ?_
      rw [binA_add (by omega), binA_succ (by omega)]
      simp only [nd0, Y1n, Y1o, Y1p, Y1q, Y1w, Y1x, Y1y, Y1z, Y20, Y21, Y28, Y2a, AV.cells?, Nat.reduceAdd, Nat.reduceMul]
      exact back2.mk rest.length (by simp) ⟨pre ++ [y], rest, _, by rw [hpr]; simp, by simp, rfl, by rw [sizeL_app]; simp [Ex.sizeL]; omega, rfl⟩
end
end Go.Sc
