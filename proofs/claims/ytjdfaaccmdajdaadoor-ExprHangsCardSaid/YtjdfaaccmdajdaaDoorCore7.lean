/- CONTRACTS: bytes and runes in texts; how package expr's reader reads blanks, signs and names. CONTRACTS: package expr: how a text is read as an expression. (of the seat YtjdfaaccmdajdaaDoor) -/
import Derived.Test.YtjdfaaccmdajdaaDoorCore6
namespace Go.Sc
open Go
set_option linter.unusedSimpArgs false
set_option linter.unusedVariables false
set_option linter.unnecessarySimpa false

structure RuneBodies (E : Env) (P : Program) : Prop where
  ib : ∀ (s : Str) (c : UInt8), FX E P 21 [S s, By c] (Z (idx s c))
  ir : Body2 E P 19 F.strings_IndexRune_ScV11
  cr : Body2 E P 16 F.strings_ContainsRune
  vr : Body1 E P 22 F.unicode_utf8_ValidRune
section
variable {E : Env} {P : Program}
abbrev Ru (n : Nat) : AV := .val (.int .i32 n)
theorem ValidRune_spec (B : RuneBodies E P) {n : Nat} (h : n < 55296) : FX E P 22 [Ru n] (Bo true) := by
  refine FX.of' (by simp [AV.closed, AV.closedL]) trivial fun m R hR => B.vr _ _ _ ?_
  unfold F.unicode_utf8_ValidRune
  simp only [nd0, Y1n, Y1o, Y1p, Y1q, Y1w, Y1x, Y1y, Y1z, Y20, Y21, Y28, Y2a, AV.cells?, Nat.reduceAdd, Nat.reduceMul, decide_eq_true (show (0 : Int) ≤ (n : Int) by omega), decide_eq_true (show (n : Int) < 55296 by omega)]
  exact hR _ _ rfl
theorem enc2 (c : UInt8) (h : 128 ≤ c.toNat) : Utf8.encode (c.toNat : Int) = ⟨[UInt8.ofNat (192 + c.toNat / 64), UInt8.ofNat (128 + c.toNat % 64)].toArray⟩ := by
  have h2 := c.toNat_lt
  unfold Utf8.encode
  have hv : Utf8.valid (c.toNat : Int) = true := by unfold Utf8.valid; simp; omega
  simp only [hv, if_true, Int.toNat_natCast]
  rw [if_neg (by omega), if_pos (by omega)]
theorem wrap_u8 (c : UInt8) : IntKind.u8.wrap (c.toNat : Int) = c.toNat := by
  have h2 := c.toNat_lt
  simp [IntKind.wrap, IntKind.bits, IntKind.signed]
  omega
theorem wrap_i32 (c : UInt8) : IntKind.i32.wrap (c.toNat : Int) = c.toNat := by
  have h2 := c.toNat_lt
  simp [IntKind.wrap, IntKind.bits, IntKind.signed]
  omega
theorem idx_none {s : Str} {c : UInt8} (h : c ∉ s) : idx s c = -1 := by simp [idx, h]
theorem IndexRune_spec (B : RuneBodies E P) (s : Str) (c : UInt8) (ha : ascii s) (hs : s.length < 1000000) : FX E P 19 [S s, Ru c.toNat] (Z (idx s c)) := by
  refine FX.of' (by simp [AV.closed, AV.closedL]) trivial fun m R hR => B.ir _ _ _ _ ?_
  have hc := c.toNat_lt
  unfold F.strings_IndexRune_ScV11
  simp only [nd0, Y1n, Y1o, Y1p, Y1q, Y1w, Y1x, Y1y, Y1z, Y20, Y21, Y28, Y2a, AV.cells?, Nat.reduceAdd, Nat.reduceMul, decide_eq_true (show (0 : Int) ≤ (c.toNat : Int) by omega)]
  by_cases h : c.toNat < 128
  · simp only [nd0, Y1n, Y1o, Y1p, Y1q, Y1w, Y1x, Y1y, Y1z, Y20, Y21, Y28, Y2a, AV.cells?, Nat.reduceAdd, Nat.reduceMul, decide_eq_true (show (c.toNat : Int) < 128 by omega), wrap_u8]
    refine wCall.fx (B.ib s c) fun n => ?_
    exact hR _ _ rfl
  · simp only [nd0, Y1n, Y1o, Y1p, Y1q, Y1w, Y1x, Y1y, Y1z, Y20, Y21, Y28, Y2a, AV.cells?, Nat.reduceAdd, Nat.reduceMul, decide_eq_false (show ¬ (c.toNat : Int) < 128 by omega), decide_eq_false (show ¬ (c.toNat : Int) = 65533 by omega)]
    refine wCall.fx (ValidRune_spec B (by omega)) fun n => ?_
    simp only [nd0, Y1n, Y1o, Y1p, Y1q, Y1w, Y1x, Y1y, Y1z, Y20, Y21, Y28, Y2a, AV.cells?, Nat.reduceAdd, Nat.reduceMul]
    have hnot : c ∉ s := fun hm => h (by have := ha c hm; exact this)
    have hcv : convA .string (Ru c.toNat) = some (S [UInt8.ofNat (192 + c.toNat / 64), UInt8.ofNat (128 + c.toNat % 64)]) := by
      simp only [convA]; rw [enc2 c (by omega)]
    have hlast : 128 ≤ (UInt8.ofNat (128 + c.toNat % 64)).toNat := by
      rw [UInt8.toNat_ofNat']; omega
    generalize UInt8.ofNat (128 + c.toNat % 64) = b at hcv hlast
    generalize UInt8.ofNat (192 + c.toNat / 64) = a at hcv
    rw [hcv]
    simp only [nd0, Y1n, Y1o, Y1p, Y1q, Y1w, Y1x, Y1y, Y1z, Y20, Y21, Y28, Y2a, AV.cells?, Nat.reduceAdd, Nat.reduceMul]
    rw [show (((1 + 1 : Nat) : Int)) = 2 from rfl, binA_sub (by omega)]
    simp only [nd0, Y1n, Y1o, Y1p, Y1q, Y1w, Y1x, Y1y, Y1z, Y20, Y21, Y28, Y2a, AV.cells?, Nat.reduceAdd, Nat.reduceMul]
    refine wLoop.one (fun m t H => t = Z 1 ∧ ∃ n, H = ⟨[], n⟩) 0 (gh1.mk ⟨rfl, _, rfl⟩) ?_
    rintro m t H ⟨rfl, n, rfl⟩
    simp only [nd0, Y1n, Y1o, Y1p, Y1q, Y1w, Y1x, Y1y, Y1z, Y20, Y21, Y28, Y2a, AV.cells?, Nat.reduceAdd, Nat.reduceMul]
    by_cases hl : 1 < s.length
    · simp only [nd0, Y1n, Y1o, Y1p, Y1q, Y1w, Y1x, Y1y, Y1z, Y20, Y21, Y28, Y2a, AV.cells?, Nat.reduceAdd, Nat.reduceMul, decide_eq_true (show (1 : Int) < (s.length : Int) by omega)]
      refine wJoin.one (fun _ _ => False) ?_ (fun _ _ h => h.elim)
      have i1 : idxStr (S s) (Z 1) = some (By s[1]) := by have := idxS (s := s) (i := 1) hl; exact this
      have i2 : idxStr (S [a, b]) (Z 1) = some (By b) := by have := idxS (s := [a, b]) (i := 1) (by simp); exact this
      rw [show (2 : Int) - 1 = 1 from rfl]
      rw [i1, i2]
      simp only [nd0, Y1n, Y1o, Y1p, Y1q, Y1w, Y1x, Y1y, Y1z, Y20, Y21, Y28, Y2a, AV.cells?, Nat.reduceAdd, Nat.reduceMul]
      have hne : ¬ ((s[1].toNat : Int) = (b.toNat : Int)) := by
        have : s[1].toNat < 128 := ha s[1] (List.getElem_mem _)
        omega
      simp only [nd0, Y1n, Y1o, Y1p, Y1q, Y1w, Y1x, Y1y, Y1z, Y20, Y21, Y28, Y2a, AV.cells?, Nat.reduceAdd, Nat.reduceMul, decide_eq_false hne]
      rw [binA_add (by omega)]
      simp only [nd0, Y1n, Y1o, Y1p, Y1q, Y1w, Y1x, Y1y, Y1z, Y20, Y21, Y28, Y2a, AV.cells?, Nat.reduceAdd, Nat.reduceMul]
      rw [sliceS_S (l := 2) (h := s.length) rfl rfl (by omega) (by omega) (by omega)]
      simp only [nd0, Y1n, Y1o, Y1p, Y1q, Y1w, Y1x, Y1y, Y1z, Y20, Y21, Y28, Y2a, AV.cells?, Nat.reduceAdd, Nat.reduceMul]
      have hn2 : b ∉ ((s.take s.length).drop (2 : Int).toNat) := fun hm => by
        have : b < 128 := ha b (List.mem_of_mem_take (List.mem_of_mem_drop hm))
        have : b.toNat < 128 := this
        omega
      refine wCall.fx (B.ib _ b) fun n => ?_
      rw [idx_none hn2]
      simp only [nd0, Y1n, Y1o, Y1p, Y1q, Y1w, Y1x, Y1y, Y1z, Y20, Y21, Y28, Y2a, AV.cells?, Nat.reduceAdd, Nat.reduceMul, decide_eq_true (show (-1 : Int) < 0 by omega)]
      exact hR _ _ (by rw [idx_none hnot])
    · simp only [nd0, Y1n, Y1o, Y1p, Y1q, Y1w, Y1x, Y1y, Y1z, Y20, Y21, Y28, Y2a, AV.cells?, Nat.reduceAdd, Nat.reduceMul, decide_eq_false (show ¬ (1 : Int) < (s.length : Int) by omega)]
      exact hR _ _ (by rw [idx_none hnot])
theorem ContainsRune_spec (B : RuneBodies E P) (s : Str) (c : UInt8) (ha : ascii s) (hs : s.length < 1000000) : FX E P 16 [S s, Ru c.toNat] (Bo (decide (c ∈ s))) := by
  refine FX.of' (by simp [AV.closed, AV.closedL]) trivial fun m R hR => B.cr _ _ _ _ ?_
  unfold F.strings_ContainsRune
  refine wCall.fx (IndexRune_spec B s c ha hs) fun n => ?_
  simp only [nd0, Y1n, Y1o, Y1p, Y1q, Y1w, Y1x, Y1y, Y1z, Y20, Y21, Y28, Y2a, AV.cells?, Nat.reduceAdd, Nat.reduceMul]
  refine hR _ _ ?_
  congr 2
  exact decide_eq_decide.2 (by
    have := idx_neg (l := s) (x := c)
    constructor
    · intro h1
      by_cases h : c ∈ s
      · exact h
      · have := this.2 h; omega
    · intro h1
      by_cases h : idx s c < 0
      · exact absurd h1 (this.1 h)
      · omega)
end

/-! ### the program's reader -/
def rd (s : Str) (i : Nat) : List AV := [S s, Z i]
theorem rd_closed (s : Str) (i : Nat) : AV.closedL (rd s i) := ⟨trivial, trivial, trivial⟩
theorem put_rd (s : Str) (i j : Nat) : (rd s i).set 1 (Z j) = rd s j := rfl
structure ReadBodies (E : Env) (P : Program) : Prop where
  n : NameBodies E P
  r : RuneBodies E P
  blanks : Body1 E P 134 F.pexpr_reader_blanks
  fail : Body2 E P 135 F.pexpr_reader_fail
  take : Body2 E P 143 F.pexpr_reader_take
  word : Body1 E P 145 F.pexpr_reader_word
section
variable {E : Env} {P : Program}
theorem at_some {s : Str} {i : Nat} (h : i < s.length) : s[i]? = some s[i] := List.getElem?_eq_getElem h
theorem at_eq {s : Str} {i : Nat} (h : i < s.length) {c : UInt8} : s[i]? = some c ↔ (s[i].toNat : Int) = c.toNat := by
  rw [at_some h]
  constructor
  · intro e; injection e with e; rw [e]
  · intro e; rw [show s[i] = c from UInt8.toNat_inj.1 (by omega)]
theorem blanks_spec (B : ReadBodies E P) (s : Str) (i : Nat) (hi : i ≤ s.length) (hs : s.length < 1000000) : PC E P 134 2 (rd s i) (fun b g => [.ptrL b 0 g]) (fun r cs => r = .tup [] ∧ cs = rd s (skipTo s i)) := by
  refine PC.of (fun _ _ => rfl) (rd_closed s i) (by rintro r cs ⟨rfl, rfl⟩; exact ⟨trivial, rd_closed _ _⟩) fun n g R hR => B.blanks _ _ _ ?_
  unfold F.pexpr_reader_blanks
  refine wLoop.zero (fun m H => ∃ j c, m = s.length - j ∧ j ≤ s.length ∧ skipTo s j = skipTo s i ∧ H = ⟨[.cells g 2 [S s, Z j]], c⟩) (s.length - i) (gh0.mk ⟨i, n, rfl, hi, rfl, rfl⟩) ?_
  rintro m H ⟨j, c, rfl, hj, he, rfl⟩
  simp only [nd0, Y1n, Y1o, Y1p, Y1q, Y1w, Y1x, Y1y, Y1z, Y20, Y21, Y28, Y2a, AV.cells?, Nat.reduceAdd, Nat.reduceMul]
  by_cases h : j < s.length
  · simp only [nd0, Y1n, Y1o, Y1p, Y1q, Y1w, Y1x, Y1y, Y1z, Y20, Y21, Y28, Y2a, AV.cells?, Nat.reduceAdd, Nat.reduceMul, decide_eq_true (show (j : Int) < (s.length : Int) by omega)]
    rw [idxS h]
    simp only [nd0, Y1n, Y1o, Y1p, Y1q, Y1w, Y1x, Y1y, Y1z, Y20, Y21, Y28, Y2a, AV.cells?, Nat.reduceAdd, Nat.reduceMul]
    by_cases h2 : (s[j].toNat : Int) = 32
    · simp only [nd0, Y1n, Y1o, Y1p, Y1q, Y1w, Y1x, Y1y, Y1z, Y20, Y21, Y28, Y2a, AV.cells?, Nat.reduceAdd, Nat.reduceMul, decide_eq_true h2]
      rw [binA_succ (by omega)]
      simp only [nd0, Y1n, Y1o, Y1p, Y1q, Y1w, Y1x, Y1y, Y1z, Y20, Y21, Y28, Y2a, AV.cells?, Nat.reduceAdd, Nat.reduceMul]
      rw [store1_L rfl]
      simp only [nd0, Y1n, Y1o, Y1p, Y1q, Y1w, Y1x, Y1y, Y1z, Y20, Y21, Y28, Y2a, AV.cells?, Nat.reduceAdd, Nat.reduceMul, Nat.reduceLT]
      refine back0.mk (s.length - (j + 1)) (by omega) ⟨j + 1, c, rfl, by omega, ?_, rfl⟩
      rw [← he]
      exact (skipTo_step ((at_eq h).2 h2)).symm
    · simp only [nd0, Y1n, Y1o, Y1p, Y1q, Y1w, Y1x, Y1y, Y1z, Y20, Y21, Y28, Y2a, AV.cells?, Nat.reduceAdd, Nat.reduceMul, decide_eq_false h2]
      refine hR _ _ (rd s j) [] c (.same _) ⟨rfl, ?_⟩
      rw [← he, skipTo_stop (fun e => h2 ((at_eq h).1 e))]
  · simp only [nd0, Y1n, Y1o, Y1p, Y1q, Y1w, Y1x, Y1y, Y1z, Y20, Y21, Y28, Y2a, AV.cells?, Nat.reduceAdd, Nat.reduceMul, decide_eq_false (show ¬ (j : Int) < (s.length : Int) by omega)]
    refine hR _ _ (rd s j) [] c (.same _) ⟨rfl, ?_⟩
    rw [← he, skipTo_stop (by rw [List.getElem?_eq_none (by omega)]; simp)]
theorem take_spec (B : ReadBodies E P) (s : Str) (i : Nat) (ch : UInt8) (hi : i ≤ s.length) (hs : s.length < 1000000) : PC E P 143 2 (rd s i) (fun b g => [.ptrL b 0 g, By ch]) (fun r cs => r = Bo (decide (s[skipTo s i]? = some ch)) ∧ cs = rd s (if s[skipTo s i]? = some ch then skipTo s i + 1 else skipTo s i)) := by
  refine PC.of (fun _ _ => rfl) (rd_closed s i) (by rintro r cs ⟨rfl, rfl⟩; exact ⟨trivial, rd_closed _ _⟩) fun n g R hR => B.take _ _ _ _ ?_
  unfold F.pexpr_reader_take
  refine wCall.pc (b := 0) (blanks_spec B s i hi hs) rfl rfl ?_
  rintro r cs n ⟨rfl, rfl⟩
  have hk := skipTo_len hi
  generalize skipTo s i = k at hk hR
  unfold rd
  simp only [nd0, Y1n, Y1o, Y1p, Y1q, Y1w, Y1x, Y1y, Y1z, Y20, Y21, Y28, Y2a, AV.cells?, Nat.reduceAdd, Nat.reduceMul]
  by_cases h : k < s.length
  · simp only [nd0, Y1n, Y1o, Y1p, Y1q, Y1w, Y1x, Y1y, Y1z, Y20, Y21, Y28, Y2a, AV.cells?, Nat.reduceAdd, Nat.reduceMul, decide_eq_true (show (k : Int) < (s.length : Int) by omega)]
    rw [idxS h]
    simp only [nd0, Y1n, Y1o, Y1p, Y1q, Y1w, Y1x, Y1y, Y1z, Y20, Y21, Y28, Y2a, AV.cells?, Nat.reduceAdd, Nat.reduceMul]
    by_cases h2 : (s[k].toNat : Int) = ch.toNat
    · simp only [nd0, Y1n, Y1o, Y1p, Y1q, Y1w, Y1x, Y1y, Y1z, Y20, Y21, Y28, Y2a, AV.cells?, Nat.reduceAdd, Nat.reduceMul, decide_eq_true h2]
      rw [binA_succ (by omega)]
      simp only [nd0, Y1n, Y1o, Y1p, Y1q, Y1w, Y1x, Y1y, Y1z, Y20, Y21, Y28, Y2a, AV.cells?, Nat.reduceAdd, Nat.reduceMul]
      rw [store1_L rfl]
      simp only [nd0, Y1n, Y1o, Y1p, Y1q, Y1w, Y1x, Y1y, Y1z, Y20, Y21, Y28, Y2a, AV.cells?, Nat.reduceAdd, Nat.reduceMul, Nat.reduceLT]
      have h3 := (at_eq h).2 h2
      refine hR _ _ (rd s (k + 1)) [] n (.same _) ?_
      rw [if_pos h3, decide_eq_true h3]
      exact ⟨rfl, rfl⟩
    · simp only [nd0, Y1n, Y1o, Y1p, Y1q, Y1w, Y1x, Y1y, Y1z, Y20, Y21, Y28, Y2a, AV.cells?, Nat.reduceAdd, Nat.reduceMul, decide_eq_false h2]
      have h3 : ¬ s[k]? = some ch := fun e => h2 ((at_eq h).1 e)
      refine hR _ _ (rd s k) [] n (.same _) ?_
      rw [if_neg h3, decide_eq_false h3]
      exact ⟨rfl, rfl⟩
  · simp only [nd0, Y1n, Y1o, Y1p, Y1q, Y1w, Y1x, Y1y, Y1z, Y20, Y21, Y28, Y2a, AV.cells?, Nat.reduceAdd, Nat.reduceMul, decide_eq_false (show ¬ (k : Int) < (s.length : Int) by omega)]
    have h3 : ¬ s[k]? = some ch := by rw [List.getElem?_eq_none (by omega)]; simp
    refine hR _ _ (rd s k) [] n (.same _) ?_
    rw [if_neg h3, decide_eq_false h3]
    exact ⟨rfl, rfl⟩
theorem fail_spec (B : ReadBodies E P) (s : Str) (i e : Nat) (hi : i ≤ s.length) (hs : s.length < 1000000) : PC E P 135 2 (rd s i) (fun b g => [.ptrL b 0 g, Z e]) (fun r cs => r = At e (skipTo s i) ∧ cs = rd s (skipTo s i)) := by
  refine PC.of (fun _ _ => rfl) (rd_closed s i) (by rintro r cs ⟨rfl, rfl⟩; exact ⟨At_closed _ _, rd_closed _ _⟩) fun n g R hR => B.fail _ _ _ _ ?_
  unfold F.pexpr_reader_fail
  refine wCall.pc (b := 0) (blanks_spec B s i hi hs) rfl rfl ?_
  rintro r cs n ⟨rfl, rfl⟩
  generalize skipTo s i = k at hR
  unfold rd
  simp only [nd0, Y1n, Y1o, Y1p, Y1q, Y1w, Y1x, Y1y, Y1z, Y20, Y21, Y28, Y2a, AV.cells?, Nat.reduceAdd, Nat.reduceMul, show fillA [Z 0, Z 0] [(0, 1, Z e), (1, 1, Z k)] = some [Z e, Z k] from rfl]
  refine wNew.F' (l := [Z e, Z k]) rfl ?_
  exact hR _ _ (rd s k) [] n (.same _) ⟨rfl, rfl⟩
theorem mem11 {c : UInt8} : c ∈ stop11 ↔ c ∈ stop9 ∨ c = 48 ∨ c = 49 := by
  simp only [stop11, stop9, List.mem_cons, List.not_mem_nil, or_false]
  constructor
  · rintro (h | h | h | h | h | h | h | h | h | h | h) <;> simp [h]
  · rintro ((h | h | h | h | h | h | h | h | h) | h | h) <;> simp [h]
theorem byk {c : UInt8} {n : Nat} (hn : n < 256) : ((c.toNat : Int) = n) ↔ c = UInt8.ofNat n := by
  constructor
  · intro h
    apply UInt8.toNat_inj.1
    rw [UInt8.toNat_ofNat']
    omega
  · rintro rfl
    rw [UInt8.toNat_ofNat']
    omega
theorem word_cond (B : ReadBodies E P) {s : Str} {k j g c : Nat} {K : Kt} (hkj : k ≤ j) (hj : j ≤ s.length) (hs : s.length < 1000000) (h : ∀ c, K (Bo (wc s k j)) ⟨[.cells g 2 [S s, Z k]], c⟩) :
  wGet (nilA (.ptrL 0 0 g)) ⟨[.cells g 2 [S s, Z k]], c⟩ fun t14 H =>
  wGet (faddr 0 t14) H fun t15 H =>
  wGet (load1 t15 H) H fun t16 H =>
  wGet (lenS t16) H fun t17 H =>
  wGet (binA .lss (Z j) t17) H fun t18 H =>
  wGuard t18 true H (fun k => k (.ptrL 0 0 g) H) fun t20 H =>
  wGuard t18 true H (fun k => wGet (nilA t20) H k) fun t21 H =>
  wGuard t18 true H (fun k => wGet (faddr 0 t21) H k) fun t22 H =>
  wGuard t18 true H (fun k => wGet (load1 t22 H) H k) fun t23 H =>
  wGuard t18 true H (fun k => k (Z j) H) fun t24 H =>
  wGuard t18 true H (fun k => wGet (idxStr t23 t24) H k) fun t25 H =>
  wGuard t18 true H (fun k => wCall E P 21 [(.val (.string ⟨#[32, 38, 124, 33, 94, 126, 40, 41, 48, 49, 61]⟩)), t25] H k) fun t26 H =>
  wGuard t18 true H (fun k => wGet (binA .lss t26 (.val (.int .i64 0))) H k) fun t27 H =>
  wGet (pickA t18 t27 (.val (.bool false))) H fun t28 H =>
  wGuard t28 false H (fun k => k (Z j) H) fun t30 H =>
  wGuard t28 false H (fun k => k (.ptrL 0 0 g) H) fun t31 H =>
  wGuard t28 false H (fun k => wGet (nilA t31) H k) fun t32 H =>
  wGuard t28 false H (fun k => wGet (faddr 1 t32) H k) fun t33 H =>
  wGuard t28 false H (fun k => wGet (load1 t33 H) H k) fun t34 H =>
  wGuard t28 false H (fun k => wGet (binA .gtr t30 t34) H k) fun t35 H =>
  wGuard t28 false H (fun k => k t35 H) fun t36 H =>
  wGuard t36 true H (fun k => k (Z j) H) fun t37 H =>
  wGuard t36 true H (fun k => k (.ptrL 0 0 g) H) fun t38 H =>
  wGuard t36 true H (fun k => wGet (nilA t38) H k) fun t39 H =>
  wGuard t36 true H (fun k => wGet (faddr 0 t39) H k) fun t40 H =>
  wGuard t36 true H (fun k => wGet (load1 t40 H) H k) fun t41 H =>
  wGuard t36 true H (fun k => wGet (lenS t41) H k) fun t42 H =>
  wGuard t36 true H (fun k => wGet (binA .lss t37 t42) H k) fun t43 H =>
  wGuard t28 false H (fun k => wGet (pickA t36 t43 (.val (.bool false))) H k) fun t44 H =>
  wGuard t28 false H (fun k => k t44 H) fun t45 H =>
  wGuard t45 true H (fun k => k (.ptrL 0 0 g) H) fun t46 H =>
  wGuard t45 true H (fun k => wGet (nilA t46) H k) fun t47 H =>
  wGuard t45 true H (fun k => wGet (faddr 0 t47) H k) fun t48 H =>
  wGuard t45 true H (fun k => wGet (load1 t48 H) H k) fun t49 H =>
  wGuard t45 true H (fun k => k (Z j) H) fun t50 H =>
  wGuard t45 true H (fun k => wGet (idxStr t49 t50) H k) fun t51 H =>
  wGuard t45 true H (fun k => wGet (binA .eql t51 (.val (.int .u8 48))) H k) fun t52 H =>
  wGuard t45 true H (fun k => k t52 H) fun t53 H =>
  wGuard t53 false H (fun k => k (.ptrL 0 0 g) H) fun t54 H =>
  wGuard t53 false H (fun k => wGet (nilA t54) H k) fun t55 H =>
  wGuard t53 false H (fun k => wGet (faddr 0 t55) H k) fun t56 H =>
  wGuard t53 false H (fun k => wGet (load1 t56 H) H k) fun t57 H =>
  wGuard t53 false H (fun k => k (Z j) H) fun t58 H =>
  wGuard t53 false H (fun k => wGet (idxStr t57 t58) H k) fun t59 H =>
  wGuard t53 false H (fun k => wGet (binA .eql t59 (.val (.int .u8 49))) H k) fun t60 H =>
  wGuard t45 true H (fun k => wGet (pickA t53 (.val (.bool true)) t60) H k) fun t61 H =>
  wGuard t28 false H (fun k => wGet (pickA t45 t61 (.val (.bool false))) H k) fun t62 H =>
  wGet (pickA t28 (.val (.bool true)) t62) H K := by
  simp only [nd0, Y1n, Y1o, Y1p, Y1q, Y1w, Y1x, Y1y, Y1z, Y20, Y21, Y28, Y2a, AV.cells?, Nat.reduceAdd, Nat.reduceMul]
  by_cases hl : j < s.length
  · have hat := at_some hl
    simp only [nd0, Y1n, Y1o, Y1p, Y1q, Y1w, Y1x, Y1y, Y1z, Y20, Y21, Y28, Y2a, AV.cells?, Nat.reduceAdd, Nat.reduceMul, decide_eq_true (show (j : Int) < (s.length : Int) by omega)]
    rw [idxS hl]
    simp only [nd0, Y1n, Y1o, Y1p, Y1q, Y1w, Y1x, Y1y, Y1z, Y20, Y21, Y28, Y2a, AV.cells?, Nat.reduceAdd, Nat.reduceMul]
    refine wCall.fx (B.r.ib stop11 s[j]) fun n2 => ?_
    simp only [nd0, Y1n, Y1o, Y1p, Y1q, Y1w, Y1x, Y1y, Y1z, Y20, Y21, Y28, Y2a, AV.cells?, Nat.reduceAdd, Nat.reduceMul]
    by_cases hm : s[j] ∈ stop11
    · simp only [nd0, Y1n, Y1o, Y1p, Y1q, Y1w, Y1x, Y1y, Y1z, Y20, Y21, Y28, Y2a, AV.cells?, Nat.reduceAdd, Nat.reduceMul, decide_eq_false (show ¬ idx stop11 s[j] < 0 from fun e => idx_neg.1 e hm)]
      by_cases hjk : k < j
      · simp only [nd0, Y1n, Y1o, Y1p, Y1q, Y1w, Y1x, Y1y, Y1z, Y20, Y21, Y28, Y2a, AV.cells?, Nat.reduceAdd, Nat.reduceMul, decide_eq_true (show (k : Int) < (j : Int) by omega), decide_eq_true (show (j : Int) < (s.length : Int) by omega)]
        rw [idxS hl]
        simp only [nd0, Y1n, Y1o, Y1p, Y1q, Y1w, Y1x, Y1y, Y1z, Y20, Y21, Y28, Y2a, AV.cells?, Nat.reduceAdd, Nat.reduceMul]
        by_cases h48 : (s[j].toNat : Int) = 48
        · simp only [nd0, Y1n, Y1o, Y1p, Y1q, Y1w, Y1x, Y1y, Y1z, Y20, Y21, Y28, Y2a, AV.cells?, Nat.reduceAdd, Nat.reduceMul, decide_eq_true h48]
          have e := (byk (n := 48) (by omega)).1 h48
          have : wc s k j = true := by simp only [wc, hat, e]; simp [stop9, hjk]
          rw [this] at h
          exact h _
        · simp only [nd0, Y1n, Y1o, Y1p, Y1q, Y1w, Y1x, Y1y, Y1z, Y20, Y21, Y28, Y2a, AV.cells?, Nat.reduceAdd, Nat.reduceMul, decide_eq_false h48]
          rw [idxS hl]
          simp only [nd0, Y1n, Y1o, Y1p, Y1q, Y1w, Y1x, Y1y, Y1z, Y20, Y21, Y28, Y2a, AV.cells?, Nat.reduceAdd, Nat.reduceMul]
          by_cases h49 : (s[j].toNat : Int) = 49
          · simp only [nd0, Y1n, Y1o, Y1p, Y1q, Y1w, Y1x, Y1y, Y1z, Y20, Y21, Y28, Y2a, AV.cells?, Nat.reduceAdd, Nat.reduceMul, decide_eq_true h49]
            have e := (byk (n := 49) (by omega)).1 h49
            have : wc s k j = true := by simp only [wc, hat, e]; simp [stop9, hjk]
            rw [this] at h
            exact h _
          · simp only [nd0, Y1n, Y1o, Y1p, Y1q, Y1w, Y1x, Y1y, Y1z, Y20, Y21, Y28, Y2a, AV.cells?, Nat.reduceAdd, Nat.reduceMul, decide_eq_false h49]
            have h9 : s[j] ∈ stop9 := (mem11.1 hm).resolve_right (by
              rintro (e | e)
              · exact h48 ((byk (n := 48) (by omega)).2 e)
              · exact h49 ((byk (n := 49) (by omega)).2 e))
            have : wc s k j = false := by simp only [wc, hat, decide_eq_true h9]; simp
            rw [this] at h
            exact h _
      · simp only [nd0, Y1n, Y1o, Y1p, Y1q, Y1w, Y1x, Y1y, Y1z, Y20, Y21, Y28, Y2a, AV.cells?, Nat.reduceAdd, Nat.reduceMul, decide_eq_false (show ¬ (k : Int) < (j : Int) by omega)]
        have : wc s k j = false := by
          simp only [wc, hat, decide_eq_false hjk]
          rcases mem11.1 hm with h9 | h9 | h9
          · simp [h9]
          · simp [h9]
          · simp [h9]
        rw [this] at h
        exact h _
    · simp only [nd0, Y1n, Y1o, Y1p, Y1q, Y1w, Y1x, Y1y, Y1z, Y20, Y21, Y28, Y2a, AV.cells?, Nat.reduceAdd, Nat.reduceMul, decide_eq_true (show idx stop11 s[j] < 0 from idx_neg.2 hm)]
      have : wc s k j = true := by
        simp only [wc, hat]
        have := fun e => hm (mem11.2 e)
        have h9 : s[j] ∉ stop9 := fun e => this (.inl e)
        have h48 : s[j] ≠ 48 := fun e => this (.inr (.inl e))
        have h49 : s[j] ≠ 49 := fun e => this (.inr (.inr e))
        simp [h9, h48, h49]
      rw [this] at h
      exact h _
  · have : wc s k j = false := by
      cases hw : wc s k j
      · rfl
      · exact absurd (wc_lt hw) hl
    rw [this] at h
    simp only [nd0, Y1n, Y1o, Y1p, Y1q, Y1w, Y1x, Y1y, Y1z, Y20, Y21, Y28, Y2a, AV.cells?, Nat.reduceAdd, Nat.reduceMul, decide_eq_false (show ¬ (j : Int) < (s.length : Int) by omega)]
    by_cases hjk : k < j
    · simp only [nd0, Y1n, Y1o, Y1p, Y1q, Y1w, Y1x, Y1y, Y1z, Y20, Y21, Y28, Y2a, AV.cells?, Nat.reduceAdd, Nat.reduceMul, decide_eq_true (show (k : Int) < (j : Int) by omega), decide_eq_false (show ¬ (j : Int) < (s.length : Int) by omega)]
      exact h _
    · simp only [nd0, Y1n, Y1o, Y1p, Y1q, Y1w, Y1x, Y1y, Y1z, Y20, Y21, Y28, Y2a, AV.cells?, Nat.reduceAdd, Nat.reduceMul, decide_eq_false (show ¬ (k : Int) < (j : Int) by omega)]
      exact h _
/-- the name at a place, if it may be one -/
theorem word_spec (B : ReadBodies E P) (s : Str) (i : Nat) (hi : i ≤ s.length) (hs : s.length < 1000000) : PC E P 145 2 (rd s i) (fun b g => [.ptrL b 0 g]) (fun r cs => match wordR s i with
    | .ok w j => r = .tup [S w, nilE] ∧ cs = rd s j
    | .no e p => r = .tup [S [], At e p] ∧ ∃ j, cs = rd s j) := by
  refine PC.of (fun _ _ => rfl) (rd_closed s i) ?_ fun n g R hR => B.word _ _ _ ?_
  · intro r cs h
    cases hw : wordR s i with
    | ok w j => rw [hw] at h; obtain ⟨rfl, rfl⟩ := h; exact ⟨⟨trivial, trivial, trivial⟩, rd_closed _ _⟩
    | no e p => rw [hw] at h; obtain ⟨rfl, j, rfl⟩ := h; exact ⟨⟨trivial, At_closed _ _, trivial⟩, rd_closed _ _⟩
  unfold F.pexpr_reader_word
  refine wCall.pc (b := 0) (blanks_spec B s i hi hs) rfl rfl ?_
  rintro r cs n ⟨rfl, rfl⟩
  have hk := skipTo_len hi
  have hid := skipTo_idem s i
  unfold wordR at hR
  generalize skipTo s i = k at hk hR hid
  refine wGet_some.2 (wGet_some.2 ⟨⟨Z k, by simp [load1, AH.cells, rd], ?_⟩⟩)
  have hwe := wEnd_ge s k k
  have hwl := wEnd_len (i := k) hk
  refine wLoop.one (fun m t H => ∃ j c, m = s.length - j ∧ k ≤ j ∧ j ≤ s.length ∧ wEnd s k j = wEnd s k k ∧ t = Z j ∧ H = ⟨[.cells g 2 [S s, Z k]], c⟩) (s.length - k) (gh1.mk ⟨k, n, rfl, Nat.le_refl _, hk, rfl, rfl, rfl⟩) ?_
  rintro m t H ⟨j, c, rfl, hkj, hj, he, rfl, rfl⟩
  refine word_cond B hkj hj hs fun c => ?_
  cases hw : wc s k j with
  | true =>
    have := wc_lt hw
    simp only [nd0, Y1n, Y1o, Y1p, Y1q, Y1w, Y1x, Y1y, Y1z, Y20, Y21, Y28, Y2a, AV.cells?, Nat.reduceAdd, Nat.reduceMul]
    rw [binA_succ (by omega)]
    simp only [nd0, Y1n, Y1o, Y1p, Y1q, Y1w, Y1x, Y1y, Y1z, Y20, Y21, Y28, Y2a, AV.cells?, Nat.reduceAdd, Nat.reduceMul]
    exact back1.mk (s.length - (j + 1)) (by omega) ⟨j + 1, c, rfl, by omega, by omega, by rw [← he, wEnd_step hw], rfl, rfl⟩
  | false =>
    simp only [nd0, Y1n, Y1o, Y1p, Y1q, Y1w, Y1x, Y1y, Y1z, Y20, Y21, Y28, Y2a, AV.cells?, Nat.reduceAdd, Nat.reduceMul]
    rw [wEnd_stop hw] at he
    rw [sliceS_S (l := k) (h := j) rfl rfl (by omega) (by omega) (by omega)]
    have hwd : (s.take ((j : Int)).toNat).drop ((k : Int)).toNat = wordAt s k := by
      rw [wordAt, ← he]; simp
    rw [hwd]
    simp only [nd0, Y1n, Y1o, Y1p, Y1q, Y1w, Y1x, Y1y, Y1z, Y20, Y21, Y28, Y2a, AV.cells?, Nat.reduceAdd, Nat.reduceMul, show (AV.val (.string ⟨#[]⟩)) = S [] from rfl]
    by_cases h1 : wordAt s k = []
    · rw [if_pos h1] at hR
      simp only [nd0, Y1n, Y1o, Y1p, Y1q, Y1w, Y1x, Y1y, Y1z, Y20, Y21, Y28, Y2a, AV.cells?, Nat.reduceAdd, Nat.reduceMul, decide_eq_true h1]
      refine wCall.pc (b := 0) (fail_spec B s k 3 hk hs) rfl rfl ?_
      rintro r cs n ⟨rfl, rfl⟩
      exact hR _ _ _ [] n (.same _) ⟨by rw [hid], _, rfl⟩
    · rw [if_neg h1] at hR
      simp only [nd0, Y1n, Y1o, Y1p, Y1q, Y1w, Y1x, Y1y, Y1z, Y20, Y21, Y28, Y2a, AV.cells?, Nat.reduceAdd, Nat.reduceMul, decide_eq_false h1]
      refine wCall.fx (Name_spec B.n (wordAt s k)) fun n => ?_
      simp only [nd0, Y1n, Y1o, Y1p, Y1q, Y1w, Y1x, Y1y, Y1z, Y20, Y21, Y28, Y2a, AV.cells?, Nat.reduceAdd, Nat.reduceMul]
      by_cases h2 : nameOk (wordAt s k) = false
      · rw [if_pos h2] at hR
        simp only [nd0, Y1n, Y1o, Y1p, Y1q, Y1w, Y1x, Y1y, Y1z, Y20, Y21, Y28, Y2a, AV.cells?, Nat.reduceAdd, Nat.reduceMul, h2]
        refine wCall.pc (b := 0) (fail_spec B s k 5 hk hs) rfl rfl ?_
        rintro r cs n ⟨rfl, rfl⟩
        exact hR _ _ _ [] n (.same _) ⟨by rw [hid], _, rfl⟩
      · rw [if_neg h2] at hR
        simp only [nd0, Y1n, Y1o, Y1p, Y1q, Y1w, Y1x, Y1y, Y1z, Y20, Y21, Y28, Y2a, AV.cells?, Nat.reduceAdd, Nat.reduceMul, show nameOk (wordAt s k) = true by simpa using h2]
        rw [store1_L rfl]
        simp only [nd0, Y1n, Y1o, Y1p, Y1q, Y1w, Y1x, Y1y, Y1z, Y20, Y21, Y28, Y2a, AV.cells?, Nat.reduceAdd, Nat.reduceMul, Nat.reduceLT]
        exact hR _ _ (rd s j) [] n (.same _) ⟨rfl, by rw [← he]⟩
end
end Go.Sc
namespace Go.Sc
open Go
set_option linter.unusedSimpArgs false
set_option linter.unusedVariables false
set_option linter.unnecessarySimpa false

structure ParseBodies (E : Env) (P : Program) : Prop where
  d : ReadBodies E P
  several : Body4 E P 140 F.pexpr_reader_several
  or : Body2 E P 133 F.pexpr_reader_or
  and : Body2 E P 139 F.pexpr_reader_and
  one : Body2 E P 144 F.pexpr_reader_one
  parse : Body1 E P 126 F.expr_Parse
/-- what a reader of expressions answers -/
def PX (s : Str) (r : Rs Ex) (x : AV) (cs : List AV) : Prop := match r with
  | .ok e j => x = .tup [e.enc, nilE] ∧ cs = rd s j
  | .no e p => ∃ z, x = .tup [z, At e p] ∧ z.closed ∧ ∃ j, cs = rd s j
theorem PX.closed {s : Str} {r : Rs Ex} {x : AV} {cs : List AV} (h : PX s r x cs) : x.closed ∧ AV.closedL cs := by
  unfold PX at h
  split at h
  · obtain ⟨rfl, rfl⟩ := h; exact ⟨⟨Ex.enc_closed _, trivial, trivial⟩, rd_closed _ _⟩
  · obtain ⟨z, rfl, hz, j, rfl⟩ := h; exact ⟨⟨hz, At_closed _ _, trivial⟩, rd_closed _ _⟩
def PL (s : Str) (r : Rs (List Ex)) (x : AV) (cs : List AV) : Prop := match r with
  | .ok l j => x = .tup [.slN (Ex.encL l) l.length, nilE] ∧ cs = rd s j
  | .no e p => x = .tup [nilS, At e p] ∧ ∃ j, cs = rd s j
theorem PL.closed {s : Str} {r : Rs (List Ex)} {x : AV} {cs : List AV} (h : PL s r x cs) : x.closed ∧ AV.closedL cs := by
  unfold PL at h
  split at h
  · obtain ⟨rfl, rfl⟩ := h; exact ⟨⟨Ex.encL_closed _, trivial, trivial⟩, rd_closed _ _⟩
  · obtain ⟨rfl, j, rfl⟩ := h; exact ⟨⟨trivial, At_closed _ _, trivial⟩, rd_closed _ _⟩
theorem fill1 {z x : AV} (h : x.scalar = true) : fillA (List.replicate 1 [z]).flatten [(0, 1, x)] = some [x] := by
  show fillA [z] _ = _
  rw [fillA_one h (by simp)]; rfl
theorem eqA_At {e p : Int} : eqA .iface (At e p) nilE = some false := rfl
theorem Ex.encL_len (l : List Ex) : (Ex.encL l).length = l.length := by rw [Ex.encL_map, List.length_map]
theorem Ex.encL_snoc (l : List Ex) (x : Ex) : Ex.encL (l ++ [x]) = Ex.encL l ++ [x.enc] := by simp [Ex.encL_map]
section
variable {E : Env} {P : Program}
theorem several_spec (B : ParseBodies E P) (s : Str) (hs : s.length < 1000000) (c : UInt8) (f : Nat → Rs Ex) (hgood : GoodR s f) (kf : Nat) (d : Nat) (hf : ∀ i, i ≤ s.length → PC E P kf 2 (rd s i) (fun b g => [.ptrL b 0 g, Z d]) (PX s (f i))) (i : Nat) (hi : i ≤ s.length) :
    PC E P 140 2 (rd s i) (fun b g => [.ptrL b 0 g, By c, Z d, .fn kf [.ptrL b 0 g] []]) (PL s (rowR s c f (s.length + 1) i [])) := by
  refine PC.of (fun _ _ => rfl) (rd_closed s i) (fun _ _ h => h.closed) fun n g R hR => B.several _ _ _ _ _ _ ?_
  unfold F.pexpr_reader_several
  refine wLoop.one (fun m t H => ∃ i' l n z c', m = s.length - i' ∧ i' ≤ s.length ∧ l.length ≤ i' ∧ s.length < n + i' ∧ rowR s c f (s.length + 1) i [] = rowR s c f n i' l ∧ Gr 1 z 1 t (Ex.encL l) l.length ∧ H = ⟨[.cells g 2 (rd s i'), z], c'⟩) (s.length - i)
    (gh1.of (ghost_room [.dead] (by simp)) ⟨i, [], s.length + 1, .dead, n, rfl, hi, by simp, by omega, rfl, .nil, rfl⟩) ?_
  rintro m t H ⟨i', l, n', z, c', rfl, hi', hl, hn, hrow, hg, rfl⟩
  obtain ⟨n', rfl⟩ : ∃ k, n' = k + 1 := ⟨n' - 1, by omega⟩
  refine wCallV.pc (b := 0) (hf i' hi') rfl rfl ?_
  intro r cs n2 hr
  rw [hrow] at hR
  simp only [rowR] at hR
  cases hx : f i' with
  | no e p =>
    rw [hx] at hr hR
    obtain ⟨zz, rfl, hz, j, rfl⟩ := hr
    simp only [nd0, Y1n, Y1o, Y1p, Y1q, Y1w, Y1x, Y1y, Y1z, Y20, Y21, Y28, Y2a, AV.cells?, Nat.reduceAdd, Nat.reduceMul, eqA_At]
    exact hR _ _ (rd s j) [z] n2 (.same _) ⟨rfl, j, rfl⟩
  | ok x j =>
    rw [hx] at hr hR
    obtain ⟨rfl, rfl⟩ := hr
    obtain ⟨a1, a2, a3, a4⟩ := hgood i' x j hi' hx
    have b1 := skipTo_le s j
    have b2 := skipTo_len a2
    simp only [nd0, Y1n, Y1o, Y1p, Y1q, Y1w, Y1x, Y1y, Y1z, Y20, Y21, Y28, Y2a, AV.cells?, Nat.reduceAdd, Nat.reduceMul]
    refine wNewS.F' (l := [x.enc]) (fill1 (Ex.enc_scalar x)) rfl ?_
    refine wApp.one hg rfl (Ex.encL_len l) (.refl _) (Ex.enc_scalar x) (by simp [mostBytes]; omega) ?_
    intro z' x' c2 hg'
    simp only [nd0, Y1n, Y1o, Y1p, Y1q, Y1w, Y1x, Y1y, Y1z, Y20, Y21, Y28, Y2a, AV.cells?, Nat.reduceAdd, Nat.reduceMul]
    refine wCall.pc (b := 0) (take_spec B.d s j c a2 hs) rfl rfl ?_
    rintro r cs n3 ⟨rfl, rfl⟩
    by_cases hc : s[skipTo s j]? = some c
    · have hlt := lt_of_get hc
      simp only [hc, if_true] at hR ⊢
      simp only [nd0, Y1n, Y1o, Y1p, Y1q, Y1w, Y1x, Y1y, Y1z, Y20, Y21, Y28, Y2a, AV.cells?, Nat.reduceAdd, Nat.reduceMul]
      refine back1.mk (s.length - (skipTo s j + 1)) (by omega) ⟨skipTo s j + 1, l ++ [x], n', z', n3, rfl, by omega, by simp; omega, by omega, ?_, ?_, rfl⟩
      · rw [hrow, rowR, hx]; simp only [hc, if_true]
      · rw [Ex.encL_snoc, List.length_append]; exact hg'
    · simp only [if_neg hc] at hR ⊢
      simp only [nd0, Y1n, Y1o, Y1p, Y1q, Y1w, Y1x, Y1y, Y1z, Y20, Y21, Y28, Y2a, AV.cells?, Nat.reduceAdd, Nat.reduceMul, decide_eq_false hc]
      have hg2 : Gr 1 z' 1 x' (Ex.encL (l ++ [x])) (l ++ [x]).length := by rw [Ex.encL_snoc, List.length_append]; exact hg'
      exact hR _ _ (rd s (skipTo s j)) [z'] n3 (.tup (.cons (.sub hg2.sub) (FkL.same _))) ⟨rfl, rfl⟩
theorem and_spec (B : ParseBodies E P) (s : Str) (hs : s.length < 1000000) (f : Nat → Rs Ex) (hgood : GoodR s f) (d : Nat) (hf : ∀ i, i ≤ s.length → PC E P 144 2 (rd s i) (fun b g => [.ptrL b 0 g, Z d]) (PX s (f i))) (i : Nat) (hi : i ≤ s.length) :
    PC E P 139 2 (rd s i) (fun b g => [.ptrL b 0 g, Z d]) (PX s (andR s f i)) := by
  refine PC.of (fun _ _ => rfl) (rd_closed s i) (fun _ _ h => h.closed) fun n g R hR => B.and _ _ _ _ ?_
  unfold F.pexpr_reader_and
  refine wCall.pc (b := 0) (several_spec B s hs 38 f hgood 144 d hf i hi) rfl rfl ?_
  intro r cs n2 hr
  unfold andR allR at hR
  cases hx : rowR s 38 f (s.length + 1) i [] with
  | no e p =>
    rw [hx] at hr hR
    obtain ⟨rfl, j, rfl⟩ := hr
    simp only [nd0, Y1n, Y1o, Y1p, Y1q, Y1w, Y1x, Y1y, Y1z, Y20, Y21, Y28, Y2a, AV.cells?, Nat.reduceAdd, Nat.reduceMul, eqA_At]
    exact hR _ _ (rd s j) [] n2 (.same _) ⟨_, rfl, trivial, j, rfl⟩
  | ok l j =>
    rw [hx] at hr hR
    obtain ⟨rfl, rfl⟩ := hr
    simp only [nd0, Y1n, Y1o, Y1p, Y1q, Y1w, Y1x, Y1y, Y1z, Y20, Y21, Y28, Y2a, AV.cells?, Nat.reduceAdd, Nat.reduceMul]
    by_cases hl : l.length = 1
    · obtain ⟨x, rfl⟩ := List.length_eq_one_iff.1 hl
      simp only [nd0, Y1n, Y1o, Y1p, Y1q, Y1w, Y1x, Y1y, Y1z, Y20, Y21, Y28, Y2a, AV.cells?, Nat.reduceAdd, Nat.reduceMul, show (((1 : Nat)) : Int) = 1 from rfl]
      rw [show ((0 : Int)) = ((0 : Nat) : Int) from rfl, iaddr_Nn (by simp)]
      simp only [nd0, Y1n, Y1o, Y1p, Y1q, Y1w, Y1x, Y1y, Y1z, Y20, Y21, Y28, Y2a, AV.cells?, Nat.reduceAdd, Nat.reduceMul, Ex.encL]
      exact hR _ _ (rd s j) [] n2 (.same _) ⟨rfl, rfl⟩
    · simp only [nd0, Y1n, Y1o, Y1p, Y1q, Y1w, Y1x, Y1y, Y1z, Y20, Y21, Y28, Y2a, AV.cells?, Nat.reduceAdd, Nat.reduceMul, decide_eq_false (show ¬ (l.length : Int) = 1 by omega)]
      refine hR _ _ (rd s j) [] n2 (.same _) ⟨?_, rfl⟩
      have : foldR .and l = .and l := by
        match l with
        | [] => rfl
        | [x] => simp at hl
        | x :: y :: r => rfl
      rw [this]; rfl
theorem or_spec (B : ParseBodies E P) (s : Str) (hs : s.length < 1000000) (f : Nat → Rs Ex) (hgood : GoodR s f) (d : Nat) (hf : ∀ i, i ≤ s.length → PC E P 144 2 (rd s i) (fun b g => [.ptrL b 0 g, Z d]) (PX s (f i))) (i : Nat) (hi : i ≤ s.length) :
    PC E P 133 2 (rd s i) (fun b g => [.ptrL b 0 g, Z d]) (PX s (orR s f i)) := by
  refine PC.of (fun _ _ => rfl) (rd_closed s i) (fun _ _ h => h.closed) fun n g R hR => B.or _ _ _ _ ?_
  unfold F.pexpr_reader_or
  refine wCall.pc (b := 0) (several_spec B s hs 124 (andR s f) (andR_good hgood) 139 d (and_spec B s hs f hgood d hf) i hi) rfl rfl ?_
  intro r cs n2 hr
  unfold orR allR at hR
  cases hx : rowR s 124 (andR s f) (s.length + 1) i [] with
  | no e p =>
    rw [hx] at hr hR
    obtain ⟨rfl, j, rfl⟩ := hr
    simp only [nd0, Y1n, Y1o, Y1p, Y1q, Y1w, Y1x, Y1y, Y1z, Y20, Y21, Y28, Y2a, AV.cells?, Nat.reduceAdd, Nat.reduceMul, eqA_At]
    exact hR _ _ (rd s j) [] n2 (.same _) ⟨_, rfl, trivial, j, rfl⟩
  | ok l j =>
    rw [hx] at hr hR
    obtain ⟨rfl, rfl⟩ := hr
    simp only [nd0, Y1n, Y1o, Y1p, Y1q, Y1w, Y1x, Y1y, Y1z, Y20, Y21, Y28, Y2a, AV.cells?, Nat.reduceAdd, Nat.reduceMul]
    by_cases hl : l.length = 1
    · obtain ⟨x, rfl⟩ := List.length_eq_one_iff.1 hl
      simp only [nd0, Y1n, Y1o, Y1p, Y1q, Y1w, Y1x, Y1y, Y1z, Y20, Y21, Y28, Y2a, AV.cells?, Nat.reduceAdd, Nat.reduceMul, show (((1 : Nat)) : Int) = 1 from rfl]
      rw [show ((0 : Int)) = ((0 : Nat) : Int) from rfl, iaddr_Nn (by simp)]
      simp only [nd0, Y1n, Y1o, Y1p, Y1q, Y1w, Y1x, Y1y, Y1z, Y20, Y21, Y28, Y2a, AV.cells?, Nat.reduceAdd, Nat.reduceMul, Ex.encL]
      exact hR _ _ (rd s j) [] n2 (.same _) ⟨rfl, rfl⟩
    · simp only [nd0, Y1n, Y1o, Y1p, Y1q, Y1w, Y1x, Y1y, Y1z, Y20, Y21, Y28, Y2a, AV.cells?, Nat.reduceAdd, Nat.reduceMul, decide_eq_false (show ¬ (l.length : Int) = 1 by omega)]
      refine hR _ _ (rd s j) [] n2 (.same _) ⟨?_, rfl⟩
      have : foldR .or l = .or l := by
        match l with
        | [] => rfl
        | [x] => simp at hl
        | x :: y :: r => rfl
      rw [this]; rfl
theorem skip_if {s : Str} {k : Nat} (h : s[k]? ≠ some 32) : skipTo s k = k := skipTo_stop h
set_option maxHeartbeats 1000000 in
theorem one_spec (B : ParseBodies E P) (s : Str) (hs : s.length < 1000000) : ∀ (d : Nat), d < 1000 → ∀ i, i ≤ s.length → PC E P 144 2 (rd s i) (fun b g => [.ptrL b 0 g, Z d]) (PX s (oneR s d i)) := by
  intro d
  induction d with
  | zero =>
    intro _ i hi
    refine PC.of (fun _ _ => rfl) (rd_closed s i) (fun _ _ h => h.closed) fun n g R hR => B.one _ _ _ _ ?_
    unfold F.pexpr_reader_one
    simp only [nd0, Y1n, Y1o, Y1p, Y1q, Y1w, Y1x, Y1y, Y1z, Y20, Y21, Y28, Y2a, AV.cells?, Nat.reduceAdd, Nat.reduceMul, show ((0 : Nat) : Int) = 0 from rfl]
    refine wCall.pc (b := 0) (fail_spec B.d s i 4 hi hs) rfl rfl ?_
    rintro r cs n2 ⟨rfl, rfl⟩
    exact hR _ _ _ [] n2 (.same _) ⟨_, rfl, trivial, _, rfl⟩
  | succ d ih =>
    intro hd i hi
    refine PC.of (fun _ _ => rfl) (rd_closed s i) (fun _ _ h => h.closed) fun n g R hR => B.one _ _ _ _ ?_
    have hgood := oneR_good s d
    have ih := ih (by omega)
    unfold F.pexpr_reader_one
    have hk := skipTo_len hi
    have hid := skipTo_idem s i
    have hsub : binA .sub (Z ((d + 1 : Nat) : Int)) (Z 1) = some (Z d) := by
      rw [binA_sub (by omega)]; congr 3; omega
    simp only [nd0, Y1n, Y1o, Y1p, Y1q, Y1w, Y1x, Y1y, Y1z, Y20, Y21, Y28, Y2a, AV.cells?, Nat.reduceAdd, Nat.reduceMul, decide_eq_false (show ¬ ((d + 1 : Nat) : Int) = 0 by omega)]
    refine wCall.pc (b := 0) (take_spec B.d s i 33 hi hs) rfl rfl ?_
    rintro r cs n1 ⟨rfl, rfl⟩
    unfold oneR at hR
    generalize skipTo s i = k at hk hid hR
    by_cases h33 : s[k]? = some 33
    · rw [if_pos h33] at hR
      have hlt := lt_of_get h33
      simp only [nd0, Y1n, Y1o, Y1p, Y1q, Y1w, Y1x, Y1y, Y1z, Y20, Y21, Y28, Y2a, AV.cells?, Nat.reduceAdd, Nat.reduceMul, decide_eq_true h33, if_pos h33, hsub]
      refine wCall.pc (b := 0) (ih (k + 1) (by omega)) rfl rfl ?_
      intro r cs n2 hr
      cases hx : oneR s d (k + 1) with
      | no e p =>
        rw [hx] at hr hR
        obtain ⟨zz, rfl, hz, j, rfl⟩ := hr
        simp only [nd0, Y1n, Y1o, Y1p, Y1q, Y1w, Y1x, Y1y, Y1z, Y20, Y21, Y28, Y2a, AV.cells?, Nat.reduceAdd, Nat.reduceMul, eqA_At]
        exact hR _ _ (rd s j) [] n2 (.same _) ⟨_, rfl, trivial, j, rfl⟩
      | ok x j =>
        rw [hx] at hr hR
        obtain ⟨rfl, rfl⟩ := hr
        simp only [nd0, Y1n, Y1o, Y1p, Y1q, Y1w, Y1x, Y1y, Y1z, Y20, Y21, Y28, Y2a, AV.cells?, Nat.reduceAdd, Nat.reduceMul, show fillA [nilE] [(0, 1, x.enc)] = some [x.enc] from by rw [fillA_one (Ex.enc_scalar x) (by simp)]; rfl]
        exact hR _ _ (rd s j) [] n2 (.same _) ⟨rfl, rfl⟩
    rw [if_neg h33] at hR
    simp only [nd0, Y1n, Y1o, Y1p, Y1q, Y1w, Y1x, Y1y, Y1z, Y20, Y21, Y28, Y2a, AV.cells?, Nat.reduceAdd, Nat.reduceMul, decide_eq_false h33, if_neg h33]
    refine wCall.pc (b := 0) (take_spec B.d s k 40 hk hs) rfl rfl ?_
    rintro r cs n1 ⟨rfl, rfl⟩
    rw [hid]
    by_cases h40 : s[k]? = some 40
    · rw [if_pos h40] at hR
      have hlt := lt_of_get h40
      simp only [nd0, Y1n, Y1o, Y1p, Y1q, Y1w, Y1x, Y1y, Y1z, Y20, Y21, Y28, Y2a, AV.cells?, Nat.reduceAdd, Nat.reduceMul, decide_eq_true h40, if_pos h40, hsub]
      refine wCall.pc (b := 0) (or_spec B s hs (oneR s d) hgood d ih (k + 1) (by omega)) rfl rfl ?_
      intro r cs n2 hr
      cases hx : orR s (oneR s d) (k + 1) with
      | no e p =>
        rw [hx] at hr hR
        obtain ⟨zz, rfl, hz, j, rfl⟩ := hr
        simp only [nd0, Y1n, Y1o, Y1p, Y1q, Y1w, Y1x, Y1y, Y1z, Y20, Y21, Y28, Y2a, AV.cells?, Nat.reduceAdd, Nat.reduceMul, eqA_At]
        exact hR _ _ (rd s j) [] n2 (.same _) ⟨_, rfl, trivial, j, rfl⟩
      | ok x j =>
        rw [hx] at hr hR
        obtain ⟨rfl, rfl⟩ := hr
        obtain ⟨a1, a2, a3, a4⟩ := orR_good hgood _ x j (by omega) hx
        simp only [nd0, Y1n, Y1o, Y1p, Y1q, Y1w, Y1x, Y1y, Y1z, Y20, Y21, Y28, Y2a, AV.cells?, Nat.reduceAdd, Nat.reduceMul]
        refine wCall.pc (b := 0) (take_spec B.d s j 41 a2 hs) rfl rfl ?_
        rintro r cs n3 ⟨rfl, rfl⟩
        simp only [closeR] at hR
        have b2 := skipTo_len a2
        by_cases h41 : s[skipTo s j]? = some 41
        · rw [if_pos h41] at hR
          simp only [nd0, Y1n, Y1o, Y1p, Y1q, Y1w, Y1x, Y1y, Y1z, Y20, Y21, Y28, Y2a, AV.cells?, Nat.reduceAdd, Nat.reduceMul, decide_eq_true h41, if_pos h41]
          exact hR _ _ (rd s (skipTo s j + 1)) [] n3 (.same _) ⟨rfl, rfl⟩
        · rw [if_neg h41] at hR
          simp only [nd0, Y1n, Y1o, Y1p, Y1q, Y1w, Y1x, Y1y, Y1z, Y20, Y21, Y28, Y2a, AV.cells?, Nat.reduceAdd, Nat.reduceMul, decide_eq_false h41, if_neg h41]
          refine wCall.pc (b := 0) (fail_spec B.d s (skipTo s j) 3 b2 hs) rfl rfl ?_
          rintro r cs n4 ⟨rfl, rfl⟩
          exact hR _ _ _ [] n4 (.same _) ⟨nilE, by rw [skipTo_idem], trivial, _, rfl⟩
    rw [if_neg h40] at hR
    simp only [nd0, Y1n, Y1o, Y1p, Y1q, Y1w, Y1x, Y1y, Y1z, Y20, Y21, Y28, Y2a, AV.cells?, Nat.reduceAdd, Nat.reduceMul, decide_eq_false h40, if_neg h40]
    refine wCall.pc (b := 0) (take_spec B.d s k 48 hk hs) rfl rfl ?_
    rintro r cs n1 ⟨rfl, rfl⟩
    rw [hid]
    by_cases h48 : s[k]? = some 48
    · rw [if_pos h48] at hR
      simp only [nd0, Y1n, Y1o, Y1p, Y1q, Y1w, Y1x, Y1y, Y1z, Y20, Y21, Y28, Y2a, AV.cells?, Nat.reduceAdd, Nat.reduceMul, decide_eq_true h48, if_pos h48]
      exact hR _ _ (rd s (k + 1)) [] n1 (.same _) ⟨rfl, rfl⟩
    rw [if_neg h48] at hR
    simp only [nd0, Y1n, Y1o, Y1p, Y1q, Y1w, Y1x, Y1y, Y1z, Y20, Y21, Y28, Y2a, AV.cells?, Nat.reduceAdd, Nat.reduceMul, decide_eq_false h48, if_neg h48]
    refine wCall.pc (b := 0) (take_spec B.d s k 49 hk hs) rfl rfl ?_
    rintro r cs n1 ⟨rfl, rfl⟩
    rw [hid]
    by_cases h49 : s[k]? = some 49
    · rw [if_pos h49] at hR
      simp only [nd0, Y1n, Y1o, Y1p, Y1q, Y1w, Y1x, Y1y, Y1z, Y20, Y21, Y28, Y2a, AV.cells?, Nat.reduceAdd, Nat.reduceMul, decide_eq_true h49, if_pos h49]
      exact hR _ _ (rd s (k + 1)) [] n1 (.same _) ⟨rfl, rfl⟩
    rw [if_neg h49] at hR
    simp only [nd0, Y1n, Y1o, Y1p, Y1q, Y1w, Y1x, Y1y, Y1z, Y20, Y21, Y28, Y2a, AV.cells?, Nat.reduceAdd, Nat.reduceMul, decide_eq_false h49, if_neg h49]
    refine wCall.pc (b := 0) (take_spec B.d s k 94 hk hs) rfl rfl ?_
    rintro r cs n1 ⟨rfl, rfl⟩
    rw [hid]
    by_cases h94 : s[k]? = some 94
    · rw [if_pos h94] at hR
      have hlt := lt_of_get h94
      simp only [nd0, Y1n, Y1o, Y1p, Y1q, Y1w, Y1x, Y1y, Y1z, Y20, Y21, Y28, Y2a, AV.cells?, Nat.reduceAdd, Nat.reduceMul, decide_eq_true h94, if_pos h94]
      refine wCall.pc (b := 0) (word_spec B.d s (k + 1) (by omega) hs) rfl rfl ?_
      intro r cs n2 hr
      cases hx : wordR s (k + 1) with
      | no e p =>
        rw [hx] at hr hR
        obtain ⟨rfl, j, rfl⟩ := hr
        simp only [nd0, Y1n, Y1o, Y1p, Y1q, Y1w, Y1x, Y1y, Y1z, Y20, Y21, Y28, Y2a, AV.cells?, Nat.reduceAdd, Nat.reduceMul]
        exact hR _ _ (rd s j) [] n2 (.same _) ⟨_, rfl, trivial, j, rfl⟩
      | ok x j =>
        rw [hx] at hr hR
        obtain ⟨rfl, rfl⟩ := hr
        simp only [nd0, Y1n, Y1o, Y1p, Y1q, Y1w, Y1x, Y1y, Y1z, Y20, Y21, Y28, Y2a, AV.cells?, Nat.reduceAdd, Nat.reduceMul]
        exact hR _ _ (rd s j) [] n2 (.same _) ⟨rfl, rfl⟩
    rw [if_neg h94] at hR
    simp only [nd0, Y1n, Y1o, Y1p, Y1q, Y1w, Y1x, Y1y, Y1z, Y20, Y21, Y28, Y2a, AV.cells?, Nat.reduceAdd, Nat.reduceMul, decide_eq_false h94, if_neg h94]
    refine wCall.pc (b := 0) (take_spec B.d s k 126 hk hs) rfl rfl ?_
    rintro r cs n1 ⟨rfl, rfl⟩
    rw [hid]
    by_cases h126 : s[k]? = some 126
    · rw [if_pos h126] at hR
      have hlt := lt_of_get h126
      simp only [nd0, Y1n, Y1o, Y1p, Y1q, Y1w, Y1x, Y1y, Y1z, Y20, Y21, Y28, Y2a, AV.cells?, Nat.reduceAdd, Nat.reduceMul, decide_eq_true h126, if_pos h126]
      refine wCall.pc (b := 0) (word_spec B.d s (k + 1) (by omega) hs) rfl rfl ?_
      intro r cs n2 hr
      cases hx : wordR s (k + 1) with
      | no e p =>
        rw [hx] at hr hR
        obtain ⟨rfl, j, rfl⟩ := hr
        simp only [nd0, Y1n, Y1o, Y1p, Y1q, Y1w, Y1x, Y1y, Y1z, Y20, Y21, Y28, Y2a, AV.cells?, Nat.reduceAdd, Nat.reduceMul]
        exact hR _ _ (rd s j) [] n2 (.same _) ⟨_, rfl, trivial, j, rfl⟩
      | ok x j =>
        rw [hx] at hr hR
        obtain ⟨rfl, rfl⟩ := hr
        simp only [nd0, Y1n, Y1o, Y1p, Y1q, Y1w, Y1x, Y1y, Y1z, Y20, Y21, Y28, Y2a, AV.cells?, Nat.reduceAdd, Nat.reduceMul]
        exact hR _ _ (rd s j) [] n2 (.same _) ⟨rfl, rfl⟩
    rw [if_neg h126] at hR
    simp only [nd0, Y1n, Y1o, Y1p, Y1q, Y1w, Y1x, Y1y, Y1z, Y20, Y21, Y28, Y2a, AV.cells?, Nat.reduceAdd, Nat.reduceMul, decide_eq_false h126, if_neg h126]
    refine wCall.pc (b := 0) (word_spec B.d s k hk hs) rfl rfl ?_
    intro r cs n2 hr
    cases hx : wordR s k with
    | no e p =>
      rw [hx] at hr hR
      obtain ⟨rfl, j, rfl⟩ := hr
      simp only [nd0, Y1n, Y1o, Y1p, Y1q, Y1w, Y1x, Y1y, Y1z, Y20, Y21, Y28, Y2a, AV.cells?, Nat.reduceAdd, Nat.reduceMul]
      exact hR _ _ (rd s j) [] n2 (.same _) ⟨_, rfl, trivial, j, rfl⟩
    | ok x j =>
      rw [hx] at hr hR
      obtain ⟨rfl, rfl⟩ := hr
      simp only [nd0, Y1n, Y1o, Y1p, Y1q, Y1w, Y1x, Y1y, Y1z, Y20, Y21, Y28, Y2a, AV.cells?, Nat.reduceAdd, Nat.reduceMul]
      exact hR _ _ (rd s j) [] n2 (.same _) ⟨rfl, rfl⟩
/-- what Parse answers -/
def parseA (s : Str) : AV := if 2000 < s.length then .tup [nilE, Er 4] else match parseR s with
  | .ok x _ => .tup [x.enc, nilE]
  | .no e p => .tup [nilE, At e p]
theorem parseA_closed (s : Str) : (parseA s).closed := by
  unfold parseA
  split
  · exact ⟨trivial, Er_closed _, trivial⟩
  split
  · exact ⟨Ex.enc_closed _, trivial, trivial⟩
  · exact ⟨trivial, At_closed _ _, trivial⟩
theorem Parse_spec (B : ParseBodies E P) (s : Str) : FX E P 126 [S s] (parseA s) := by
  refine FX.of' ⟨trivial, trivial⟩ (parseA_closed s) fun n R hR => B.parse _ _ _ ?_
  unfold F.expr_Parse
  unfold parseA at hR
  simp only [nd0, Y1n, Y1o, Y1p, Y1q, Y1w, Y1x, Y1y, Y1z, Y20, Y21, Y28, Y2a, AV.cells?, Nat.reduceAdd, Nat.reduceMul]
  by_cases hl : 2000 < s.length
  · rw [if_pos hl] at hR
    simp only [nd0, Y1n, Y1o, Y1p, Y1q, Y1w, Y1x, Y1y, Y1z, Y20, Y21, Y28, Y2a, AV.cells?, Nat.reduceAdd, Nat.reduceMul, decide_eq_true (show (2000 : Int) < (s.length : Int) by omega)]
    exact hR _ _ rfl
  rw [if_neg hl] at hR
  simp only [nd0, Y1n, Y1o, Y1p, Y1q, Y1w, Y1x, Y1y, Y1z, Y20, Y21, Y28, Y2a, AV.cells?, Nat.reduceAdd, Nat.reduceMul, decide_eq_false (show ¬ (2000 : Int) < (s.length : Int) by omega), show fillA [S [], Z 0] [(0, 1, S s)] = some (rd s 0) from rfl, show (AV.val (.string ⟨#[]⟩)) = S [] from rfl]
  refine wNew.L (l := rd s 0) rfl ?_
  have hs : s.length < 1000000 := by omega
  refine wCall.pc (b := 0) (or_spec B s hs (oneR s 20) (oneR_good s 20) 20 (one_spec B s hs 20 (by omega)) 0 (by omega)) rfl rfl ?_
  intro r cs n2 hr
  unfold parseR at hR
  cases hx : orR s (oneR s 20) 0 with
  | no e p =>
    rw [hx] at hr hR
    obtain ⟨zz, rfl, hz, j, rfl⟩ := hr
    simp only [nd0, Y1n, Y1o, Y1p, Y1q, Y1w, Y1x, Y1y, Y1z, Y20, Y21, Y28, Y2a, AV.cells?, Nat.reduceAdd, Nat.reduceMul, eqA_At]
    exact hR _ _ rfl
  | ok x j =>
    rw [hx] at hr hR
    obtain ⟨rfl, rfl⟩ := hr
    obtain ⟨a1, a2, a3, a4⟩ := orR_good (oneR_good s 20) 0 x j (by omega) hx
    simp only [nd0, Y1n, Y1o, Y1p, Y1q, Y1w, Y1x, Y1y, Y1z, Y20, Y21, Y28, Y2a, AV.cells?, Nat.reduceAdd, Nat.reduceMul]
    refine wCall.pc (b := 0) (blanks_spec B.d s j a2 hs) rfl rfl ?_
    rintro r cs n3 ⟨rfl, rfl⟩
    have b2 := skipTo_len a2
    simp only [nd0, Y1n, Y1o, Y1p, Y1q, Y1w, Y1x, Y1y, Y1z, Y20, Y21, Y28, Y2a, AV.cells?, Nat.reduceAdd, Nat.reduceMul, rd]
    by_cases hlt : skipTo s j < s.length
    · simp only [if_pos hlt] at hR
      simp only [nd0, Y1n, Y1o, Y1p, Y1q, Y1w, Y1x, Y1y, Y1z, Y20, Y21, Y28, Y2a, AV.cells?, Nat.reduceAdd, Nat.reduceMul, decide_eq_true (show ((skipTo s j : Nat) : Int) < (s.length : Int) by omega)]
      refine wCall.pc (b := 0) (fail_spec B.d s (skipTo s j) 3 b2 hs) rfl rfl ?_
      rintro r cs n4 ⟨rfl, rfl⟩
      exact hR _ _ (by rw [skipTo_idem])
    · simp only [if_neg hlt] at hR
      simp only [nd0, Y1n, Y1o, Y1p, Y1q, Y1w, Y1x, Y1y, Y1z, Y20, Y21, Y28, Y2a, AV.cells?, Nat.reduceAdd, Nat.reduceMul, decide_eq_false (show ¬ ((skipTo s j : Nat) : Int) < (s.length : Int) by omega)]
      exact hR _ _ rfl
end
end Go.Sc
namespace Go.Sc.F
open Go Go.Sc
set_option linter.unusedVariables false

/-- signalbox/signalboxlaw.BlockParts -/
def law_BlockParts (E : Env) (P : Program) (a0 a1 a2 a3 : AV) (H : AH) (R : Kt) : Prop :=
  wNew 2 (AV.cells? a0) H fun t4 H =>
  wGet (loadN 2 t4 H) H fun t22 H =>
  wCall E P 76 [t22] H fun t23 H =>
  wGet (extractA t23 0) H fun t24 H =>
  wGet (extractA t23 1) H fun t25 H =>
  wGet (extractA t23 2) H fun t26 H =>
  wNew 2 (some [(.val (.slice none 0 0)), (.val (.slice none 0 0))]) H fun t9 H =>
  wNew 2 (some [(.val (.int .i64 0)), (.val (.int .i64 0))]) H fun t10 H =>
  wPut (storeN 2 t9 t24 H) fun _u H =>
  wPut (storeN 2 t10 t25 H) fun _u H =>
  wGet (unA .not t26) H fun t28 H =>
  wGuard t28 false H (fun k => k a3 H) fun t30 H =>
  wGuard t28 false H (fun k => wGet (lenA t30) H k) fun t31 H =>
  wGuard t28 false H (fun k => wGet (binA .gtr t31 (.val (.int .i64 60))) H k) fun t32 H =>
  wGet (pickA t28 (.val (.bool true)) t32) H fun t33 H =>
  wIf t33 (
    R (.val (.bool true)) H) (
    wGet (loadN 2 t4 H) H fun t35 H =>
    wCall E P 52 [t35, a1, a2] H fun t38 H =>
    wGet (extractA t38 0) H fun t39 H =>
    wGet (extractA t38 1) H fun t40 H =>
    wGet (loadN 2 t4 H) H fun t42 H =>
    wCall E P 50 [t42, a1, a3] H fun t45 H =>
    wGet (extractA t45 0) H fun t46 H =>
    wGet (extractA t45 1) H fun t47 H =>
    wGet (faddr 0 t10) H fun t48 H =>
    wGet (load1 t48 H) H fun t49 H =>
    wGet (binA .neq t49 (.val (.int .i64 0))) H fun t50 H =>
    wIf t50 (
      wGet (loadN 2 t10 H) H fun t52 H =>
      wCall E P 77 [t40, t52] H fun t53 H =>
      wGuard t53 true H (fun k => k t47 H) fun t55 H =>
      wGuard t53 true H (fun k => wGet (loadN 2 t10 H) H k) fun t56 H =>
      wGuard t53 true H (fun k => wCall E P 77 [t55, t56] H k) fun t57 H =>
      wGet (pickA t53 t57 (.val (.bool false))) H fun t58 H =>
      wGuard t58 true H (fun k => k t39 H) fun t60 H =>
      wGuard t58 true H (fun k => wGet (lenA t60) H k) fun t61 H =>
      wGuard t58 true H (fun k => k t46 H) fun t62 H =>
      wGuard t58 true H (fun k => wGet (lenA t62) H k) fun t63 H =>
      wGuard t58 true H (fun k => wGet (binA .add t61 t63) H k) fun t64 H =>
      wGuard t58 true H (fun k => wGet (binA .eql t64 (.val (.int .i64 0))) H k) fun t65 H =>
      wGet (pickA t58 t65 (.val (.bool false))) H fun t66 H =>
      R t66 H) (
      wGet (faddr 0 t4) H fun t67 H =>
      wGet (load1 t67 H) H fun t68 H =>
      wGet (lenA t68) H fun t69 H =>
      wJoin 2 (fun J1 =>
        wGet (binA .lss a1 (.val (.int .i64 0))) H fun t71 H =>
        wGuard t71 false H (fun k => k a1 H) fun t73 H =>
        wGuard t71 false H (fun k => k t69 H) fun t74 H =>
        wGuard t71 false H (fun k => wGet (binA .geq t73 t74) H k) fun t75 H =>
        wGet (pickA t71 (.val (.bool true)) t75) H fun t76 H =>
        wGuard t76 false H (fun k => k a2 H) fun t78 H =>
        wGuard t76 false H (fun k => wGet (binA .lss t78 (.val (.int .i64 0))) H k) fun t79 H =>
        wGet (pickA t76 (.val (.bool true)) t79) H fun t80 H =>
        wGuard t80 false H (fun k => k a2 H) fun t82 H =>
        wGuard t80 false H (fun k => k t69 H) fun t83 H =>
        wGuard t80 false H (fun k => wGet (binA .geq t82 t83) H k) fun t84 H =>
        wGet (pickA t80 (.val (.bool true)) t84) H fun t85 H =>
        wIf t85 (
          J1 (.val (.int .i64 2)) (.val (.slice none 0 0)) H) (
          wGet (loadN 2 t9 H) H fun t87 H =>
          wCall E P 88 [t87, a1, a2] H fun t90 H =>
          wGet (extractA t90 0) H fun t91 H =>
          wGet (extractA t90 1) H fun t92 H =>
          wGet (unA .not t92) H fun t94 H =>
          wIf t94 (
            J1 (.val (.int .i64 8)) t91 H) (
            J1 (.val (.int .i64 0)) t91 H))) fun t17 t18 H =>
        wCall E P 89 [t40, t17] H fun t97 H =>
        wGet (unA .not t97) H fun t98 H =>
        wGuard t98 false H (fun k => k t39 H) fun t100 H =>
        wGuard t98 false H (fun k => k t18 H) fun t101 H =>
        wGuard t98 false H (fun k => wCall E P 80 [t100, t101] H k) fun t102 H =>
        wGuard t98 false H (fun k => wGet (unA .not t102) H k) fun t103 H =>
        wGet (pickA t98 (.val (.bool true)) t103) H fun t104 H =>
        wIf t104 (
          R (.val (.bool false)) H) (
          wJoin 1 (fun J2 =>
            wGet (binA .lss a1 (.val (.int .i64 0))) H fun t106 H =>
            wGuard t106 false H (fun k => k a1 H) fun t108 H =>
            wGuard t106 false H (fun k => k t69 H) fun t109 H =>
            wGuard t106 false H (fun k => wGet (binA .geq t108 t109) H k) fun t110 H =>
            wGet (pickA t106 (.val (.bool true)) t110) H fun t111 H =>
            wIf t111 (
              J2 (.val (.int .i64 2)) H) (
              J2 (.val (.int .i64 0)) H)) fun t17_1 H =>
            wJoin 2 (fun J3 =>
              wLoop 4 (fun I4 => I4 t17_1 (.val (.slice none 0 0)) (.val (.int .i64 0)) a1 H) fun I4 t17_2 t18_1 t19 t20 H =>
                wGet (lenA a3) H fun t115 H =>
                wGet (binA .lss t19 t115) H fun t116 H =>
                wGuard t116 true H (fun k => k t17_2 H) fun t118 H =>
                wGuard t116 true H (fun k => wGet (binA .eql t118 (.val (.int .i64 0))) H k) fun t119 H =>
                wGet (pickA t116 t119 (.val (.bool false))) H fun t120 H =>
                wIf t120 (
                  wGet (iaddr 1 a3 t19) H fun t125 H =>
                  wGet (load1 t125 H) H fun t126 H =>
                  wGet (binA .lss t126 (.val (.int .i64 0))) H fun t127 H =>
                  wGuard t127 false H (fun k => k a3 H) fun t129 H =>
                  wGuard t127 false H (fun k => k t19 H) fun t130 H =>
                  wGuard t127 false H (fun k => wGet (iaddr 1 t129 t130) H k) fun t131 H =>
                  wGuard t127 false H (fun k => wGet (load1 t131 H) H k) fun t132 H =>
                  wGuard t127 false H (fun k => wGet (faddr 0 t4) H k) fun t133 H =>
                  wGuard t127 false H (fun k => wGet (load1 t133 H) H k) fun t134 H =>
                  wGuard t127 false H (fun k => wGet (iaddr 1 t134 (.val (.int .i64 0))) H k) fun t135 H =>
                  wGuard t127 false H (fun k => wGet (load1 t135 H) H k) fun t136 H =>
                  wGuard t127 false H (fun k => wGet (lenA t136) H k) fun t137 H =>
                  wGuard t127 false H (fun k => wGet (binA .geq t132 t137) H k) fun t138 H =>
                  wGet (pickA t127 (.val (.bool true)) t138) H fun t139 H =>
                  wIf t139 (
                    J3 (.val (.int .i64 2)) (.val (.slice none 0 0)) H) (
                    wGet (faddr 1 t4) H fun t141 H =>
                    wGet (load1 t141 H) H fun t142 H =>
                    wGet (iaddr 1 t142 t20) H fun t144 H =>
                    wGet (load1 t144 H) H fun t145 H =>
                    wGet (iaddr 1 a3 t19) H fun t148 H =>
                    wGet (load1 t148 H) H fun t149 H =>
                    wGet (iaddr 1 t145 t149) H fun t150 H =>
                    wGet (load1 t150 H) H fun t151 H =>
                    wNewS 1 1 (fillA (List.replicate 1 [(.val (.int .i64 0))]).flatten [(0, 1, t151)]) H fun t152 H =>
                    wApp 1 8 t18_1 t152 H fun t153 H =>
                    wGet (faddr 0 t4) H fun t154 H =>
                    wGet (load1 t154 H) H fun t155 H =>
                    wGet (iaddr 1 t155 t20) H fun t157 H =>
                    wGet (load1 t157 H) H fun t158 H =>
                    wGet (iaddr 1 a3 t19) H fun t161 H =>
                    wGet (load1 t161 H) H fun t162 H =>
                    wGet (iaddr 1 t158 t162) H fun t163 H =>
                    wGet (load1 t163 H) H fun t164 H =>
                    wGet (binA .add t19 (.val (.int .i64 1))) H fun t122 H =>
                    I4 t17_2 t153 t122 t164 H)) (
                  J3 t17_2 t18_1 H)) fun t17_3 t18_2 H =>
              wCall E P 89 [t47, t17_3] H fun t167 H =>
              wGuard t167 true H (fun k => k t46 H) fun t169 H =>
              wGuard t167 true H (fun k => k t18_2 H) fun t170 H =>
              wGuard t167 true H (fun k => wCall E P 80 [t169, t170] H k) fun t171 H =>
              wGet (pickA t167 t171 (.val (.bool false))) H fun t172 H =>
              R t172 H)))

/-- (signalbox/signalboxref.Table).Part -/
def ref_Table_Part (E : Env) (P : Program) (a0 a1 a2 : AV) (H : AH) (R : Kt) : Prop :=
  wNew 2 (AV.cells? a0) H fun t3 H =>
  wGet (loadN 2 t3 H) H fun t14 H =>
  wCall E P 85 [t14] H fun t15 H =>
  wGet (iaddr 1 t15 a1) H fun t18 H =>
  wGet (load1 t18 H) H fun t19 H =>
  wGet (iaddr 1 t19 a2) H fun t21 H =>
  wGet (load1 t21 H) H fun t22 H =>
  wGet (binA .eql t22 (.val (.int .i64 0))) H fun t23 H =>
  wIf t23 (
    R (.tup [(.val (.slice none 0 0)), (.val (.bool false))]) H) (
    wGet (iaddr 1 t15 a1) H fun t26 H =>
    wGet (load1 t26 H) H fun t27 H =>
    wGet (iaddr 1 t27 a2) H fun t29 H =>
    wGet (load1 t29 H) H fun t30 H =>
    wLoop 4 (fun I1 => I1 a1 a2 (.val (.slice none 0 0)) t30 H) fun I1 t1 t2 t9 t10 H =>
      wGet (binA .gtr t10 (.val (.int .i64 0))) H fun t32 H =>
      wIf t32 (
        wJoin 3 (fun J2 =>
          wGet (faddr 0 t3) H fun t35 H =>
          wGet (load1 t35 H) H fun t36 H =>
          wGet (iaddr 1 t36 t1) H fun t38 H =>
          wGet (load1 t38 H) H fun t39 H =>
          wGet (lenA t39) H fun t40 H =>
          wLoop 4 (fun I3 => I3 t1 t2 t9 (.val (.int .i64 0)) H) fun I3 t1_1 t2_1 t9_1 t41 H =>
            wGet (binA .lss t41 t40) H fun t42 H =>
            wIf t42 (
              wGet (faddr 0 t3) H fun t44 H =>
              wGet (load1 t44 H) H fun t45 H =>
              wGet (iaddr 1 t45 t1_1) H fun t47 H =>
              wGet (load1 t47 H) H fun t48 H =>
              wGet (iaddr 1 t48 t41) H fun t50 H =>
              wGet (load1 t50 H) H fun t51 H =>
              wGet (faddr 0 t3) H fun t52 H =>
              wGet (load1 t52 H) H fun t53 H =>
              wGet (iaddr 1 t53 t2_1) H fun t55 H =>
              wGet (load1 t55 H) H fun t56 H =>
              wGet (iaddr 1 t56 t41) H fun t58 H =>
              wGet (load1 t58 H) H fun t59 H =>
              (wGet (load1 t52 H) H (fun y H2 => y = t53 ∧ H2 = H)) ∧
              (wGet (load1 t55 H) H (fun y H2 => y = t56 ∧ H2 = H)) ∧
              (wGet (load1 t58 H) H (fun y H2 => y = t59 ∧ H2 = H)) ∧
              wGet (binA .eql t10 (.val (.int .i64 1))) H fun t61 H =>
              wGuard t61 true H (fun k => wGet (faddr 1 t3) H k) fun t63 H =>
              wGuard t61 true H (fun k => wGet (load1 t63 H) H k) fun t64 H =>
              wGuard t61 true H (fun k => k t1_1 H) fun t65 H =>
              wGuard t61 true H (fun k => wGet (iaddr 1 t64 t65) H k) fun t66 H =>
              wGuard t61 true H (fun k => wGet (load1 t66 H) H k) fun t67 H =>
              wGuard t61 true H (fun k => k t41 H) fun t68 H =>
              wGuard t61 true H (fun k => wGet (iaddr 1 t67 t68) H k) fun t69 H =>
              wGuard t61 true H (fun k => wGet (load1 t69 H) H k) fun t70 H =>
              wGuard t61 true H (fun k => wGet (faddr 1 t3) H k) fun t71 H =>
              wGuard t61 true H (fun k => wGet (load1 t71 H) H k) fun t72 H =>
              wGuard t61 true H (fun k => k t2_1 H) fun t73 H =>
              wGuard t61 true H (fun k => wGet (iaddr 1 t72 t73) H k) fun t74 H =>
              wGuard t61 true H (fun k => wGet (load1 t74 H) H k) fun t75 H =>
              wGuard t61 true H (fun k => k t41 H) fun t76 H =>
              wGuard t61 true H (fun k => wGet (iaddr 1 t75 t76) H k) fun t77 H =>
              wGuard t61 true H (fun k => wGet (load1 t77 H) H k) fun t78 H =>
              wGuard t61 true H (fun k => wGet (binA .neq t70 t78) H k) fun t79 H =>
              wGet (pickA t61 t79 (.val (.bool false))) H fun t80 H =>
              wGuard t80 false H (fun k => k t10 H) fun t82 H =>
              wGuard t80 false H (fun k => wGet (binA .gtr t82 (.val (.int .i64 1))) H k) fun t83 H =>
              wGuard t80 false H (fun k => k t83 H) fun t84 H =>
              wGuard t84 true H (fun k => k t15 H) fun t85 H =>
              wGuard t84 true H (fun k => k t51 H) fun t86 H =>
              wGuard t84 true H (fun k => wGet (iaddr 1 t85 t86) H k) fun t87 H =>
              wGuard t84 true H (fun k => wGet (load1 t87 H) H k) fun t88 H =>
              wGuard t84 true H (fun k => k t59 H) fun t89 H =>
              wGuard t84 true H (fun k => wGet (iaddr 1 t88 t89) H k) fun t90 H =>
              wGuard t84 true H (fun k => wGet (load1 t90 H) H k) fun t91 H =>
              wGuard t84 true H (fun k => k t10 H) fun t92 H =>
              wGuard t84 true H (fun k => wGet (binA .sub t92 (.val (.int .i64 1))) H k) fun t93 H =>
              wGuard t84 true H (fun k => wGet (binA .eql t91 t93) H k) fun t94 H =>
              wGuard t80 false H (fun k => wGet (pickA t84 t94 (.val (.bool false))) H k) fun t95 H =>
              wGet (pickA t80 (.val (.bool true)) t95) H fun t96 H =>
              wIf t96 (
                wNewS 1 1 (fillA (List.replicate 1 [(.val (.int .i64 0))]).flatten [(0, 1, t41)]) H fun t99 H =>
                wApp 1 8 t9_1 t99 H fun t100 H =>
                J2 t51 t59 t100 H) (
                wGet (binA .add t41 (.val (.int .i64 1))) H fun t103 H =>
                I3 t1_1 t2_1 t9_1 t103 H)) (
              J2 t1_1 t2_1 t9_1 H)) fun t1_2 t2_2 t9_2 H =>
          wGet (binA .sub t10 (.val (.int .i64 1))) H fun t34 H =>
          I1 t1_2 t2_2 t9_2 t34 H) (
        R (.tup [t9, (.val (.bool true))]) H))

/-- signalbox/signalboxlaw.bare -/
def law_bare (E : Env) (P : Program) (a0 a1 : AV) (H : AH) (R : Kt) : Prop :=
  wCall E P 87 [a1] H fun t7 H =>
  wCall E P 77 [a0, t7] H fun t8 H =>
  R t8 H

end Go.Sc.F
namespace Go.Sc.F
open Go Go.Sc
set_option linter.unusedVariables false

/-- signalbox/signalboxlaw.BlockBlocks -/
def law_BlockBlocks (E : Env) (P : Program) (a0 : AV) (H : AH) (R : Kt) : Prop :=
  wNew 2 (AV.cells? a0) H fun t1 H =>
  wGet (loadN 2 t1 H) H fun t12 H =>
  wCall E P 76 [t12] H fun t13 H =>
  wGet (extractA t13 0) H fun t14 H =>
  wGet (extractA t13 1) H fun t15 H =>
  wGet (extractA t13 2) H fun t16 H =>
  wNew 2 (some [(.val (.slice none 0 0)), (.val (.slice none 0 0))]) H fun t3 H =>
  wNew 2 (some [(.val (.int .i64 0)), (.val (.int .i64 0))]) H fun t4 H =>
  wPut (storeN 2 t3 t14 H) fun _u H =>
  wPut (storeN 2 t4 t15 H) fun _u H =>
  wGet (unA .not t16) H fun t18 H =>
  wIf t18 (
    R (.val (.bool true)) H) (
    wGet (loadN 2 t1 H) H fun t20 H =>
    wCall E P 46 [t20] H fun t21 H =>
    wGet (extractA t21 0) H fun t22 H =>
    wGet (extractA t21 1) H fun t23 H =>
    wGet (loadN 2 t1 H) H fun t25 H =>
    wCall E P 49 [t25] H fun t26 H =>
    wGet (extractA t26 0) H fun t27 H =>
    wGet (extractA t26 1) H fun t28 H =>
    wNew 2 (some [(.val (.slice none 0 0)), (.val (.slice none 0 0))]) H fun t8 H =>
    wPut (storeN 2 t8 t27 H) fun _u H =>
    wGet (loadN 2 t1 H) H fun t29 H =>
    wGet (loadN 2 t4 H) H fun t31 H =>
    wCall E P 55 [t29] H fun t30 H =>
    (wGet (loadN 2 t4 H) H (fun y H2 => y = t31 ∧ H2 = H)) ∧
    wCall E P 77 [t30, t31] H fun t32 H =>
    wGet (unA .not t32) H fun t33 H =>
    wGuard t33 false H (fun k => k t23 H) fun t35 H =>
    wGuard t33 false H (fun k => wGet (loadN 2 t4 H) H k) fun t36 H =>
    wGuard t33 false H (fun k => wCall E P 77 [t35, t36] H k) fun t37 H =>
    wGuard t33 false H (fun k => wGet (unA .not t37) H k) fun t38 H =>
    wGet (pickA t33 (.val (.bool true)) t38) H fun t39 H =>
    wGuard t39 false H (fun k => k t28 H) fun t41 H =>
    wGuard t39 false H (fun k => wGet (loadN 2 t4 H) H k) fun t42 H =>
    wGuard t39 false H (fun k => wCall E P 77 [t41, t42] H k) fun t43 H =>
    wGuard t39 false H (fun k => wGet (unA .not t43) H k) fun t44 H =>
    wGet (pickA t39 (.val (.bool true)) t44) H fun t45 H =>
    wIf t45 (
      R (.val (.bool false)) H) (
      wGet (faddr 0 t4) H fun t46 H =>
      wGet (load1 t46 H) H fun t47 H =>
      wGet (binA .neq t47 (.val (.int .i64 0))) H fun t48 H =>
      wIf t48 (
        wGet (lenA t22) H fun t50 H =>
        wGet (faddr 0 t8) H fun t51 H =>
        wGet (load1 t51 H) H fun t52 H =>
        wGet (lenA t52) H fun t53 H =>
        wGet (binA .add t50 t53) H fun t54 H =>
        wGet (faddr 1 t8) H fun t55 H =>
        wGet (load1 t55 H) H fun t56 H =>
        wGet (lenA t56) H fun t57 H =>
        wGet (binA .add t54 t57) H fun t58 H =>
        wGet (binA .eql t58 (.val (.int .i64 0))) H fun t59 H =>
        R t59 H) (
        wGet (loadN 2 t3 H) H fun t60 H =>
        wCall E P 78 [t60] H fun t61 H =>
        wNew 2 (some [(.val (.slice none 0 0)), (.val (.slice none 0 0))]) H fun t10 H =>
        wPut (storeN 2 t10 t61 H) fun _u H =>
        wGet (loadN 2 t3 H) H fun t63 H =>
        wCall E P 79 [t63] H fun t64 H =>
        wCall E P 80 [t22, t64] H fun t65 H =>
        wGuard t65 true H (fun k => wGet (faddr 0 t8) H k) fun t67 H =>
        wGuard t65 true H (fun k => wGet (load1 t67 H) H k) fun t68 H =>
        wGuard t65 true H (fun k => wGet (faddr 0 t10) H k) fun t69 H =>
        wGuard t65 true H (fun k => wGet (load1 t69 H) H k) fun t70 H =>
        wGuard t65 true H (fun k => wCall E P 81 [t68, t70] H k) fun t71 H =>
        wGet (pickA t65 t71 (.val (.bool false))) H fun t72 H =>
        wGuard t72 true H (fun k => wGet (faddr 1 t8) H k) fun t74 H =>
        wGuard t72 true H (fun k => wGet (load1 t74 H) H k) fun t75 H =>
        wGuard t72 true H (fun k => wGet (faddr 1 t10) H k) fun t76 H =>
        wGuard t72 true H (fun k => wGet (load1 t76 H) H k) fun t77 H =>
        wGuard t72 true H (fun k => wCall E P 81 [t75, t77] H k) fun t78 H =>
        wGet (pickA t72 t78 (.val (.bool false))) H fun t79 H =>
        R t79 H)))

/-- signalbox/signalboxlaw.tables -/
def law_tables (E : Env) (P : Program) (a0 : AV) (H : AH) (R : Kt) : Prop :=
  wNew 2 (AV.cells? a0) H fun t1 H =>
  wNew 2 (some [(.val (.slice none 0 0)), (.val (.slice none 0 0))]) H fun t2 H =>
  wNew 2 (some [(.val (.int .i64 0)), (.val (.int .i64 0))]) H fun t3 H =>
  wGet (faddr 0 t1) H fun t7 H =>
  wGet (load1 t7 H) H fun t8 H =>
  wGet (faddr 1 t1) H fun t9 H =>
  wGet (load1 t9 H) H fun t10 H =>
  wAgg (fillA [(.val (.slice none 0 0)), (.val (.slice none 0 0))] [(0, 1, t8), (1, 1, t10)]) H fun t11 H =>
  wNew 2 (some [(.val (.slice none 0 0)), (.val (.slice none 0 0))]) H fun t5 H =>
  wPut (storeN 2 t5 t11 H) fun _u H =>
  wGet (faddr 0 t1) H fun t12 H =>
  wGet (load1 t12 H) H fun t13 H =>
  wGet (lenA t13) H fun t14 H =>
  wGet (binA .gtr t14 (.val (.int .i64 510))) H fun t15 H =>
  wGuard t15 false H (fun k => wGet (faddr 1 t1) H k) fun t17 H =>
  wGuard t15 false H (fun k => wGet (load1 t17 H) H k) fun t18 H =>
  wGuard t15 false H (fun k => wGet (lenA t18) H k) fun t19 H =>
  wGuard t15 false H (fun k => wGet (binA .gtr t19 (.val (.int .i64 510))) H k) fun t20 H =>
  wGet (pickA t15 (.val (.bool true)) t20) H fun t21 H =>
  wIf t21 (
    wGet (loadN 2 t5 H) H fun t22 H =>
    wGet (loadN 2 (gptr E 5) H) H fun t23 H =>
    wPut (storeN 2 t2 t22 H) fun _u H =>
    (wGet (loadN 2 (gptr E 5) H) H (fun y H2 => y = t23 ∧ H2 = H)) ∧
    wPut (storeN 2 t3 t23 H) fun _u H =>
    wGet (retPack [loadN 2 t2 H, loadN 2 t3 H, some (.val (.bool false))]) H R) (
    wGet (loadN 2 t5 H) H fun t24 H =>
    wCall E P 83 [t24] H fun t25 H =>
    wNew 2 (some [(.val (.int .i64 0)), (.val (.int .i64 0))]) H fun t6 H =>
    wPut (storeN 2 t6 t25 H) fun _u H =>
    wGet (loadN 2 t5 H) H fun t26 H =>
    wGet (loadN 2 t6 H) H fun t27 H =>
    wGet (faddr 0 t6) H fun t28 H =>
    wGet (load1 t28 H) H fun t29 H =>
    wGet (binA .neq t29 (.val (.int .i64 0))) H fun t30 H =>
    wGuard t30 false H (fun k => wGet (faddr 0 t1) H k) fun t32 H =>
    wGuard t30 false H (fun k => wGet (load1 t32 H) H k) fun t33 H =>
    wGuard t30 false H (fun k => wGet (lenA t33) H k) fun t34 H =>
    wGuard t30 false H (fun k => wGet (binA .leq t34 (.val (.int .i64 30))) H k) fun t35 H =>
    wGuard t30 false H (fun k => k t35 H) fun t36 H =>
    wGuard t36 true H (fun k => wGet (faddr 0 t1) H k) fun t37 H =>
    wGuard t36 true H (fun k => wGet (load1 t37 H) H k) fun t38 H =>
    wGuard t36 true H (fun k => wGet (iaddr 1 t38 (.val (.int .i64 0))) H k) fun t39 H =>
    wGuard t36 true H (fun k => wGet (load1 t39 H) H k) fun t40 H =>
    wGuard t36 true H (fun k => wGet (lenA t40) H k) fun t41 H =>
    wGuard t36 true H (fun k => wGet (binA .leq t41 (.val (.int .i64 8))) H k) fun t42 H =>
    wGuard t30 false H (fun k => wGet (pickA t36 t42 (.val (.bool false))) H k) fun t43 H =>
    wGet (pickA t30 (.val (.bool true)) t43) H fun t44 H =>
    wPut (storeN 2 t2 t26 H) fun _u H =>
    (wGet (loadN 2 t6 H) H (fun y H2 => y = t27 ∧ H2 = H)) ∧
    (wGuard t36 true H (fun k => wGet (load1 t37 H) H k) (fun y H2 => y = t38 ∧ H2 = H)) ∧
    (wGuard t36 true H (fun k => wGet (load1 t39 H) H k) (fun y H2 => y = t40 ∧ H2 = H)) ∧
    wPut (storeN 2 t3 t27 H) fun _u H =>
    (wGuard t36 true H (fun k => wGet (load1 t37 H) H k) (fun y H2 => y = t38 ∧ H2 = H)) ∧
    (wGuard t36 true H (fun k => wGet (load1 t39 H) H k) (fun y H2 => y = t40 ∧ H2 = H)) ∧
    wGet (retPack [loadN 2 t2 H, loadN 2 t3 H, some t44]) H R)

/-- signalbox/signalboxlaw.at -/
def law_at (E : Env) (P : Program) (a0 a1 : AV) (H : AH) (R : Kt) : Prop :=
  wNew 2 (AV.cells? a1) H fun t3 H =>
  wCall E P 84 [a0] H fun t9 H =>
  wGet (extractA t9 0) H fun t10 H =>
  wGet (extractA t9 1) H fun t11 H =>
  wGet (faddr 0 t3) H fun t13 H =>
  wGet (load1 t13 H) H fun t14 H =>
  wGet (binA .eql t10 t14) H fun t15 H =>
  wGuard t15 true H (fun k => k t11 H) fun t17 H =>
  wGuard t15 true H (fun k => wGet (faddr 1 t3) H k) fun t18 H =>
  wGuard t15 true H (fun k => wGet (load1 t18 H) H k) fun t19 H =>
  wGuard t15 true H (fun k => wGet (binA .eql t17 t19) H k) fun t20 H =>
  wGet (pickA t15 t20 (.val (.bool false))) H fun t21 H =>
  R t21 H

/-- (signalbox/signalboxref.Table).Least -/
def ref_Table_Least (E : Env) (P : Program) (a0 : AV) (H : AH) (R : Kt) : Prop :=
  wNew 2 (AV.cells? a0) H fun t1 H =>
  wNew 2 (some [(.val (.slice none 0 0)), (.val (.slice none 0 0))]) H fun t2 H =>
  wGet (loadN 2 t1 H) H fun t10 H =>
  wCall E P 79 [t10] H fun t11 H =>
  wNew 2 (some [(.val (.slice none 0 0)), (.val (.slice none 0 0))]) H fun t4 H =>
  wLoop 1 (fun I1 => I1 (.val (.int .i64 0)) H) fun I1 t5 H =>
    wJoin 0 (fun J2 =>
      wLoop 1 (fun I3 => I3 (.val (.int .i64 0)) H) fun I3 t6 H =>
        wGet (lenA t11) H fun t16 H =>
        wGet (binA .lss t6 t16) H fun t17 H =>
        wGuard t17 true H (fun k => k t11 H) fun t19 H =>
        wGuard t17 true H (fun k => k t6 H) fun t20 H =>
        wGuard t17 true H (fun k => wGet (iaddr 1 t19 t20) H k) fun t21 H =>
        wGuard t17 true H (fun k => wGet (load1 t21 H) H k) fun t22 H =>
        wGuard t17 true H (fun k => k t5 H) fun t23 H =>
        wGuard t17 true H (fun k => wGet (binA .neq t22 t23) H k) fun t24 H =>
        wGet (pickA t17 t24 (.val (.bool false))) H fun t25 H =>
        wIf t25 (
          wGet (binA .add t6 (.val (.int .i64 1))) H fun t27 H =>
          I3 t27 H) (
          wGet (lenA t11) H fun t30 H =>
          wGet (binA .eql t6 t30) H fun t31 H =>
          wIf t31 (
            wGet (loadN 2 t4 H) H fun t32 H =>
            wPut (storeN 2 t2 t32 H) fun _u H =>
            wGet (retPack [loadN 2 t2 H]) H R) (
            wGet (faddr 0 t1) H fun t33 H =>
            wGet (load1 t33 H) H fun t34 H =>
            wGet (iaddr 1 t34 t6) H fun t36 H =>
            wGet (load1 t36 H) H fun t37 H =>
            wGet (lenA t37) H fun t38 H =>
            wLoop 2 (fun I4 => I4 (.val (.slice none 0 0)) (.val (.int .i64 0)) H) fun I4 t7 t39 H =>
              wGet (binA .lss t39 t38) H fun t40 H =>
              wIf t40 (
                wGet (iaddr 1 t37 t39) H fun t41 H =>
                wGet (load1 t41 H) H fun t42 H =>
                wGet (iaddr 1 t11 t42) H fun t46 H =>
                wGet (load1 t46 H) H fun t47 H =>
                wNewS 1 1 (fillA (List.replicate 1 [(.val (.int .i64 0))]).flatten [(0, 1, t47)]) H fun t48 H =>
                wApp 1 8 t7 t48 H fun t49 H =>
                wGet (binA .add t39 (.val (.int .i64 1))) H fun t50 H =>
                I4 t49 t50 H) (
                wGet (faddr 0 t4) H fun t51 H =>
                wGet (load1 t51 H) H fun t52 H =>
                wGet (faddr 1 t4) H fun t56 H =>
                wGet (load1 t56 H) H fun t57 H =>
                wGet (faddr 1 t1) H fun t59 H =>
                wGet (load1 t59 H) H fun t60 H =>
                wGet (iaddr 1 t60 t6) H fun t62 H =>
                wGet (load1 t62 H) H fun t63 H =>
                (
                  wNewS 1 1 (fillA (List.replicate 1 [(.val (.slice none 0 0))]).flatten [(0, 1, t7)]) H fun t54 H =>
                  (wGet (load1 t51 H) H (fun y H2 => y = t52 ∧ H2 = H)) ∧
                  (wGet (load1 t56 H) H (fun y H2 => y = t57 ∧ H2 = H)) ∧
                  (wGet (load1 t59 H) H (fun y H2 => y = t60 ∧ H2 = H)) ∧
                  (wGet (load1 t62 H) H (fun y H2 => y = t63 ∧ H2 = H)) ∧
                  (
                    wApp 1 24 t52 t54 H fun t55 H =>
                    (wGet (load1 t56 H) H (fun y H2 => y = t57 ∧ H2 = H)) ∧
                    (wGet (load1 t59 H) H (fun y H2 => y = t60 ∧ H2 = H)) ∧
                    (wGet (load1 t62 H) H (fun y H2 => y = t63 ∧ H2 = H)) ∧
                    wGet (faddr 0 t4) H fun t67 H =>
                    wNewS 1 0 (fillA (List.replicate 0 [(.val (.int .i64 0))]).flatten []) H fun t58 H =>
                    (wGet (load1 t51 H) H (fun y H2 => y = t52 ∧ H2 = H)) ∧
                    (wGet (load1 t56 H) H (fun y H2 => y = t57 ∧ H2 = H)) ∧
                    (wGet (load1 t59 H) H (fun y H2 => y = t60 ∧ H2 = H)) ∧
                    (wGet (load1 t62 H) H (fun y H2 => y = t63 ∧ H2 = H)) ∧
                    wApp 1 8 t58 t63 H fun t64 H =>
                    (wGet (load1 t56 H) H (fun y H2 => y = t57 ∧ H2 = H)) ∧
                    wNewS 1 1 (fillA (List.replicate 1 [(.val (.slice none 0 0))]).flatten [(0, 1, t64)]) H fun t65 H =>
                    (wGet (load1 t56 H) H (fun y H2 => y = t57 ∧ H2 = H)) ∧
                    wApp 1 24 t57 t65 H fun t66 H =>
                    wPut (store1 t67 t55 H) fun _u H =>
                    wGet (faddr 1 t4) H fun t68 H =>
                    wPut (store1 t68 t66 H) fun _u H =>
                    J2 H) ∧
                  (
                    wNewS 1 0 (fillA (List.replicate 0 [(.val (.int .i64 0))]).flatten []) H fun t58_1 H =>
                    (wGet (load1 t51 H) H (fun y H2 => y = t52 ∧ H2 = H)) ∧
                    (wGet (load1 t56 H) H (fun y H2 => y = t57 ∧ H2 = H)) ∧
                    (wGet (load1 t59 H) H (fun y H2 => y = t60 ∧ H2 = H)) ∧
                    (wGet (load1 t62 H) H (fun y H2 => y = t63 ∧ H2 = H)) ∧
                    wApp 1 24 t52 t54 H fun t55_1 H =>
                    (wGet (load1 t56 H) H (fun y H2 => y = t57 ∧ H2 = H)) ∧
                    (wGet (load1 t59 H) H (fun y H2 => y = t60 ∧ H2 = H)) ∧
                    (wGet (load1 t62 H) H (fun y H2 => y = t63 ∧ H2 = H)) ∧
                    wGet (faddr 0 t4) H fun t67_1 H =>
                    wApp 1 8 t58_1 t63 H fun t64_1 H =>
                    (wGet (load1 t56 H) H (fun y H2 => y = t57 ∧ H2 = H)) ∧
                    wNewS 1 1 (fillA (List.replicate 1 [(.val (.slice none 0 0))]).flatten [(0, 1, t64_1)]) H fun t65_1 H =>
                    (wGet (load1 t56 H) H (fun y H2 => y = t57 ∧ H2 = H)) ∧
                    wApp 1 24 t57 t65_1 H fun t66_1 H =>
                    wPut (store1 t67_1 t55_1 H) fun _u H =>
                    wGet (faddr 1 t4) H fun t68_1 H =>
                    wPut (store1 t68_1 t66_1 H) fun _u H =>
                    J2 H)) ∧
                (
                  wNewS 1 0 (fillA (List.replicate 0 [(.val (.int .i64 0))]).flatten []) H fun t58_2 H =>
                  (wGet (load1 t51 H) H (fun y H2 => y = t52 ∧ H2 = H)) ∧
                  (wGet (load1 t56 H) H (fun y H2 => y = t57 ∧ H2 = H)) ∧
                  (wGet (load1 t59 H) H (fun y H2 => y = t60 ∧ H2 = H)) ∧
                  (wGet (load1 t62 H) H (fun y H2 => y = t63 ∧ H2 = H)) ∧
                  wNewS 1 1 (fillA (List.replicate 1 [(.val (.slice none 0 0))]).flatten [(0, 1, t7)]) H fun t54_1 H =>
                  (wGet (load1 t51 H) H (fun y H2 => y = t52 ∧ H2 = H)) ∧
                  (wGet (load1 t56 H) H (fun y H2 => y = t57 ∧ H2 = H)) ∧
                  (wGet (load1 t59 H) H (fun y H2 => y = t60 ∧ H2 = H)) ∧
                  (wGet (load1 t62 H) H (fun y H2 => y = t63 ∧ H2 = H)) ∧
                  wApp 1 24 t52 t54_1 H fun t55_2 H =>
                  (wGet (load1 t56 H) H (fun y H2 => y = t57 ∧ H2 = H)) ∧
                  (wGet (load1 t59 H) H (fun y H2 => y = t60 ∧ H2 = H)) ∧
                  (wGet (load1 t62 H) H (fun y H2 => y = t63 ∧ H2 = H)) ∧
                  wGet (faddr 0 t4) H fun t67_2 H =>
                  wApp 1 8 t58_2 t63 H fun t64_2 H =>
                  (wGet (load1 t56 H) H (fun y H2 => y = t57 ∧ H2 = H)) ∧
                  wNewS 1 1 (fillA (List.replicate 1 [(.val (.slice none 0 0))]).flatten [(0, 1, t64_2)]) H fun t65_2 H =>
                  (wGet (load1 t56 H) H (fun y H2 => y = t57 ∧ H2 = H)) ∧
                  wApp 1 24 t57 t65_2 H fun t66_2 H =>
                  wPut (store1 t67_2 t55_2 H) fun _u H =>
                  wGet (faddr 1 t4) H fun t68_2 H =>
                  wPut (store1 t68_2 t66_2 H) fun _u H =>
                  J2 H))))) fun H =>
      wGet (binA .add t5 (.val (.int .i64 1))) H fun t13 H =>
      I1 t13 H

/-- signalbox/signalboxlaw.sameInts -/
def law_sameInts (E : Env) (P : Program) (a0 a1 : AV) (H : AH) (R : Kt) : Prop :=
  wGet (lenA a0) H fun t7 H =>
  wGet (lenA a1) H fun t9 H =>
  wGet (binA .neq t7 t9) H fun t10 H =>
  wIf t10 (
    R (.val (.bool false)) H) (
    wLoop 1 (fun I1 => I1 (.val (.int .i64 0)) H) fun I1 t5 H =>
      wGet (lenA a0) H fun t13 H =>
      wGet (binA .lss t5 t13) H fun t14 H =>
      wIf t14 (
        wGet (iaddr 1 a0 t5) H fun t19 H =>
        wGet (load1 t19 H) H fun t20 H =>
        wGet (iaddr 1 a1 t5) H fun t23 H =>
        wGet (load1 t23 H) H fun t24 H =>
        wGet (binA .neq t20 t24) H fun t25 H =>
        wIf t25 (
          R (.val (.bool false)) H) (
          wGet (binA .add t5 (.val (.int .i64 1))) H fun t16 H =>
          I1 t16 H)) (
        R (.val (.bool true)) H))

/-- (signalbox/signalboxref.Table).Blocks -/
def ref_Table_Blocks (E : Env) (P : Program) (a0 : AV) (H : AH) (R : Kt) : Prop :=
  wNew 2 (AV.cells? a0) H fun t1 H =>
  wGet (loadN 2 t1 H) H fun t9 H =>
  wCall E P 85 [t9] H fun t10 H =>
  wGet (faddr 0 t1) H fun t11 H =>
  wGet (load1 t11 H) H fun t12 H =>
  wGet (lenA t12) H fun t13 H =>
  wLoop 3 (fun I1 => I1 (.val (.slice none 0 0)) (.val (.int .i64 0)) (.val (.int .i64 0)) H) fun I1 t4 t5 t14 H =>
    wGet (binA .lss t14 t13) H fun t15 H =>
    wIf t15 (
      wLoop 2 (fun I2 => I2 (.val (.int .i64 (-1))) (.val (.int .i64 0)) H) fun I2 t7 t18 H =>
        wGet (binA .lss t18 t14) H fun t19 H =>
        wIf t19 (
          wJoin 1 (fun J3 =>
            wGet (binA .lss t7 (.val (.int .i64 0))) H fun t22 H =>
            wGuard t22 true H (fun k => k t10 H) fun t24 H =>
            wGuard t22 true H (fun k => k t18 H) fun t25 H =>
            wGuard t22 true H (fun k => wGet (iaddr 1 t24 t25) H k) fun t26 H =>
            wGuard t22 true H (fun k => wGet (load1 t26 H) H k) fun t27 H =>
            wGuard t22 true H (fun k => k t14 H) fun t28 H =>
            wGuard t22 true H (fun k => wGet (iaddr 1 t27 t28) H k) fun t29 H =>
            wGuard t22 true H (fun k => wGet (load1 t29 H) H k) fun t30 H =>
            wGuard t22 true H (fun k => wGet (binA .eql t30 (.val (.int .i64 0))) H k) fun t31 H =>
            wGet (pickA t22 t31 (.val (.bool false))) H fun t32 H =>
            wIf t32 (
              wGet (iaddr 1 t4 t18) H fun t35 H =>
              wGet (load1 t35 H) H fun t36 H =>
              J3 t36 H) (
              J3 t7 H)) fun t7_1 H =>
            wGet (binA .add t18 (.val (.int .i64 1))) H fun t37 H =>
            I2 t7_1 t37 H) (
          wJoin 2 (fun J4 =>
            wGet (binA .lss t7 (.val (.int .i64 0))) H fun t39 H =>
            wIf t39 (
              wGet (binA .add t5 (.val (.int .i64 1))) H fun t42 H =>
              J4 t42 t5 H) (
              J4 t5 t7 H)) fun t5_1 t7_2 H =>
            wNewS 1 1 (fillA (List.replicate 1 [(.val (.int .i64 0))]).flatten [(0, 1, t7_2)]) H fun t45 H =>
            wApp 1 8 t4 t45 H fun t46 H =>
            wGet (binA .add t14 (.val (.int .i64 1))) H fun t47 H =>
            I1 t46 t5_1 t47 H)) (
      R t4 H)

/-- signalbox/signalboxlaw.sameLists -/
def law_sameLists (E : Env) (P : Program) (a0 a1 : AV) (H : AH) (R : Kt) : Prop :=
  wGet (lenA a0) H fun t7 H =>
  wGet (lenA a1) H fun t9 H =>
  wGet (binA .neq t7 t9) H fun t10 H =>
  wIf t10 (
    R (.val (.bool false)) H) (
    wLoop 1 (fun I1 => I1 (.val (.int .i64 0)) H) fun I1 t5 H =>
      wGet (lenA a0) H fun t13 H =>
      wGet (binA .lss t5 t13) H fun t14 H =>
      wIf t14 (
        wGet (iaddr 1 a0 t5) H fun t19 H =>
        wGet (load1 t19 H) H fun t20 H =>
        wGet (iaddr 1 a1 t5) H fun t23 H =>
        wGet (load1 t23 H) H fun t24 H =>
        wCall E P 80 [t20, t24] H fun t25 H =>
        wGet (unA .not t25) H fun t26 H =>
        wIf t26 (
          R (.val (.bool false)) H) (
          wGet (binA .add t5 (.val (.int .i64 1))) H fun t16 H =>
          I1 t16 H)) (
        R (.val (.bool true)) H))

/-- signalbox/signalboxref.TableCheck -/
def ref_TableCheck (E : Env) (P : Program) (a0 : AV) (H : AH) (R : Kt) : Prop :=
  wNew 2 (AV.cells? a0) H fun t1 H =>
  wNew 2 (some [(.val (.int .i64 0)), (.val (.int .i64 0))]) H fun t2 H =>
  wGet (faddr 0 t1) H fun t7 H =>
  wGet (load1 t7 H) H fun t8 H =>
  wGet (lenA t8) H fun t9 H =>
  wCall E P 86 [t9, (.val (.int .i64 1)), (.val (.int .i64 500))] H fun t11 H =>
  wGet (unA .not t11) H fun t12 H =>
  wGuard t12 false H (fun k => wGet (faddr 0 t1) H k) fun t14 H =>
  wGuard t12 false H (fun k => wGet (load1 t14 H) H k) fun t15 H =>
  wGuard t12 false H (fun k => wGet (iaddr 1 t15 (.val (.int .i64 0))) H k) fun t16 H =>
  wGuard t12 false H (fun k => wGet (load1 t16 H) H k) fun t17 H =>
  wGuard t12 false H (fun k => wGet (lenA t17) H k) fun t18 H =>
  wGuard t12 false H (fun k => wGet (binA .gtr t18 (.val (.int .i64 64))) H k) fun t19 H =>
  wGet (pickA t12 (.val (.bool true)) t19) H fun t20 H =>
  wIf t20 (
    wCall E P 87 [(.val (.int .i64 4))] H fun t21 H =>
    wPut (storeN 2 t2 t21 H) fun _u H =>
    wGet (retPack [loadN 2 t2 H]) H R) (
    wGet (faddr 1 t1) H fun t22 H =>
    wGet (load1 t22 H) H fun t23 H =>
    wGet (lenA t23) H fun t24 H =>
    wGet (binA .neq t24 t9) H fun t26 H =>
    wIf t26 (
      wCall E P 87 [(.val (.int .i64 3))] H fun t27 H =>
      wPut (storeN 2 t2 t27 H) fun _u H =>
      wGet (retPack [loadN 2 t2 H]) H R) (
      wGet (faddr 0 t1) H fun t28 H =>
      wGet (load1 t28 H) H fun t29 H =>
      wGet (lenA t29) H fun t30 H =>
      wLoop 1 (fun I1 => I1 (.val (.int .i64 0)) H) fun I1 t31 H =>
        wGet (binA .lss t31 t30) H fun t32 H =>
        wIf t32 (
          wGet (faddr 0 t1) H fun t34 H =>
          wGet (load1 t34 H) H fun t35 H =>
          wGet (iaddr 1 t35 t31) H fun t37 H =>
          wGet (load1 t37 H) H fun t38 H =>
          wGet (lenA t38) H fun t39 H =>
          wGet (faddr 0 t1) H fun t40 H =>
          wGet (load1 t40 H) H fun t41 H =>
          wGet (iaddr 1 t41 (.val (.int .i64 0))) H fun t42 H =>
          wGet (load1 t42 H) H fun t43 H =>
          wGet (lenA t43) H fun t44 H =>
          wGet (binA .neq t39 t44) H fun t45 H =>
          wGuard t45 false H (fun k => wGet (faddr 1 t1) H k) fun t47 H =>
          wGuard t45 false H (fun k => wGet (load1 t47 H) H k) fun t48 H =>
          wGuard t45 false H (fun k => k t31 H) fun t49 H =>
          wGuard t45 false H (fun k => wGet (iaddr 1 t48 t49) H k) fun t50 H =>
          wGuard t45 false H (fun k => wGet (load1 t50 H) H k) fun t51 H =>
          wGuard t45 false H (fun k => wGet (lenA t51) H k) fun t52 H =>
          wGuard t45 false H (fun k => wGet (faddr 0 t1) H k) fun t53 H =>
          wGuard t45 false H (fun k => wGet (load1 t53 H) H k) fun t54 H =>
          wGuard t45 false H (fun k => wGet (iaddr 1 t54 (.val (.int .i64 0))) H k) fun t55 H =>
          wGuard t45 false H (fun k => wGet (load1 t55 H) H k) fun t56 H =>
          wGuard t45 false H (fun k => wGet (lenA t56) H k) fun t57 H =>
          wGuard t45 false H (fun k => wGet (binA .neq t52 t57) H k) fun t58 H =>
          wGet (pickA t45 (.val (.bool true)) t58) H fun t59 H =>
          wIf t59 (
            wAgg (fillA [(.val (.int .i64 0)), (.val (.int .i64 0))] [(0, 1, (.val (.int .i64 3))), (1, 1, t31)]) H fun t61 H =>
            wPut (storeN 2 t2 t61 H) fun _u H =>
            wGet (retPack [loadN 2 t2 H]) H R) (
            wGet (faddr 0 t1) H fun t62 H =>
            wGet (load1 t62 H) H fun t63 H =>
            wGet (iaddr 1 t63 t31) H fun t65 H =>
            wGet (load1 t65 H) H fun t66 H =>
            wGet (lenA t66) H fun t67 H =>
            wLoop 1 (fun I2 => I2 (.val (.int .i64 0)) H) fun I2 t68 H =>
              wGet (binA .lss t68 t67) H fun t69 H =>
              wIf t69 (
                wGet (iaddr 1 t66 t68) H fun t70 H =>
                wGet (load1 t70 H) H fun t71 H =>
                wGet (binA .sub t9 (.val (.int .i64 1))) H fun t74 H =>
                wCall E P 86 [t71, (.val (.int .i64 0)), t74] H fun t75 H =>
                wGet (unA .not t75) H fun t76 H =>
                wIf t76 (
                  wAgg (fillA [(.val (.int .i64 0)), (.val (.int .i64 0))] [(0, 1, (.val (.int .i64 2))), (1, 1, t31)]) H fun t78 H =>
                  wPut (storeN 2 t2 t78 H) fun _u H =>
                  wGet (retPack [loadN 2 t2 H]) H R) (
                  wGet (binA .add t68 (.val (.int .i64 1))) H fun t79 H =>
                  I2 t79 H)) (
                wGet (binA .add t31 (.val (.int .i64 1))) H fun t80 H =>
                I1 t80 H))) (
          wGet (loadN 2 (gptr E 5) H) H fun t81 H =>
          wPut (storeN 2 t2 t81 H) fun _u H =>
          wGet (retPack [loadN 2 t2 H]) H R)))

/-- signalbox/plain.Place -/
def plain_Place (E : Env) (P : Program) (a0 : AV) (H : AH) (R : Kt) : Prop :=
  wCall E P 53 [a0] H fun t10 H =>
  wJoin 0 (fun J1 =>
    wLoop 1 (fun I2 => I2 a0 H) fun I2 t0 H =>
      wBool (eqA .iface t0 (.val (.nilIface))) H true fun t12 H =>
      wIf t12 (
        wGet (assertA 2 (.val (.pointer none)) t0) H fun t15 H =>
        wGet (extractA t15 0) H fun t16 H =>
        wGet (extractA t15 1) H fun t17 H =>
        wGuard t17 true H (fun k => k t16 H) fun t20 H =>
        wGuard t17 true H (fun k => wBool (eqA .ptr t20 (.val (.pointer none))) H true k) fun t21 H =>
        wGet (pickA t17 t21 (.val (.bool false))) H fun t22 H =>
        wIf t22 (
          wGet (nilA t16) H fun t25 H =>
          wGet (faddr 1 t25) H fun t26 H =>
          wGet (load1 t26 H) H fun t27 H =>
          (wGet (load1 t26 H) H (fun y H2 => y = t27 ∧ H2 = H)) ∧
          R (.tup [t10, t27]) H) (
          wAsI E P 6 t0 H fun t30 H =>
          wGet (extractA t30 0) H fun t31 H =>
          wGet (extractA t30 1) H fun t32 H =>
          wGet (unA .not t32) H fun t34 H =>
          wIf t34 (
            J1 H) (
            wInv E P t31 "Unwrap" [] H fun t36 H =>
            I2 t36 H))) (
        J1 H)) fun H =>
    R (.tup [t10, (.val (.int .i64 (-1)))]) H

/-- (signalbox/signalboxref.Table).apart -/
def ref_Table_apart (E : Env) (P : Program) (a0 : AV) (H : AH) (R : Kt) : Prop :=
  wNew 2 (AV.cells? a0) H fun t1 H =>
  wGet (faddr 0 t1) H fun t13 H =>
  wGet (load1 t13 H) H fun t14 H =>
  wGet (lenA t14) H fun t15 H =>
  wMake 1 24 [(.val (.slice none 0 0))] t15 t15 H fun t17 H =>
  wGet (lenA t17) H fun t19 H =>
  wLoop 1 (fun I1 => I1 (.val (.int .i64 0)) H) fun I1 t20 H =>
    wGet (binA .lss t20 t19) H fun t21 H =>
    wIf t21 (
      wMake 1 8 [(.val (.int .i64 0))] t15 t15 H fun t26 H =>
      wGet (iaddr 1 t17 t20) H fun t27 H =>
      wPut (store1 t27 t26 H) fun _u H =>
      wGet (binA .add t20 (.val (.int .i64 1))) H fun t28 H =>
      I1 t28 H) (
      wLoop 1 (fun I2 => I2 (.val (.int .i64 1)) H) fun I2 t6 H =>
        wLoop 2 (fun I3 => I3 (.val (.bool false)) (.val (.int .i64 0)) H) fun I3 t7 t32 H =>
          wGet (binA .lss t32 t15) H fun t33 H =>
          wIf t33 (
            wLoop 2 (fun I4 => I4 t7 (.val (.int .i64 0)) H) fun I4 t7_1 t36 H =>
              wGet (binA .lss t36 t15) H fun t37 H =>
              wIf t37 (
                wJoin 1 (fun J5 =>
                  wGet (iaddr 1 t17 t32) H fun t41 H =>
                  wGet (load1 t41 H) H fun t42 H =>
                  wGet (iaddr 1 t42 t36) H fun t44 H =>
                  wGet (load1 t44 H) H fun t45 H =>
                  wGet (binA .gtr t45 (.val (.int .i64 0))) H fun t46 H =>
                  wIf t46 (
                    J5 t7_1 H) (
                    wGet (faddr 0 t1) H fun t47 H =>
                    wGet (load1 t47 H) H fun t48 H =>
                    wGet (iaddr 1 t48 t32) H fun t50 H =>
                    wGet (load1 t50 H) H fun t51 H =>
                    wGet (lenA t51) H fun t52 H =>
                    wLoop 2 (fun I6 => I6 t7_1 (.val (.int .i64 0)) H) fun I6 t7_2 t53 H =>
                      wGet (binA .lss t53 t52) H fun t54 H =>
                      wIf t54 (
                        wGet (faddr 0 t1) H fun t56 H =>
                        wGet (load1 t56 H) H fun t57 H =>
                        wGet (iaddr 1 t57 t32) H fun t59 H =>
                        wGet (load1 t59 H) H fun t60 H =>
                        wGet (iaddr 1 t60 t53) H fun t62 H =>
                        wGet (load1 t62 H) H fun t63 H =>
                        wGet (faddr 0 t1) H fun t64 H =>
                        wGet (load1 t64 H) H fun t65 H =>
                        wGet (iaddr 1 t65 t36) H fun t67 H =>
                        wGet (load1 t67 H) H fun t68 H =>
                        wGet (iaddr 1 t68 t53) H fun t70 H =>
                        wGet (load1 t70 H) H fun t71 H =>
                        (wGet (load1 t64 H) H (fun y H2 => y = t65 ∧ H2 = H)) ∧
                        (wGet (load1 t67 H) H (fun y H2 => y = t68 ∧ H2 = H)) ∧
                        (wGet (load1 t70 H) H (fun y H2 => y = t71 ∧ H2 = H)) ∧
                        wGet (binA .eql t6 (.val (.int .i64 1))) H fun t73 H =>
                        wGuard t73 true H (fun k => wGet (faddr 1 t1) H k) fun t75 H =>
                        wGuard t73 true H (fun k => wGet (load1 t75 H) H k) fun t76 H =>
                        wGuard t73 true H (fun k => k t32 H) fun t77 H =>
                        wGuard t73 true H (fun k => wGet (iaddr 1 t76 t77) H k) fun t78 H =>
                        wGuard t73 true H (fun k => wGet (load1 t78 H) H k) fun t79 H =>
                        wGuard t73 true H (fun k => k t53 H) fun t80 H =>
                        wGuard t73 true H (fun k => wGet (iaddr 1 t79 t80) H k) fun t81 H =>
                        wGuard t73 true H (fun k => wGet (load1 t81 H) H k) fun t82 H =>
                        wGuard t73 true H (fun k => wGet (faddr 1 t1) H k) fun t83 H =>
                        wGuard t73 true H (fun k => wGet (load1 t83 H) H k) fun t84 H =>
                        wGuard t73 true H (fun k => k t36 H) fun t85 H =>
                        wGuard t73 true H (fun k => wGet (iaddr 1 t84 t85) H k) fun t86 H =>
                        wGuard t73 true H (fun k => wGet (load1 t86 H) H k) fun t87 H =>
                        wGuard t73 true H (fun k => k t53 H) fun t88 H =>
                        wGuard t73 true H (fun k => wGet (iaddr 1 t87 t88) H k) fun t89 H =>
                        wGuard t73 true H (fun k => wGet (load1 t89 H) H k) fun t90 H =>
                        wGuard t73 true H (fun k => wGet (binA .neq t82 t90) H k) fun t91 H =>
                        wGet (pickA t73 t91 (.val (.bool false))) H fun t92 H =>
                        wGuard t92 false H (fun k => k t6 H) fun t94 H =>
                        wGuard t92 false H (fun k => wGet (binA .gtr t94 (.val (.int .i64 1))) H k) fun t95 H =>
                        wGuard t92 false H (fun k => k t95 H) fun t96 H =>
                        wGuard t96 true H (fun k => k t17 H) fun t97 H =>
                        wGuard t96 true H (fun k => k t63 H) fun t98 H =>
                        wGuard t96 true H (fun k => wGet (iaddr 1 t97 t98) H k) fun t99 H =>
                        wGuard t96 true H (fun k => wGet (load1 t99 H) H k) fun t100 H =>
                        wGuard t96 true H (fun k => k t71 H) fun t101 H =>
                        wGuard t96 true H (fun k => wGet (iaddr 1 t100 t101) H k) fun t102 H =>
                        wGuard t96 true H (fun k => wGet (load1 t102 H) H k) fun t103 H =>
                        wGuard t96 true H (fun k => k t6 H) fun t104 H =>
                        wGuard t96 true H (fun k => wGet (binA .sub t104 (.val (.int .i64 1))) H k) fun t105 H =>
                        wGuard t96 true H (fun k => wGet (binA .eql t103 t105) H k) fun t106 H =>
                        wGuard t92 false H (fun k => wGet (pickA t96 t106 (.val (.bool false))) H k) fun t107 H =>
                        wGet (pickA t92 (.val (.bool true)) t107) H fun t108 H =>
                        wIf t108 (
                          wGet (iaddr 1 t17 t32) H fun t111 H =>
                          wGet (load1 t111 H) H fun t112 H =>
                          wGet (iaddr 1 t112 t36) H fun t115 H =>
                          wPut (store1 t115 t6 H) fun _u H =>
                          J5 (.val (.bool true)) H) (
                          wGet (binA .add t53 (.val (.int .i64 1))) H fun t116 H =>
                          I6 t7_2 t116 H)) (
                        J5 t7_2 H))) fun t7_3 H =>
                  wGet (binA .add t36 (.val (.int .i64 1))) H fun t117 H =>
                  I4 t7_3 t117 H) (
                wGet (binA .add t32 (.val (.int .i64 1))) H fun t118 H =>
                I3 t7_1 t118 H)) (
            wGet (unA .not t7) H fun t120 H =>
            wIf t120 (
              R t17 H) (
              wGet (binA .add t6 (.val (.int .i64 1))) H fun t30 H =>
              I2 t30 H)))

/-- signalbox/signalboxref.within -/
def ref_within (E : Env) (P : Program) (a0 a1 a2 : AV) (H : AH) (R : Kt) : Prop :=
  wGet (binA .geq a0 a1) H fun t9 H =>
  wGuard t9 true H (fun k => k a0 H) fun t11 H =>
  wGuard t9 true H (fun k => k a2 H) fun t12 H =>
  wGuard t9 true H (fun k => wGet (binA .leq t11 t12) H k) fun t13 H =>
  wGet (pickA t9 t13 (.val (.bool false))) H fun t14 H =>
  R t14 H

/-- signalbox/signalboxref.Bare -/
def ref_Bare (E : Env) (P : Program) (a0 : AV) (H : AH) (R : Kt) : Prop :=
  wNew 2 (some [(.val (.int .i64 0)), (.val (.int .i64 0))]) H fun t2 H =>
  wAgg (fillA [(.val (.int .i64 0)), (.val (.int .i64 0))] [(0, 1, a0), (1, 1, (.val (.int .i64 (-1))))]) H fun t4 H =>
  wPut (storeN 2 t2 t4 H) fun _u H =>
  wGet (retPack [loadN 2 t2 H]) H R

end Go.Sc.F
