/- CONTRACTS: the reference's Pairs. CONTRACTS: the reference's GateOf, whole. TSEITIN: an expression can hold just if its clauses can; what is made tidy asks of no new names. PLAIN LAWS OF TABLES: the reference's marks: in which round two states are parted. CONTRACTS: the reference's tables: apart. CONTRACTS: the reference's tables: Blocks, Least; the law's helpers. THE LAW BlockBlocks, out of the contracts. THE LAW GateMakes, out of the contracts. THE LAW CoverPairs, out of the contracts. A PACKAGE-LEVEL NUMBER THAT MAY BE ANY: told to the contract of a row; strings.Contains out of the kit's shelf. errors.As(err, *Errno): Go's own text walked, after the guide's worked walk (its toy 'toyas'). errors.As at *At. api.Tell: the code in an error. (of the seat YtldomhanfhfonaaGreatDoor) -/
import Derived.Test.YtldomhanfhfonaaGreatDoorCore9
import Derived.SizedLaws
import Derived.Shelf.Vars
import Derived.Lib.IndexMore
import Derived.Test.YtldomhanfhfonaaGreatDoorProg
import Derived.WalkKit
import Derived.LaidEql
import Derived.Stop.Asserts
import Derived.RowKitTokens
import Derived.Below
import Derived.KernelRfl
namespace Go.Sc
open Go
set_option linter.unusedSimpArgs false
set_option linter.unusedVariables false
set_option linter.unnecessarySimpa false
structure RefPairsBodies (E : Env) (P : Program) : Prop where
  r : RefSaysBodies E P
  index : Body2 E P 98 F.ref_index
  pairs : Body1 E P 250 F.ref_Pairs
  pairs1 : Body3 E P 252 F.ref_Pairs_c1
  pairs2 : Body3 E P 253 F.ref_Pairs_c1_c1
theorem remA {a : Nat} : binA .rem (U a) (.val (.int .u64 2)) = some (U (a % 2)) := by
  simp only [binA, intBin, if_true]
  rw [if_neg (by omega)]
  congr 3
theorem addA {a b : Nat} (h : a + b < 2 ^ 64) : binA .add (U a) (U b) = some (U (a + b)) := by
  rw [binA_add', show ((a : Int) + b) = ((a + b : Nat) : Int) by push_cast; rfl, wrap_u h]
theorem add_or {v k : Nat} (h : v.testBit k = false) : v + 2 ^ k = v ||| 2 ^ k := by
  have hv := (Nat.div_add_mod v (2 ^ (k + 1))).symm
  have hm : v % 2 ^ (k + 1) < 2 ^ k := by
    have h1 := Nat.mod_lt v (Nat.two_pow_pos (k + 1))
    rw [Nat.testBit_eq_decide_div_mod_eq, decide_eq_false_iff_not] at h
    have h2 : v % 2 ^ (k + 1) / 2 ^ k = v / 2 ^ k % 2 := by
      rw [Nat.pow_succ, Nat.mod_mul_right_div_self]
    have h3 : v % 2 ^ (k + 1) / 2 ^ k = 0 := by omega
    exact (Nat.div_eq_zero_iff_lt (Nat.two_pow_pos k)).1 h3
  apply Nat.eq_of_testBit_eq
  intro i
  rw [Nat.testBit_or, Nat.testBit_two_pow]
  have e : v + 2 ^ k = 2 ^ (k + 1) * (v / 2 ^ (k + 1)) + (2 ^ k + v % 2 ^ (k + 1)) := by omega
  have hp : 2 ^ (k + 1) = 2 * 2 ^ k := by rw [Nat.pow_succ]; omega
  have hlt : 2 ^ k + v % 2 ^ (k + 1) < 2 ^ (k + 1) := by omega
  rw [e, Nat.testBit_two_pow_mul_add _ hlt]
  conv => rhs; rw [hv, Nat.testBit_two_pow_mul_add _ (Nat.mod_lt v (Nat.two_pow_pos (k + 1)))]
  by_cases hi : i < k + 1
  · rw [if_pos hi, if_pos hi]
    by_cases hk : i = k
    · subst hk
      rw [Nat.testBit_two_pow_add_eq]
      simp [Nat.testBit_lt_two_pow hm]
    · rw [Nat.testBit_two_pow_add_gt (by omega)]
      simp [Ne.symm hk]
  · rw [if_neg hi, if_neg hi]
    simp [show ¬ k = i by omega]
section
variable {E : Env} {P : Program}
theorem risP_spec (B : RefPairsBodies E P) {L : List Str} (hL : L.length < 60) (h0 : ∀ s ∈ L, s ≠ []) {v : Nat} (hv : v < 2 ^ 64) {s : Str} (hs : s ∈ L) : FX E P 253 ([S s] ++ [.ptrF [U v] 0, .ptrF [Lm S L] 0]) (Bo (v.testBit (ixN L s))) := by
  have hi := ixN_lt hs
  refine FX.of' ⟨trivial, ⟨trivial, trivial⟩, ⟨closed_S L, trivial⟩, trivial⟩ trivial fun n R hR => B.pairs2 _ _ _ _ _ ?_
  unfold F.ref_Pairs_c1_c1
  simp only [nd0, Y1n, Y1o, Y1p, Y1q, Y1w, Y1x, Y1y, Y1z, Y20, Y21, Y28, Y2a, AV.cells?, Nat.reduceAdd, Nat.reduceMul]
  refine wCall.fx (rindex_spec B.index L s (by omega)) fun n1 => ?_
  rw [show idxQ L s = (ixN L s : Nat) by unfold idxQ; rw [if_neg (h0 s hs), ixN_of hs]]
  simp only [nd0, Y1n, Y1o, Y1p, Y1q, Y1w, Y1x, Y1y, Y1z, Y20, Y21, Y28, Y2a, AV.cells?, Nat.reduceAdd, Nat.reduceMul, and_self, true_and]
  have hv2 : v / 2 ^ ixN L s < 2 ^ 64 := Nat.lt_of_le_of_lt (Nat.div_le_self _ _) hv
  rw [shrA (by omega)]
  simp only [nd0, Y1n, Y1o, Y1p, Y1q, Y1w, Y1x, Y1y, Y1z, Y20, Y21, Y28, Y2a, AV.cells?, Nat.reduceAdd, Nat.reduceMul]
  rw [binA_U, andA hv2 (by omega)]
  simp only [nd0, Y1n, Y1o, Y1p, Y1q, Y1w, Y1x, Y1y, Y1z, Y20, Y21, Y28, Y2a, AV.cells?, Nat.reduceAdd, Nat.reduceMul]
  refine hR _ _ ?_
  congr 2
  rw [Bool.eq_iff_iff, decide_eq_true_iff]
  exact bit_one hv
theorem ris_asks (B : RefPairsBodies E P) {L : List Str} (hL : L.length < 60) (h0 : ∀ s ∈ L, s ≠ []) {v : Nat} (hv : v < 2 ^ 64) : AsksOn E P (.fn 253 [] [.ptrF [U v] 0, .ptrF [Lm S L] 0]) (fun s => v.testBit (ixN L s)) (fun s => s ∈ L) :=
  ⟨253, _, rfl, ⟨⟨trivial, trivial⟩, ⟨closed_S L, trivial⟩, trivial⟩, fun s hs => risP_spec B hL h0 hv hs⟩
theorem rsv_spec (B : RefPairsBodies E P) {x : Ex} (hw : x.wt ≤ 1000000) (hf : x.fine) (hL : x.names.length < 60) {v : Nat} (hv : v < 2 ^ 64) : FX E P 252 ([U v] ++ [.ptrF [Lm S x.names] 0, .ptrF [x.ref] 0]) (Bo (sv x x.names v)) := by
  refine FX.of' ⟨trivial, ⟨closed_S _, trivial⟩, ⟨Ex.ref_closed x, trivial⟩, trivial⟩ trivial fun n R hR => B.pairs1 _ _ _ _ _ ?_
  unfold F.ref_Pairs_c1
  rw [cells?_scalar (show (U v).scalar = true from rfl)]
  refine wNew.F' rfl ?_
  simp only [nd0, Y1n, Y1o, Y1p, Y1q, Y1w, Y1x, Y1y, Y1z, Y20, Y21, Y28, Y2a, AV.cells?, Nat.reduceAdd, Nat.reduceMul]
  have ha := ris_asks B hL (fun s hs => nameOk_ne (names_ok hf hs)) hv
  refine wCall.fx (refEval_spec1 B.r ha ha (x.wt + 1) x (by omega) hw hf (names_on hf)) fun n1 => ?_
  exact hR _ _ rfl
set_option maxHeartbeats 1000000 in
theorem rPairs_spec (B : RefPairsBodies E P) (x : Ex) (hw : x.wt ≤ 1000000) (hf : x.fine) (hn : x.names.length ≤ 8) : FX E P 250 [x.ref] (PrL (pairsOf x x.names)) := by
  refine FX.of ⟨Ex.ref_closed x, trivial⟩ (PrL_closed _) fun n R hR => B.pairs _ _ _ ?_
  unfold F.ref_Pairs
  rw [cells?_scalar (show x.ref.scalar = true by rw [Ex.ref_eq]; rfl)]
  refine wNew.F' rfl ?_
  simp only [nd0, Y1n, Y1o, Y1p, Y1q, Y1w, Y1x, Y1y, Y1z, Y20, Y21, Y28, Y2a, AV.cells?, Nat.reduceAdd, Nat.reduceMul]
  refine wCall.fx (refNames_spec B.r.toRefSaysBodies0 x hw hf) fun n2 => ?_
  rw [show onceS (x.raw nf1) = x.names from rfl]
  refine wNew.L (l := [nilS]) rfl ?_
  simp only [nd0, Y1n, Y1o, Y1p, Y1q, Y1w, Y1x, Y1y, Y1z, Y20, Y21, Y28, Y2a, AV.cells?, Nat.reduceAdd, Nat.reduceMul]
  rw [store1_L rfl]
  simp only [nd0, Y1n, Y1o, Y1p, Y1q, Y1w, Y1x, Y1y, Y1z, Y20, Y21, Y28, Y2a, AV.cells?, Nat.reduceAdd, Nat.reduceMul, Nat.reduceLT, show lenA (Lm S x.names) = some (Z x.names.length) from rfl]
  have hp0 : 0 < 2 ^ x.names.length := Nat.two_pow_pos _
  have hp8 : 2 ^ x.names.length ≤ 2 ^ 8 := Nat.pow_le_pow_right (by omega) (by omega)
  have hfz : ∀ (v : Nat) (bs : List Blk) (c : Nat), FkL ⟨.cells n2 1 [Lm S x.names] :: bs, c⟩ S0 ([] ++ [U v] ++ [.ptrL 0 0 n2, .ptrF [x.ref] 0]) ([U v] ++ [.ptrF [Lm S x.names] 0, .ptrF [x.ref] 0]) := fun v bs c =>
    .cons (.same _) (.cons (Fk.ptrF 1 rfl rfl (FkL.same _)) (.cons (.same _) .nil))
  refine wLoop.two (fun m t i H => ∃ k z c, k ≤ x.names.length ∧ i = Z (k : Nat) ∧ m = x.names.length - k ∧ Gr 3 z 1 t ((pairsUp x x.names k).flatMap Pr) (pairsUp x x.names k).length ∧ H = ⟨[.cells n2 1 [Lm S x.names], z], c⟩) x.names.length
    (gh2.of (ghost_room [.dead] (by simp)) ⟨0, .dead, _, by omega, rfl, rfl, .nil, rfl⟩) ?_
  rintro m t i H ⟨k, z, c, hk, rfl, rfl, hg, rfl⟩
  by_cases hlt : k < x.names.length
  case neg =>
    have : k = x.names.length := by omega
    subst this
    simp only [nd0, Y1n, Y1o, Y1p, Y1q, Y1w, Y1x, Y1y, Y1z, Y20, Y21, Y28, Y2a, AV.cells?, Nat.reduceAdd, Nat.reduceMul, decide_eq_false (show ¬ ((x.names.length : Int) < (x.names.length : Int)) by omega)]
    exact hR _ _ (.sub hg.sub)
  simp only [nd0, Y1n, Y1o, Y1p, Y1q, Y1w, Y1x, Y1y, Y1z, Y20, Y21, Y28, Y2a, AV.cells?, Nat.reduceAdd, Nat.reduceMul, decide_eq_true (show (k : Int) < (x.names.length : Int) by omega)]
  have hkey : x.names[k]? = some x.names[k] := List.getElem?_eq_getElem hlt
  refine wJoin.one (fun t H => ∃ z c, Gr 3 z 1 t ((pairsUp x x.names (k + 1)).flatMap Pr) (pairsUp x x.names (k + 1)).length ∧ H = ⟨[.cells n2 1 [Lm S x.names], z], c⟩) ?_ ?_
  case refine_2 =>
    rintro t H ⟨z, c, hg, rfl⟩
    rw [binA_succ (by omega)]
    simp only [nd0, Y1n, Y1o, Y1p, Y1q, Y1w, Y1x, Y1y, Y1z, Y20, Y21, Y28, Y2a, AV.cells?, Nat.reduceAdd, Nat.reduceMul]
    exact back2.mk _ (by omega) ⟨k + 1, z, c, by omega, rfl, rfl, hg, rfl⟩
  rw [show iaddr 1 (Lm S x.names) (Z (k : Nat)) = some (.ptrF (x.names.map fun s => S s) k) from iaddr_Nn hlt]
  simp only [nd0, Y1n, Y1o, Y1p, Y1q, Y1w, Y1x, Y1y, Y1z, Y20, Y21, Y28, Y2a, AV.cells?, Nat.reduceAdd, Nat.reduceMul, show (x.names.map fun s => S s)[k]? = some (S x.names[k]) by rw [List.getElem?_map, hkey]; rfl]
  refine wLoop.two (fun m t' i H => ∃ v c, v ≤ 2 ^ x.names.length ∧ i = U v ∧ m = 2 ^ x.names.length - v ∧ t' = t ∧ (∀ w < v, cond x k w = false) ∧ H = ⟨[.cells n2 1 [Lm S x.names], z], c⟩) (2 ^ x.names.length) (gh2.mk ⟨0, c, by omega, rfl, rfl, rfl, by simp, rfl⟩) ?_
  rintro m tt i H ⟨v, c1, hv, rfl, rfl, rfl, hno, rfl⟩
  simp only [nd0, Y1n, Y1o, Y1p, Y1q, Y1w, Y1x, Y1y, Y1z, Y20, Y21, Y28, Y2a, AV.cells?, Nat.reduceAdd, Nat.reduceMul, show lenA (Lm S x.names) = some (Z x.names.length) from rfl]
  rw [shlA (by omega)]
  simp only [nd0, Y1n, Y1o, Y1p, Y1q, Y1w, Y1x, Y1y, Y1z, Y20, Y21, Y28, Y2a, AV.cells?, Nat.reduceAdd, Nat.reduceMul]
  by_cases hvl : v < 2 ^ x.names.length
  case neg =>
    simp only [nd0, Y1n, Y1o, Y1p, Y1q, Y1w, Y1x, Y1y, Y1z, Y20, Y21, Y28, Y2a, AV.cells?, Nat.reduceAdd, Nat.reduceMul, decide_eq_false (show ¬ ((v : Int) < ((2 ^ x.names.length : Nat) : Int)) by omega)]
    have hnone : pairAt x x.names k = none := by
      unfold pairAt
      rw [List.find?_range_eq_none]
      intro w hw
      have := hno w (by omega)
      unfold cond at this
      simp [this]
    refine gh1.mk ⟨z, c1, ?_, rfl⟩
    simpa [pairsUp, hkey, hnone] using hg
  have hk2 : 2 ^ k ≤ 2 ^ 8 := Nat.pow_le_pow_right (by omega) (by omega)
  simp only [nd0, Y1n, Y1o, Y1p, Y1q, Y1w, Y1x, Y1y, Y1z, Y20, Y21, Y28, Y2a, AV.cells?, Nat.reduceAdd, Nat.reduceMul, decide_eq_true (show ((v : Int) < ((2 ^ x.names.length : Nat) : Int)) by omega)]
  rw [shrA (by omega)]
  simp only [nd0, Y1n, Y1o, Y1p, Y1q, Y1w, Y1x, Y1y, Y1z, Y20, Y21, Y28, Y2a, AV.cells?, Nat.reduceAdd, Nat.reduceMul]
  rw [remA]
  simp only [nd0, Y1n, Y1o, Y1p, Y1q, Y1w, Y1x, Y1y, Y1z, Y20, Y21, Y28, Y2a, AV.cells?, Nat.reduceAdd, Nat.reduceMul, show (0 : Int) = ((0 : Nat) : Int) from rfl]
  have next : ∀ c2 : Nat, cond x k v = false → back2 (fun m t' i H => ∃ v c, v ≤ 2 ^ x.names.length ∧ i = U v ∧ m = 2 ^ x.names.length - v ∧ t' = tt ∧ (∀ w < v, cond x k w = false) ∧ H = ⟨[.cells n2 1 [Lm S x.names], z], c⟩) (2 ^ x.names.length - v) tt (U (v + 1)) ⟨[.cells n2 1 [Lm S x.names], z], c2⟩ := fun c2 h =>
    back2.mk _ (by omega) ⟨v + 1, c2, by omega, rfl, rfl, rfl, fun w hw => by
      rcases Nat.lt_or_ge w v with h1 | h1
      · exact hno w h1
      · rw [show w = v by omega]; exact h, rfl⟩
  have hadd : binA .add (U v) (.val (.int .u64 1)) = some (U (v + 1)) := addA (a := v) (b := 1) (by omega)
  cases hb : v.testBit k with
  | true =>
    have hm : v / 2 ^ k % 2 = 1 := by rw [Nat.testBit_eq_decide_div_mod_eq, decide_eq_true_iff] at hb; exact hb
    simp only [nd0, Y1n, Y1o, Y1p, Y1q, Y1w, Y1x, Y1y, Y1z, Y20, Y21, Y28, Y2a, AV.cells?, Nat.reduceAdd, Nat.reduceMul, hm, show decide (((1 : Nat) : Int) = ((0 : Nat) : Int)) = false from rfl]
    rw [hadd]
    simp only [nd0, Y1n, Y1o, Y1p, Y1q, Y1w, Y1x, Y1y, Y1z, Y20, Y21, Y28, Y2a, AV.cells?, Nat.reduceAdd, Nat.reduceMul]
    exact next _ (by unfold cond; rw [hb]; rfl)
  | false =>
    have hm : v / 2 ^ k % 2 = 0 := by rw [Nat.testBit_eq_decide_div_mod_eq, decide_eq_false_iff_not] at hb; omega
    simp only [nd0, Y1n, Y1o, Y1p, Y1q, Y1w, Y1x, Y1y, Y1z, Y20, Y21, Y28, Y2a, AV.cells?, Nat.reduceAdd, Nat.reduceMul, hm, show decide (((0 : Nat) : Int) = ((0 : Nat) : Int)) = true from rfl]
    rw [shlA (by omega)]
    simp only [nd0, Y1n, Y1o, Y1p, Y1q, Y1w, Y1x, Y1y, Y1z, Y20, Y21, Y28, Y2a, AV.cells?, Nat.reduceAdd, Nat.reduceMul]
    rw [addA (by omega), add_or hb]
    simp only [nd0, Y1n, Y1o, Y1p, Y1q, Y1w, Y1x, Y1y, Y1z, Y20, Y21, Y28, Y2a, AV.cells?, Nat.reduceAdd, Nat.reduceMul]
    have hor : v ||| 2 ^ k < 2 ^ 64 := Nat.or_lt_two_pow (by omega) (by omega)
    refine wCallV.bo (fs := []) (cs := [.ptrL 0 0 n2, .ptrF [x.ref] 0]) (rsv_spec B hw hf (by omega) (v := v) (by omega)) trivial (hfz v _ _) fun n3 => ?_
    simp only [nd0, Y1n, Y1o, Y1p, Y1q, Y1w, Y1x, Y1y, Y1z, Y20, Y21, Y28, Y2a, AV.cells?, Nat.reduceAdd, Nat.reduceMul]
    refine wCallV.bo (fs := []) (cs := [.ptrL 0 0 n2, .ptrF [x.ref] 0]) (rsv_spec B hw hf (by omega) (v := v ||| 2 ^ k) hor) trivial (hfz (v ||| 2 ^ k) _ _) fun n4 => ?_
    simp only [nd0, Y1n, Y1o, Y1p, Y1q, Y1w, Y1x, Y1y, Y1z, Y20, Y21, Y28, Y2a, AV.cells?, Nat.reduceAdd, Nat.reduceMul]
    cases hs : sv x x.names v == sv x x.names (v ||| 2 ^ k) with
    | true =>
      simp only [nd0, Y1n, Y1o, Y1p, Y1q, Y1w, Y1x, Y1y, Y1z, Y20, Y21, Y28, Y2a, AV.cells?, Nat.reduceAdd, Nat.reduceMul]
      rw [hadd]
      simp only [nd0, Y1n, Y1o, Y1p, Y1q, Y1w, Y1x, Y1y, Y1z, Y20, Y21, Y28, Y2a, AV.cells?, Nat.reduceAdd, Nat.reduceMul]
      exact next _ (by unfold cond; rw [hb, bne, hs]; rfl)
    | false =>
      simp only [nd0, Y1n, Y1o, Y1p, Y1q, Y1w, Y1x, Y1y, Y1z, Y20, Y21, Y28, Y2a, AV.cells?, Nat.reduceAdd, Nat.reduceMul]
      have hsome : pairAt x x.names k = some v := by
        unfold pairAt
        rw [List.find?_range_eq_some]
        refine ⟨by rw [hb, bne, hs]; rfl, by simpa using hvl, fun w hw => ?_⟩
        have := hno w hw
        unfold cond at this
        rw [this]; rfl
      rw [show fillA [S [], U 0, U 0] [(0, 1, S x.names[k]), (1, 1, U v), (2, 1, U (v ||| 2 ^ k))] = some [S x.names[k], U v, U (v ||| 2 ^ k)] from rfl]
      simp only [nd0, Y1n, Y1o, Y1p, Y1q, Y1w, Y1x, Y1y, Y1z, Y20, Y21, Y28, Y2a, AV.cells?, Nat.reduceAdd, Nat.reduceMul]
      refine wNewS.F' (l := [S x.names[k], U v, U (v ||| 2 ^ k)]) rfl rfl ?_
      refine wApp.gr hg rfl (flat_len _) (new := [S x.names[k], U v, U (v ||| 2 ^ k)]) (m := 1) rfl (.refl _) rfl (by have := pairsUp_len x x.names k; simp [mostBytes]; omega) fun z' x' c' k' => ?_
      simp only [nd0, Y1n, Y1o, Y1p, Y1q, Y1w, Y1x, Y1y, Y1z, Y20, Y21, Y28, Y2a, AV.cells?, Nat.reduceAdd, Nat.reduceMul]
      refine gh1.mk ⟨z', c', ?_, rfl⟩
      simpa [pairsUp, hkey, hsome, Pr] using k'
end
end Go.Sc
namespace Go.Sc
open Go
set_option linter.unusedSimpArgs false
set_option linter.unnecessarySimpa false
/-- in which round two states are parted, of the first 'd' (0: in none) -/
def mk (t : Table) : Nat → Nat → Nat → Nat
  | 0, _, _ => 0
  | d + 1, a, b => if mk t d a b > 0 then mk t d a b else if cell (iter t (d + 1)) a = cell (iter t (d + 1)) b then 0 else d + 1
theorem mk_zero {t : Table} {a b : Nat} (ha : a < t.next.length) (hb : b < t.next.length) : ∀ d, mk t d a b = 0 ↔ cell (iter t d) a = cell (iter t d) b
  | 0 => by simp [mk, iter, cell, ha, hb]
  | d + 1 => by
    have h := mk_zero ha hb d
    simp only [mk]
    split
    · rename_i hp
      constructor
      · intro h0; omega
      · intro he
        have := h.2 (iter_apart ha hb (Nat.le_succ d) he)
        omega
    · split
      · rename_i he; simp [he]
      · rename_i he; simp [he]
/-- what stands after the round is as before it, or new -/
theorem mk_step {t : Table} {a b d : Nat} (h : mk t d a b > 0) : mk t (d + 1) a b = mk t d a b := by simp only [mk]; rw [if_pos h]
theorem more {t : Table} {d x y : Nat} (hx : x < t.next.length) (hy : y < t.next.length) (h : mk t (d + 1) x y ≠ mk t d x y) : iter t (d + 1) ≠ iter t d := by
  intro he
  have h0 : mk t d x y = 0 := Classical.byContradiction fun hp => h (mk_step (by omega))
  have h1 : mk t (d + 1) x y = 0 := by
    rw [mk_zero hx hy, he, ← mk_zero hx hy]; exact h0
  omega
end Go.Sc
namespace Go.Sc
open Go
set_option linter.unusedSimpArgs false
set_option linter.unusedVariables false
set_option linter.unnecessarySimpa false
structure LReadBodies (E : Env) (P : Program) : Prop where
  p : ParseBodies E P
  rr : RefReadBodies E P
  read : Body1 E P 169 F.law_read
section
variable {E : Env} {P : Program}
theorem bare_same (B : PlaceBodies E P) (hA : Body2 E P 77 F.law_at) (hb : Body1 E P 87 F.ref_Bare) (hB : Body2 E P 89 F.law_bare) {e : Int} (he : e ≠ 0) : FX E P 89 [.ifc 1 (Z e), Z e] (Bo true) := by
  have := bare_spec B hA hb hB e e
  rw [Er_ne he, decide_eq_true rfl] at this
  exact this
end
end Go.Sc
namespace Go.Sc
open Go
set_option linter.unusedSimpArgs false
set_option linter.unusedVariables false
set_option linter.unnecessarySimpa false
structure PairsBodies (E : Env) (P : Program) : Prop where
  rd : LReadBodies E P
  c : CoverBodies E P
  r : RefPairsBodies E P
  p : PlaceBodies E P
  at_ : Body2 E P 77 F.law_at
  rbare : Body1 E P 87 F.ref_Bare
  bare : Body2 E P 89 F.law_bare
section
variable {E : Env} {P : Program}
theorem Pairs_nil (B : CoverBodies E P) : FX E P 225 [nilE] (.tup [nilS, .ifc 1 (Z 7)]) := by
  refine FX.of' ⟨trivial, trivial⟩ (by simp [AV.closed, AV.closedL]) fun n R hR => B.pairs _ _ _ ?_
  unfold F.cover_Pairs
  refine wNew.F' (l := [nilE]) rfl ?_
  simp only [nd0, Y1n, Y1o, Y1p, Y1q, Y1w, Y1x, Y1y, Y1z, Y20, Y21, Y28, Y2a, AV.cells?, Nat.reduceAdd, Nat.reduceMul]
  exact hR _ _ rfl
set_option maxHeartbeats 1000000 in
theorem CoverPairs_body (B : PairsBodies E P) (s : Str) (n : Nat) : F.law_CoverPairs E P (S s) ⟨[], n⟩ (fun r _ => r = Bo true) := by
  unfold F.law_CoverPairs
  refine wCall.fx (read_spec0 B.rd.rr B.rd.p B.rd.read s) fun n => ?_
  unfold readA
  by_cases hl : 1000 < s.length
  · rw [if_pos hl]
    simp only [nd0, Y1n, Y1o, Y1p, Y1q, Y1w, Y1x, Y1y, Y1z, Y20, Y21, Y28, Y2a, AV.cells?, Nat.reduceAdd, Nat.reduceMul]
  rw [if_neg hl]
  cases hp : parseR s with
  | no e p => simp only [nd0, Y1n, Y1o, Y1p, Y1q, Y1w, Y1x, Y1y, Y1z, Y20, Y21, Y28, Y2a, AV.cells?, Nat.reduceAdd, Nat.reduceMul]
  | ok x j =>
    obtain ⟨hw, hf⟩ := parseR_good hp
    simp only [nd0, Y1n, Y1o, Y1p, Y1q, Y1w, Y1x, Y1y, Y1z, Y20, Y21, Y28, Y2a, AV.cells?, Nat.reduceAdd, Nat.reduceMul]
    have hb := fun (e : Int) (he : e ≠ 0) => bare_same B.p B.at_ B.rbare B.bare (e := e) he
    have hsz := Ex.size_wt x hf
    refine wCall.fx (Pairs_spec B.c x (by omega) hf) fun n => ?_
    unfold pairsA
    by_cases h1 : 0 < x.edges.length
    · rw [if_pos h1]
      simp only [nd0, Y1n, Y1o, Y1p, Y1q, Y1w, Y1x, Y1y, Y1z, Y20, Y21, Y28, Y2a, AV.cells?, Nat.reduceAdd, Nat.reduceMul]
      refine wCall.fx (Pairs_nil B.c) fun n => ?_
      simp only [nd0, Y1n, Y1o, Y1p, Y1q, Y1w, Y1x, Y1y, Y1z, Y20, Y21, Y28, Y2a, AV.cells?, Nat.reduceAdd, Nat.reduceMul, Ex.enc_nil]
      refine wCall.fx (hb 7 (by decide)) fun n => ?_
      simp only [nd0, Y1n, Y1o, Y1p, Y1q, Y1w, Y1x, Y1y, Y1z, Y20, Y21, Y28, Y2a, AV.cells?, Nat.reduceAdd, Nat.reduceMul]
      refine wCall.fx (refEdges_spec B.r.r.toRefSaysBodies0 x (by omega) hf) fun n => ?_
      rw [show onceS (x.raw nf2) = x.edges from rfl, Lm_S]
      simp only [nd0, Y1n, Y1o, Y1p, Y1q, Y1w, Y1x, Y1y, Y1z, Y20, Y21, Y28, Y2a, AV.cells?, Nat.reduceAdd, Nat.reduceMul, decide_eq_true (show (0 : Int) < (x.edges.length : Int) by omega)]
      refine wCall.fx (hb 1 (by decide)) fun n => ?_
      simp only [nd0, Y1n, Y1o, Y1p, Y1q, Y1w, Y1x, Y1y, Y1z, Y20, Y21, Y28, Y2a, AV.cells?, Nat.reduceAdd, Nat.reduceMul, show lenA nilS = some (Z 0) from rfl]
    rw [if_neg h1]
    by_cases h2 : 8 < x.names.length
    · rw [if_pos h2]
      simp only [nd0, Y1n, Y1o, Y1p, Y1q, Y1w, Y1x, Y1y, Y1z, Y20, Y21, Y28, Y2a, AV.cells?, Nat.reduceAdd, Nat.reduceMul]
      refine wCall.fx (Pairs_nil B.c) fun n => ?_
      simp only [nd0, Y1n, Y1o, Y1p, Y1q, Y1w, Y1x, Y1y, Y1z, Y20, Y21, Y28, Y2a, AV.cells?, Nat.reduceAdd, Nat.reduceMul, Ex.enc_nil]
      refine wCall.fx (hb 7 (by decide)) fun n => ?_
      simp only [nd0, Y1n, Y1o, Y1p, Y1q, Y1w, Y1x, Y1y, Y1z, Y20, Y21, Y28, Y2a, AV.cells?, Nat.reduceAdd, Nat.reduceMul]
      refine wCall.fx (refEdges_spec B.r.r.toRefSaysBodies0 x (by omega) hf) fun n => ?_
      rw [show onceS (x.raw nf2) = x.edges from rfl, Lm_S]
      simp only [nd0, Y1n, Y1o, Y1p, Y1q, Y1w, Y1x, Y1y, Y1z, Y20, Y21, Y28, Y2a, AV.cells?, Nat.reduceAdd, Nat.reduceMul, decide_eq_false (show ¬ (0 : Int) < (x.edges.length : Int) by omega)]
      refine wCall.fx (refNames_spec B.r.r.toRefSaysBodies0 x (by omega) hf) fun n => ?_
      rw [show onceS (x.raw nf1) = x.names from rfl, Lm_S]
      simp only [nd0, Y1n, Y1o, Y1p, Y1q, Y1w, Y1x, Y1y, Y1z, Y20, Y21, Y28, Y2a, AV.cells?, Nat.reduceAdd, Nat.reduceMul, decide_eq_true (show (8 : Int) < (x.names.length : Int) by omega)]
      refine wCall.fx (hb 4 (by decide)) fun n => ?_
      simp only [nd0, Y1n, Y1o, Y1p, Y1q, Y1w, Y1x, Y1y, Y1z, Y20, Y21, Y28, Y2a, AV.cells?, Nat.reduceAdd, Nat.reduceMul, show lenA nilS = some (Z 0) from rfl]
    rw [if_neg h2]
    simp only [nd0, Y1n, Y1o, Y1p, Y1q, Y1w, Y1x, Y1y, Y1z, Y20, Y21, Y28, Y2a, AV.cells?, Nat.reduceAdd, Nat.reduceMul]
    refine wCall.fx (Pairs_nil B.c) fun n => ?_
    simp only [nd0, Y1n, Y1o, Y1p, Y1q, Y1w, Y1x, Y1y, Y1z, Y20, Y21, Y28, Y2a, AV.cells?, Nat.reduceAdd, Nat.reduceMul, Ex.enc_nil]
    refine wCall.fx (hb 7 (by decide)) fun n => ?_
    simp only [nd0, Y1n, Y1o, Y1p, Y1q, Y1w, Y1x, Y1y, Y1z, Y20, Y21, Y28, Y2a, AV.cells?, Nat.reduceAdd, Nat.reduceMul]
    refine wCall.fx (refEdges_spec B.r.r.toRefSaysBodies0 x (by omega) hf) fun n => ?_
    rw [show onceS (x.raw nf2) = x.edges from rfl, Lm_S]
    simp only [nd0, Y1n, Y1o, Y1p, Y1q, Y1w, Y1x, Y1y, Y1z, Y20, Y21, Y28, Y2a, AV.cells?, Nat.reduceAdd, Nat.reduceMul, decide_eq_false (show ¬ (0 : Int) < (x.edges.length : Int) by omega)]
    refine wCall.fx (refNames_spec B.r.r.toRefSaysBodies0 x (by omega) hf) fun n => ?_
    rw [show onceS (x.raw nf1) = x.names from rfl, Lm_S]
    simp only [nd0, Y1n, Y1o, Y1p, Y1q, Y1w, Y1x, Y1y, Y1z, Y20, Y21, Y28, Y2a, AV.cells?, Nat.reduceAdd, Nat.reduceMul, decide_eq_false (show ¬ (8 : Int) < (x.names.length : Int) by omega)]
    refine wCall.fx (rPairs_spec B.r x (by omega) hf (by omega)) fun n => ?_
    generalize hL : pairsOf x x.names = L
    have hLl : L.length ≤ 8 := by have := pairsUp_len x x.names x.names.length; rw [← hL]; unfold pairsOf; omega
    simp only [nd0, Y1n, Y1o, Y1p, Y1q, Y1w, Y1x, Y1y, Y1z, Y20, Y21, Y28, Y2a, AV.cells?, Nat.reduceAdd, Nat.reduceMul, lenPr, decide_eq_true (rfl : (L.length : Int) = L.length)]
    refine wLoop.one (fun m i H => ∃ k : Nat, k ≤ L.length ∧ i = Z k ∧ m = L.length - k) L.length (gh1.mk ⟨0, by omega, rfl, by omega⟩) ?_
    rintro m i H ⟨k, hk, rfl, rfl⟩
    by_cases hlt : k < L.length
    · have hget : L[k]? = some L[k] := List.getElem?_eq_getElem hlt
      generalize L[k] = q at hget
      obtain ⟨s1, v1, v2⟩ := q
      have hs3 := subPr hget
      have hfl := flat_len L
      have g0 : (L.flatMap Pr)[k * 3]? = some (S s1) := by
        have := congrArg (fun o => o.bind fun l => l[0]?) hs3
        simpa [subL, Pr, hfl, show k * 3 + 3 ≤ L.length * 3 by omega] using this
      have g1 : (L.flatMap Pr)[k * 3 + 1]? = some (U v1) := by
        have := congrArg (fun o => o.bind fun l => l[1]?) hs3
        simpa [subL, Pr, hfl, show k * 3 + 3 ≤ L.length * 3 by omega] using this
      have g2 : (L.flatMap Pr)[k * 3 + 2]? = some (U v2) := by
        have := congrArg (fun o => o.bind fun l => l[2]?) hs3
        simpa [subL, Pr, hfl, show k * 3 + 3 ≤ L.length * 3 by omega] using this
      simp only [nd0, Y1n, Y1o, Y1p, Y1q, Y1w, Y1x, Y1y, Y1z, Y20, Y21, Y28, Y2a, AV.cells?, Nat.reduceAdd, Nat.reduceMul, decide_eq_true (show (k : Int) < (L.length : Int) by omega)]
      have hia : ∀ kk : IntKind, iaddr 3 (PrL L) (.val (.int kk (k : Int))) = some (.ptrF (L.flatMap Pr) (k * 3)) := fun kk => iaddrPr hlt
      simp only [nd0, Y1n, Y1o, Y1p, Y1q, Y1w, Y1x, Y1y, Y1z, Y20, Y21, Y28, Y2a, AV.cells?, Nat.reduceAdd, Nat.reduceMul, hia, g0, g1, g2, decide_eq_true (rfl : s1 = s1), decide_eq_true (rfl : (v1 : Int) = v1), decide_eq_true (rfl : (v2 : Int) = v2)]
      rw [binA_succ (by omega)]
      simp only [nd0, Y1n, Y1o, Y1p, Y1q, Y1w, Y1x, Y1y, Y1z, Y20, Y21, Y28, Y2a, AV.cells?, Nat.reduceAdd, Nat.reduceMul]
      exact back1.mk (L.length - (k + 1)) (by omega) ⟨k + 1, by omega, rfl, rfl⟩
    · simp only [nd0, Y1n, Y1o, Y1p, Y1q, Y1w, Y1x, Y1y, Y1z, Y20, Y21, Y28, Y2a, AV.cells?, Nat.reduceAdd, Nat.reduceMul, decide_eq_false (show ¬ (k : Int) < (L.length : Int) by omega)]
end
end Go.Sc
namespace Go.Sc
open Go Go.RowKit
set_option linter.unusedVariables false
section
variable {H : Type} {enc : TypeId × Value → H}
/-- the row out of a contract that is told what is listed, and the world's shape -/
theorem handed_shaped {C : Checked} {os : Os} {f : FuncId} {fn : Func} {s : ChangeSpec} {again : Bool} {X : World → Prop} (hX : ∀ w w' : World, w.heap = w'.heap → X w → X w')
    (own : ownKnob C.prog.godebug = none) (started : os.Started) (noInit : C.prog.inits.idxOf? f = none) (hfn : C.prog.funcs[f]? = some fn)
    (wit : ∃ (w : World) (tape : Tape) (i : Input), w.os = os ∧ (w.forCall tape i).Shaped C.prog ∧ i.vars = [] ∧ Input.okWide C.prog (w.forCall tape i) .any w.heap.size f i ∧
      ((s.pre enc C.prog fn [] false (w.forCall tape i).memory i.args ∧ X (w.forCall tape i).memory) ∧ sizedMet enc C.prog fn (OpenSpec.ofChange s) false (w.forCall tape i).memory i.args) ∧ ({} : Assume).holds C.prog (lone (Frame.enter C.prog f i.args .normal) [] (w.forCall tape i)))
    (k : ∀ (W : World) (base : Nat) (args : Array Value) (ds gs : List (DataW H)) (before : List MemPlace), W.ShapedOpen C.prog → X W →
      (∀ (j : Nat) t v, fn.params[j]? = some t → args[j]? = some v → Value.okWide C.prog W .any base t v) → DataW.Whole enc C.prog fn.params.toList s.vars false W args.toList ds gs before →
      (DataW.weightsEach C.prog (fn.params.toList ++ s.plain.varTypes C.prog) (ds ++ gs)).all (· ≤ reachBytes) = true → Calls C.prog f args W fun e W' => ∃ v, e = .returned v ∧ s.post enc C.prog fn false true false again W args v W') :
    ReturnsInHanded {} C os f .any (fun w args => (s.pre enc C.prog fn [] false w args ∧ X w) ∧ sizedMet enc C.prog fn (OpenSpec.ofChange s) false w args) (s.post enc C.prog fn false true false again) :=
  returnsInHanded_of_calls own started noInit wit fun w tape i _ hsh _ hok hpre _ => by
    have hv := hok.2.2.2
    obtain ⟨fn', h1, _, _, _, _, hval⟩ := hv
    obtain rfl : fn' = fn := Option.some.inj (h1.symm.trans hfn)
    obtain ⟨⟨⟨ds, gs, before, hw, _⟩, hx⟩, hz⟩ := hpre
    refine (k (w.forCall tape i) w.heap.size i.args ds gs before hsh (hX _ _ (by rfl) hx) hval (DataW.Whole.of_heap (w' := w.forCall tape i) (by rfl) hw) (hz.weights hw)).mono fun e W' h => ?_
    obtain ⟨v, rfl, hp⟩ := h
    exact ChangeSpec.post_blind hp
end
section
variable {E : Env} {P : Program}
theorem FX.contains {k gk : Nat} {m : Int} {fn : Func} (hf : P.funcs[E.fn k]? = some fn) (hn : (fn.name == "runtime.NumGoroutine") = false) (hb : fn.body.isNone = false) (hgl : E.gl gk = some [.val (.int .i64 m)])
    (h : ∀ (s sub : ByteArray) (m : Int) (w : World), s.size < 4294967281 → w.cell? ⟨E.gn gk, 0, none⟩ = some (.int .i64 m) → Calls P (E.fn k) #[.string s, .string sub] w fun e w' => e = .returned (.bool (Lib.contains s.data.toList sub.data.toList)) ∧ w' = w)
    (s t : Str) (hs : s.length ≤ 1000) : FX E P k [S s, S t] (Bo (Lib.contains s t)) := by
  refine FX.ofCalls hf hn hb (by simp [AV.closedL, AV.closed]) (by simp [AV.flat]) (by simp [AV.closed]) fun cx vs _ hg hv => ?_
  simp only [LRel, VRel] at hv
  obtain ⟨v0, _, rfl, rfl, v1, _, rfl, rfl, rfl⟩ := hv
  have hc := hg gk _ hgl
  simp only [CRel, VRel] at hc
  obtain ⟨⟨_, u, hu, rfl⟩, _⟩ := hc
  refine (h ⟨s.toArray⟩ ⟨t.toArray⟩ m cx.w (by simp [ByteArray.size]; omega) hu).mono ?_
  rintro e w' ⟨rfl, rfl⟩
  exact ⟨_, rfl, Below.refl _ _, by simp [VRel]⟩
end
end Go.Sc
namespace Go.Proofs.YtldomhanfhfonaaGreatDoor
open Go.RowKit Go.Extern.Stop Go.Stop Go.Extern
theorem Tryz.valueOfT (t : Addr) (w : World) : (ReflectliteValue.unpack (.iface 111 (.pointer (some t)))).run Tryz.prog w
    = .ok (.agg #[.pointer (some ⟨5, 111, none⟩), .pointer (some ⟨w.heap.size, 0, none⟩), .int .u64 150]) (w.alloc (.cells #[.pointer (some t)] 111)) := by kernel_rfl
theorem Tryz.typeT (a : Addr) (w : World) : (ReflectliteValue.methodAny (ReflectliteValue.valueError "reflectlite.Value.Type" 0) (fun t _ _ _ => ReflectliteType.toType t) #[.agg #[.pointer (some ⟨5, 111, none⟩), .pointer (some a), .int .u64 150]]).run Tryz.prog w
    = .ok (.iface 150 (.agg #[.pointer (some ⟨5, 111, none⟩)])) w := by kernel_rfl
theorem Tryz.methodKind (h : Value) (w : World) : (Go.method 310 150 (.agg #[h]) "Kind").run Tryz.prog w = .ok (128, h) w := by kernel_rfl
theorem Tryz.kindT (w : World) : ((ReflectliteType.abiMethod fun t => (fun a : Nat => Value.int IntKind.u8 (a : Int)) <$> Rtype.kind t) #[.pointer (some ⟨5, 111, none⟩)]).run Tryz.prog w = .ok (.int .u8 22) w := by kernel_rfl
theorem Tryz.kindX (w : World) : ((ReflectliteType.abiMethod fun t => (fun a : Nat => Value.int IntKind.u8 (a : Int)) <$> Rtype.kind t) #[.pointer (some ⟨5, 33, none⟩)]).run Tryz.prog w = .ok (.int .u8 2) w := by kernel_rfl
theorem rlm (z : Sem Value) (f : TypeId → Addr → Nat → Nat → Sem Value) (v : Value) :
    ReflectliteValue.method z f #[v] = (do match ← ReflectliteValue.parts v with | none => z | some (t, a, fl) => f t a fl (fl % 32)) := rfl
theorem Tryz.partsT (a : Addr) (w : World) : (ReflectliteValue.parts (.agg #[.pointer (some ⟨5, 111, none⟩), .pointer (some a), .int .u64 150])).run Tryz.prog w = .ok (some (111, a, 150)) w := by kernel_rfl
theorem Tryz.isNilT (a p : Addr) (W : World) (ha : W.cell? a = some (.pointer (some p))) :
    (ReflectliteValue.method (ReflectliteValue.valueError "reflectlite.Value.IsNil" 0) ReflectliteValue.isNil #[.agg #[.pointer (some ⟨5, 111, none⟩), .pointer (some a), .int .u64 150]]).run Tryz.prog W = .ok (.bool false) W := by
  rw [rlm]
  simp only [Sem.run_bind, Tryz.partsT, Result.andThen]
  simp [ReflectliteValue.isNil, loadVar, isAgg, underlying, Tryz.underlying111, ha, Result.andThen]
theorem Tryz.methodElem (h : Value) (w : World) : (Go.method 310 150 (.agg #[h]) "Elem").run Tryz.prog w = .ok (149, .agg #[h]) w := by kernel_rfl
theorem Tryz.methodImplements (h : Value) (w : World) : (Go.method 310 150 (.agg #[h]) "Implements").run Tryz.prog w = .ok (150, .agg #[h]) w := by kernel_rfl
theorem Tryz.methodAssignableTo (h : Value) (w : World) : (Go.method 310 150 (.agg #[h]) "AssignableTo").run Tryz.prog w = .ok (147, .agg #[h]) w := by kernel_rfl
theorem Tryz.elemT (w : World) : (ReflectliteType.method ReflectliteType.elem #[.agg #[.pointer (some ⟨5, 111, none⟩)]]).run Tryz.prog w = .ok (.iface 150 (.agg #[.pointer (some ⟨5, 33, none⟩)])) w := by kernel_rfl
theorem Tryz.implementsX (w : World) : (ReflectliteType.relation "Implements" ReflectliteType.implements_ #[.agg #[.pointer (some ⟨5, 33, none⟩)], .iface 150 (.agg #[.pointer (some ⟨5, 29, none⟩)])]).run Tryz.prog w = .ok (.bool true) w := by kernel_rfl
theorem Tryz.typeOfX (v : Value) (w : World) : (ReflectliteType.typeOf #[.iface 33 v]).run Tryz.prog w = .ok (.iface 150 (.agg #[.pointer (some ⟨5, 33, none⟩)])) w := by kernel_rfl
theorem Tryz.assignableX (w : World) : (ReflectliteType.relation "AssignableTo" ReflectliteType.assignableTo #[.agg #[.pointer (some ⟨5, 33, none⟩)], .iface 150 (.agg #[.pointer (some ⟨5, 33, none⟩)])]).run Tryz.prog w = .ok (.bool true) w := by kernel_rfl
theorem Tryz.typeOfAt (v : Value) (w : World) : (ReflectliteType.typeOf #[.iface 92 v]).run Tryz.prog w = .ok (.iface 150 (.agg #[.pointer (some ⟨5, 92, none⟩)])) w := by kernel_rfl
theorem Tryz.assignableAt (w : World) : (ReflectliteType.relation "AssignableTo" ReflectliteType.assignableTo #[.agg #[.pointer (some ⟨5, 92, none⟩)], .iface 150 (.agg #[.pointer (some ⟨5, 33, none⟩)])]).run Tryz.prog w = .ok (.bool false) w := by kernel_rfl
theorem Tryz.valueOfX (k : Int) (w : World) : (ReflectliteValue.unpack (.iface 33 (.int .i64 k))).run Tryz.prog w
    = .ok (.agg #[.pointer (some ⟨5, 33, none⟩), .pointer (some ⟨w.heap.size, 0, none⟩), .int .u64 130]) (w.alloc (.cells #[.int .i64 k] 33)) := by kernel_rfl
theorem Tryz.elemOfT (w : World) : (Rtype.elem? 111).run Tryz.prog w = .ok (some 33) w := by kernel_rfl
theorem Tryz.mkX (p : Addr) (w : World) : (ReflectliteValue.mk 33 p ReflectliteValue.flagAddr).run Tryz.prog w = .ok (.agg #[.pointer (some ⟨5, 33, none⟩), .pointer (some p), .int .u64 386]) w := by kernel_rfl
theorem Tryz.elemVT (a p : Addr) (W : World) (ha : W.cell? a = some (.pointer (some p))) :
    (ReflectliteValue.method (ReflectliteValue.valueError "reflectlite.Value.Elem" 0) ReflectliteValue.elem #[.agg #[.pointer (some ⟨5, 111, none⟩), .pointer (some a), .int .u64 150]]).run Tryz.prog W
      = .ok (.agg #[.pointer (some ⟨5, 33, none⟩), .pointer (some p), .int .u64 386]) W := by
  rw [rlm]
  simp only [Sem.run_bind, Tryz.partsT, Result.andThen]
  simp [ReflectliteValue.elem, loadVar, isAgg, underlying, Tryz.underlying111, ha, Result.andThen, Tryz.elemOfT, Tryz.mkX]
theorem rls (v x : Value) : ReflectliteValue.set #[v, x] = (do
    let (some (dst, a, fl), some (src, b, _)) := (← ReflectliteValue.parts v, ← ReflectliteValue.parts x)
      | unsupported (.noEntry "extern/(internal/reflectlite.Value).Set.zeroValue")
    if fl / ReflectliteValue.flagAddr % 2 == 0 then unsupported (.noEntry "extern/(internal/reflectlite.Value).Set.unaddressable")
    let val ← loadVar src b
    if ← Rtype.directlyAssignable dst src then storeVar dst a val
    else if ← Rtype.implements dst src then
      if (← Rtype.kind src) == 20 then
        match val with
        | .nilIface => unsupported (.noEntry "extern/reflectlite: a nil value of one interface type handed on as a value of another")
        | _ => storeVar dst a val
      else storeVar dst a (.iface src val)
    else panicString ("reflectlite.Set: value of type " ++ (← Rtype.spelt src) ++ " is not assignable to type " ++ (← Rtype.spelt dst))
    pure (.tuple #[])) := rfl
theorem Tryz.partsXa (a : Addr) (w : World) : (ReflectliteValue.parts (.agg #[.pointer (some ⟨5, 33, none⟩), .pointer (some a), .int .u64 386])).run Tryz.prog w = .ok (some (33, a, 386)) w := by kernel_rfl
theorem Tryz.partsX (a : Addr) (w : World) : (ReflectliteValue.parts (.agg #[.pointer (some ⟨5, 33, none⟩), .pointer (some a), .int .u64 130])).run Tryz.prog w = .ok (some (33, a, 130)) w := by kernel_rfl
theorem Tryz.directX (w : World) : (Rtype.directlyAssignable 33 33).run Tryz.prog w = .ok true w := by kernel_rfl
theorem Tryz.setX (ta b : Addr) (k : Int) (old : Value) (W : World) (hb : W.cell? b = some (.int .i64 k)) (ht : W.cell? ta = some old) (hf : W.frozen? ta = false) :
    (ReflectliteValue.set #[.agg #[.pointer (some ⟨5, 33, none⟩), .pointer (some ta), .int .u64 386], .agg #[.pointer (some ⟨5, 33, none⟩), .pointer (some b), .int .u64 130]]).run Tryz.prog W
      = .ok (.tuple #[]) (W.setCell ta (.int .i64 k)) := by
  rw [rls]
  simp only [Sem.run_bind, Tryz.partsXa, Tryz.partsX, Result.andThen]
  simp [ReflectliteValue.flagAddr, loadVar, isAgg, underlying, Tryz.underlying33, hb, Result.andThen, Tryz.directX, storeVar, Value.cells, storeCells, Addr.add]
  rw [run_store Tryz.prog W ta _ _ (by rfl)]
  simp [ht, hf]

set_option maxHeartbeats 4000000 in
theorem as_hit (k : Int) (t : Addr) (old : Value) (w : World) (hg : w.cell? ⟨1, 0, none⟩ = some (.iface 150 (.agg #[.pointer (some ⟨5, 29, none⟩)]))) (ht0 : w.cell? t = some old) (hf0 : w.frozen? t = false) :
    Calls Tryz.prog 60 #[.iface 33 (.int .i64 k), .iface 111 (.pointer (some t))] w fun ev w' => ev = .returned (.bool true) ∧ w' = ((((w.alloc (.cells #[.pointer (some t)] 111)).alloc (.cells #[.pointer (some ⟨5, 111, none⟩), .pointer (some ⟨w.heap.size, 0, none⟩), .int .u64 150] 130)).alloc (.cells #[.pointer (some ⟨5, 111, none⟩), .pointer (some ⟨w.heap.size, 0, none⟩), .int .u64 150] 130)).alloc (.cells #[.int .i64 k] 33)).setCell t (.int .i64 k) := by
  have h6 := @run_callFunc_extern Tryz.prog 76 _ (fun args => ReflectliteValue.unpack (args.getD 0 (.tuple #[]))) Tryz.func76 (by kernel_rfl) (by kernel_rfl) (by kernel_rfl) (by kernel_rfl)
  have h7 := @run_callFunc_extern Tryz.prog 77 _ (ReflectliteValue.methodAny (ReflectliteValue.valueError "reflectlite.Value.Type" 0) (fun t _ _ _ => ReflectliteType.toType t)) Tryz.func77 (by kernel_rfl) (by kernel_rfl) (by kernel_rfl) (by kernel_rfl)
  have h8 := @run_callFunc_extern Tryz.prog 78 _ (ReflectliteValue.method (ReflectliteValue.valueError "reflectlite.Value.IsNil" 0) ReflectliteValue.isNil) Tryz.func78 (by kernel_rfl) (by kernel_rfl) (by kernel_rfl) (by kernel_rfl)
  have h27 := @run_callFunc_extern Tryz.prog 128 _ (ReflectliteType.abiMethod fun t => do pure (.int .u8 (← Rtype.kind t))) Tryz.func128 (by kernel_rfl) (by kernel_rfl) (by kernel_rfl) (by kernel_rfl)
  have h37 := @run_callFunc_extern Tryz.prog 149 _ (ReflectliteType.method ReflectliteType.elem) Tryz.func149 (by kernel_rfl) (by kernel_rfl) (by kernel_rfl) (by kernel_rfl)
  have h38 := @run_callFunc_extern Tryz.prog 150 _ (ReflectliteType.relation "Implements" ReflectliteType.implements_) Tryz.func150 (by kernel_rfl) (by kernel_rfl) (by kernel_rfl) (by kernel_rfl)
  have h10 := @run_callFunc_extern Tryz.prog 93 _ ReflectliteType.typeOf Tryz.func93 (by kernel_rfl) (by kernel_rfl) (by kernel_rfl) (by kernel_rfl)
  have h35 := @run_callFunc_extern Tryz.prog 147 _ (ReflectliteType.relation "AssignableTo" ReflectliteType.assignableTo) Tryz.func147 (by kernel_rfl) (by kernel_rfl) (by kernel_rfl) (by kernel_rfl)
  have h11 := @run_callFunc_extern Tryz.prog 94 _ (ReflectliteValue.method (ReflectliteValue.valueError "reflectlite.Value.Elem" 0) ReflectliteValue.elem) Tryz.func94 (by kernel_rfl) (by kernel_rfl) (by kernel_rfl) (by kernel_rfl)
  have h12 := @run_callFunc_extern Tryz.prog 95 _ ReflectliteValue.set Tryz.func95 (by kernel_rfl) (by kernel_rfl) (by kernel_rfl) (by kernel_rfl)
  have tO := Tryz.typeOfX
  have mA := Tryz.methodAssignableTo
  have a25 := Tryz.assignableX
  have v25 := Tryz.valueOfX
  have f6 := Tryz.valueOfT
  have f7 := Tryz.typeT
  have mK := Tryz.methodKind
  have mE := Tryz.methodElem
  have mI := Tryz.methodImplements
  have k27 := Tryz.kindT
  have k25 := Tryz.kindX
  have e27 := Tryz.elemT
  have i25 := Tryz.implementsX
  have n8 := Tryz.isNilT ⟨w.heap.size, 0, none⟩ t ((w.alloc (.cells #[.pointer (some t)] 111)).alloc (.cells #[.pointer (some ⟨5, 111, none⟩), .pointer (some ⟨w.heap.size, 0, none⟩), .int .u64 150] 130)) (by simp)
  have hlt : 1 < w.heap.size := by
    rcases Nat.lt_or_ge 1 w.heap.size with h | h
    · exact h
    · simp [World.cell?, Array.getElem?_eq_none h] at hg
  have hg2 : ((w.alloc (.cells #[.pointer (some t)] 111)).alloc (.cells #[.pointer (some ⟨5, 111, none⟩), .pointer (some ⟨w.heap.size, 0, none⟩), .int .u64 150] 130)).cell? ⟨1, 0, none⟩ = some (.iface 150 (.agg #[.pointer (some ⟨5, 29, none⟩)])) := by
    rw [World.cell?_alloc_lt _ _ ⟨1, 0, none⟩ (by first | (simp; done) | (simp; omega)), World.cell?_alloc_lt _ _ ⟨1, 0, none⟩ hlt]; exact hg
  have htl : t.block < w.heap.size := by
    rcases Nat.lt_or_ge t.block w.heap.size with h | h
    · exact h
    · simp [World.cell?, Array.getElem?_eq_none h] at ht0
  have el := Tryz.elemVT ⟨w.heap.size, 0, none⟩ t (((w.alloc (.cells #[.pointer (some t)] 111)).alloc (.cells #[.pointer (some ⟨5, 111, none⟩), .pointer (some ⟨w.heap.size, 0, none⟩), .int .u64 150] 130)).alloc (.cells #[.pointer (some ⟨5, 111, none⟩), .pointer (some ⟨w.heap.size, 0, none⟩), .int .u64 150] 130)) (by rw [World.cell?_alloc_lt _ _ ⟨w.heap.size, 0, none⟩ (by simp; omega)]; simp)
  have st := Tryz.setX t ⟨w.heap.size + 1 + 1 + 1, 0, none⟩ k old ((((w.alloc (.cells #[.pointer (some t)] 111)).alloc (.cells #[.pointer (some ⟨5, 111, none⟩), .pointer (some ⟨w.heap.size, 0, none⟩), .int .u64 150] 130)).alloc (.cells #[.pointer (some ⟨5, 111, none⟩), .pointer (some ⟨w.heap.size, 0, none⟩), .int .u64 150] 130)).alloc (.cells #[.int .i64 k] 33))
    (by rw [World.cell?_alloc_at _ _ _ _ (by simp)]; rfl)
    (by rw [World.cell?_alloc_lt _ _ t (by simp; omega), World.cell?_alloc_lt _ _ t (by simp; omega), World.cell?_alloc_lt _ _ t (by simp; omega), World.cell?_alloc_lt _ _ t htl]; exact ht0)
    (by rw [World.frozen?_alloc_old _ _ t (by simp; omega), World.frozen?_alloc_old _ _ t (by simp; omega), World.frozen?_alloc_old _ _ t (by simp; omega), World.frozen?_alloc_old _ _ t (Nat.ne_of_lt htl)]; exact hf0)
  go_enter Tryz.func60, Tryz.ntmps60
  go_wp2
  refine wp_loop_rounds 1 ?_
  rw [rounds_succ]
  go_wp2
  go_ret
  exact ⟨rfl, rfl⟩
end Go.Proofs.YtldomhanfhfonaaGreatDoor
namespace Go.Proofs.YtldomhanfhfonaaGreatDoor
open Go.RowKit Go.Extern.Stop Go.Stop Go.Extern
theorem Tryz.assertAs (p : Addr) (w : World) : (Instr.typeAssert (.iface 92 (.pointer (some p))) 29 155 true).run Tryz.prog w = .ok (.tuple #[.nilIface, .bool false]) w := run_typeAssert_lacksB Tryz.underlying155 (by kernel_rfl) (by kernel_rfl) _ _ w
theorem Tryz.assertUnwrap (p : Addr) (w : World) : (Instr.typeAssert (.iface 92 (.pointer (some p))) 29 102 true).run Tryz.prog w = .ok (.tuple #[.iface 92 (.pointer (some p)), .bool true]) w := run_typeAssert_hasB Tryz.underlying102 (by kernel_rfl) _ _ w
theorem Tryz.methodUnwrap (p : Addr) (w : World) : (Go.method 310 92 (.pointer (some p)) "Unwrap").run Tryz.prog w = .ok (142, .pointer (some p)) w := by kernel_rfl
set_option maxRecDepth 100000 in
set_option maxHeartbeats 4000000 in
theorem as_at (k : Int) (p t : Addr) (old : Value) (w : World) (hg : w.cell? ⟨1, 0, none⟩ = some (.iface 150 (.agg #[.pointer (some ⟨5, 29, none⟩)]))) (ht0 : w.cell? t = some old) (hf0 : w.frozen? t = false) (hp : w.cell? p = some (.int .i64 k)) :
    Calls Tryz.prog 60 #[.iface 92 (.pointer (some p)), .iface 111 (.pointer (some t))] w fun ev w' => ev = .returned (.bool true) ∧ w' = ((((w.alloc (.cells #[.pointer (some t)] 111)).alloc (.cells #[.pointer (some ⟨5, 111, none⟩), .pointer (some ⟨w.heap.size, 0, none⟩), .int .u64 150] 130)).alloc (.cells #[.pointer (some ⟨5, 111, none⟩), .pointer (some ⟨w.heap.size, 0, none⟩), .int .u64 150] 130)).alloc (.cells #[.int .i64 k] 33)).setCell t (.int .i64 k) := by
  have h6 := @run_callFunc_extern Tryz.prog 76 _ (fun args => ReflectliteValue.unpack (args.getD 0 (.tuple #[]))) Tryz.func76 (by kernel_rfl) (by kernel_rfl) (by kernel_rfl) (by kernel_rfl)
  have h7 := @run_callFunc_extern Tryz.prog 77 _ (ReflectliteValue.methodAny (ReflectliteValue.valueError "reflectlite.Value.Type" 0) (fun t _ _ _ => ReflectliteType.toType t)) Tryz.func77 (by kernel_rfl) (by kernel_rfl) (by kernel_rfl) (by kernel_rfl)
  have h8 := @run_callFunc_extern Tryz.prog 78 _ (ReflectliteValue.method (ReflectliteValue.valueError "reflectlite.Value.IsNil" 0) ReflectliteValue.isNil) Tryz.func78 (by kernel_rfl) (by kernel_rfl) (by kernel_rfl) (by kernel_rfl)
  have h27 := @run_callFunc_extern Tryz.prog 128 _ (ReflectliteType.abiMethod fun t => do pure (.int .u8 (← Rtype.kind t))) Tryz.func128 (by kernel_rfl) (by kernel_rfl) (by kernel_rfl) (by kernel_rfl)
  have h37 := @run_callFunc_extern Tryz.prog 149 _ (ReflectliteType.method ReflectliteType.elem) Tryz.func149 (by kernel_rfl) (by kernel_rfl) (by kernel_rfl) (by kernel_rfl)
  have h38 := @run_callFunc_extern Tryz.prog 150 _ (ReflectliteType.relation "Implements" ReflectliteType.implements_) Tryz.func150 (by kernel_rfl) (by kernel_rfl) (by kernel_rfl) (by kernel_rfl)
  have h10 := @run_callFunc_extern Tryz.prog 93 _ ReflectliteType.typeOf Tryz.func93 (by kernel_rfl) (by kernel_rfl) (by kernel_rfl) (by kernel_rfl)
  have h35 := @run_callFunc_extern Tryz.prog 147 _ (ReflectliteType.relation "AssignableTo" ReflectliteType.assignableTo) Tryz.func147 (by kernel_rfl) (by kernel_rfl) (by kernel_rfl) (by kernel_rfl)
  have h11 := @run_callFunc_extern Tryz.prog 94 _ (ReflectliteValue.method (ReflectliteValue.valueError "reflectlite.Value.Elem" 0) ReflectliteValue.elem) Tryz.func94 (by kernel_rfl) (by kernel_rfl) (by kernel_rfl) (by kernel_rfl)
  have h12 := @run_callFunc_extern Tryz.prog 95 _ ReflectliteValue.set Tryz.func95 (by kernel_rfl) (by kernel_rfl) (by kernel_rfl) (by kernel_rfl)
  have tO := Tryz.typeOfX
  have mA := Tryz.methodAssignableTo
  have a25 := Tryz.assignableX
  have tOa := Tryz.typeOfAt
  have ta1 := Tryz.assertAs p
  have ta2 := Tryz.assertUnwrap p
  have mU := Tryz.methodUnwrap p
  have a25a := Tryz.assignableAt
  have v25 := Tryz.valueOfX
  have f6 := Tryz.valueOfT
  have f7 := Tryz.typeT
  have mK := Tryz.methodKind
  have mE := Tryz.methodElem
  have mI := Tryz.methodImplements
  have k27 := Tryz.kindT
  have k25 := Tryz.kindX
  have e27 := Tryz.elemT
  have i25 := Tryz.implementsX
  have n8 := Tryz.isNilT ⟨w.heap.size, 0, none⟩ t ((w.alloc (.cells #[.pointer (some t)] 111)).alloc (.cells #[.pointer (some ⟨5, 111, none⟩), .pointer (some ⟨w.heap.size, 0, none⟩), .int .u64 150] 130)) (by simp)
  have hlt : 1 < w.heap.size := by
    rcases Nat.lt_or_ge 1 w.heap.size with h | h
    · exact h
    · simp [World.cell?, Array.getElem?_eq_none h] at hg
  have hg2 : ((w.alloc (.cells #[.pointer (some t)] 111)).alloc (.cells #[.pointer (some ⟨5, 111, none⟩), .pointer (some ⟨w.heap.size, 0, none⟩), .int .u64 150] 130)).cell? ⟨1, 0, none⟩ = some (.iface 150 (.agg #[.pointer (some ⟨5, 29, none⟩)])) := by
    rw [World.cell?_alloc_lt _ _ ⟨1, 0, none⟩ (by first | (simp; done) | (simp; omega)), World.cell?_alloc_lt _ _ ⟨1, 0, none⟩ hlt]; exact hg
  have htl : t.block < w.heap.size := by
    rcases Nat.lt_or_ge t.block w.heap.size with h | h
    · exact h
    · simp [World.cell?, Array.getElem?_eq_none h] at ht0
  have hpl : p.block < w.heap.size := by
    rcases Nat.lt_or_ge p.block w.heap.size with h | h
    · exact h
    · simp [World.cell?, Array.getElem?_eq_none h] at hp
  have hp3 : (((w.alloc (.cells #[.pointer (some t)] 111)).alloc (.cells #[.pointer (some ⟨5, 111, none⟩), .pointer (some ⟨w.heap.size, 0, none⟩), .int .u64 150] 130)).alloc (.cells #[.pointer (some ⟨5, 111, none⟩), .pointer (some ⟨w.heap.size, 0, none⟩), .int .u64 150] 130)).cell? p = some (.int .i64 k) := by
    rw [World.cell?_alloc_lt _ _ p (by simp; omega), World.cell?_alloc_lt _ _ p (by simp; omega), World.cell?_alloc_lt _ _ p hpl]; exact hp
  have el := Tryz.elemVT ⟨w.heap.size, 0, none⟩ t (((w.alloc (.cells #[.pointer (some t)] 111)).alloc (.cells #[.pointer (some ⟨5, 111, none⟩), .pointer (some ⟨w.heap.size, 0, none⟩), .int .u64 150] 130)).alloc (.cells #[.pointer (some ⟨5, 111, none⟩), .pointer (some ⟨w.heap.size, 0, none⟩), .int .u64 150] 130)) (by rw [World.cell?_alloc_lt _ _ ⟨w.heap.size, 0, none⟩ (by simp; omega)]; simp)
  have st := Tryz.setX t ⟨w.heap.size + 1 + 1 + 1, 0, none⟩ k old ((((w.alloc (.cells #[.pointer (some t)] 111)).alloc (.cells #[.pointer (some ⟨5, 111, none⟩), .pointer (some ⟨w.heap.size, 0, none⟩), .int .u64 150] 130)).alloc (.cells #[.pointer (some ⟨5, 111, none⟩), .pointer (some ⟨w.heap.size, 0, none⟩), .int .u64 150] 130)).alloc (.cells #[.int .i64 k] 33))
    (by rw [World.cell?_alloc_at _ _ _ _ (by simp)]; rfl)
    (by rw [World.cell?_alloc_lt _ _ t (by simp; omega), World.cell?_alloc_lt _ _ t (by simp; omega), World.cell?_alloc_lt _ _ t (by simp; omega), World.cell?_alloc_lt _ _ t htl]; exact ht0)
    (by rw [World.frozen?_alloc_old _ _ t (by simp; omega), World.frozen?_alloc_old _ _ t (by simp; omega), World.frozen?_alloc_old _ _ t (by simp; omega), World.frozen?_alloc_old _ _ t (Nat.ne_of_lt htl)]; exact hf0)
  go_enter Tryz.func60, Tryz.ntmps60
  go_wp2
  refine wp_loop_rounds 2 ?_
  rw [rounds_succ]
  go_wp2
  rw [rounds_succ]
  go_wp2
  go_ret
  exact ⟨rfl, rfl⟩
end Go.Proofs.YtldomhanfhfonaaGreatDoor
namespace Go.Proofs.YtldomhanfhfonaaGreatDoor
open Go.RowKit Go.Extern.Stop Go.Stop Go.Extern
theorem tell_nil (w : World) : Calls Tryz.prog 53 #[.nilIface] w fun e w' => e = .returned (.int .i64 0) ∧ Below w.heap.size w w' := by
  go_enter Tryz.func53, Tryz.ntmps53
  go_wp2
  go_ret
  exact ⟨rfl, Below.refl _ _⟩

set_option maxRecDepth 100000 in
set_option maxHeartbeats 4000000 in
theorem tell_hit (k : Int) (w : World) (hg : w.cell? ⟨1, 0, none⟩ = some (.iface 150 (.agg #[.pointer (some ⟨5, 29, none⟩)]))) : Calls Tryz.prog 53 #[.iface 33 (.int .i64 k)] w fun e w' => e = .returned (.int .i64 k) ∧ Below w.heap.size w w' := by
  have hlt : 1 < w.heap.size := by
    rcases Nat.lt_or_ge 1 w.heap.size with h | h
    · exact h
    · simp [World.cell?, Array.getElem?_eq_none h] at hg
  have hgA : (w.alloc (.cells #[.int .i64 0] 33)).cell? ⟨1, 0, none⟩ = some (.iface 150 (.agg #[.pointer (some ⟨5, 29, none⟩)])) := by
    rw [World.cell?_alloc_lt _ _ ⟨1, 0, none⟩ hlt]; exact hg
  have htA : (w.alloc (.cells #[.int .i64 0] 33)).cell? ⟨w.heap.size, 0, none⟩ = some (.int .i64 0) := by simp
  have hfA : (w.alloc (.cells #[.int .i64 0] 33)).frozen? ⟨w.heap.size, 0, none⟩ = false := by simp
  go_enter Tryz.func53, Tryz.ntmps53
  go_wp2_with (first | (go_at_call 60; refine (as_hit k _ (.int .i64 0) _ hgA htA hfA).mono ?_; rintro e w' ⟨rfl, rfl⟩))
  go_ret
  refine ⟨rfl, ?_⟩
  repeat (first | exact Below.refl _ _ | refine Below.alloc ?_ (by first | (simp; done) | (simp; omega)) _)
set_option maxRecDepth 100000 in
set_option maxHeartbeats 4000000 in
theorem tell_at (k : Int) (p : Addr) (w : World) (hg : w.cell? ⟨1, 0, none⟩ = some (.iface 150 (.agg #[.pointer (some ⟨5, 29, none⟩)]))) (hp : w.cell? p = some (.int .i64 k)) : Calls Tryz.prog 53 #[.iface 92 (.pointer (some p))] w fun e w' => e = .returned (.int .i64 k) ∧ Below w.heap.size w w' := by
  have hlt : 1 < w.heap.size := by
    rcases Nat.lt_or_ge 1 w.heap.size with h | h
    · exact h
    · simp [World.cell?, Array.getElem?_eq_none h] at hg
  have hgA : (w.alloc (.cells #[.int .i64 0] 33)).cell? ⟨1, 0, none⟩ = some (.iface 150 (.agg #[.pointer (some ⟨5, 29, none⟩)])) := by
    rw [World.cell?_alloc_lt _ _ ⟨1, 0, none⟩ hlt]; exact hg
  have htA : (w.alloc (.cells #[.int .i64 0] 33)).cell? ⟨w.heap.size, 0, none⟩ = some (.int .i64 0) := by simp
  have hfA : (w.alloc (.cells #[.int .i64 0] 33)).frozen? ⟨w.heap.size, 0, none⟩ = false := by simp
  have hpl : p.block < w.heap.size := by
    rcases Nat.lt_or_ge p.block w.heap.size with h | h
    · exact h
    · simp [World.cell?, Array.getElem?_eq_none h] at hp
  have hpA : (w.alloc (.cells #[.int .i64 0] 33)).cell? p = some (.int .i64 k) := by
    rw [World.cell?_alloc_lt _ _ p hpl]; exact hp
  go_enter Tryz.func53, Tryz.ntmps53
  go_wp2_with (first | (go_at_call 60; refine (as_at k p _ (.int .i64 0) _ hgA htA hfA hpA).mono ?_; rintro e w' ⟨rfl, rfl⟩))
  go_ret
  refine ⟨rfl, ?_⟩
  repeat (first | exact Below.refl _ _ | refine Below.alloc ?_ (by first | (simp; done) | (simp; omega)) _)
end Go.Proofs.YtldomhanfhfonaaGreatDoor
namespace Go.Proofs.YtldomhanfhfonaaGreatDoor
open Go Go.Sc
set_option maxRecDepth 100000
variable [Inhabited Mx]
def tyL : List Nat := [1000000, 33, 92, 111, 9, 155, 102, 158, 80, 77, 75, 73, 69, 70, 72]
def tkL : List Nat := [2000000, 2000001, 2000002, 2000003, 2000004, 2000005, 2000006, 2000007, 2000008, 4, 2000010, 2000011, 2000012, 2000013, 2000014, 2000015, 2000016, 2000017, 2000018, 2000019, 2000020, 2000021, 2000022, 2000023, 2000024, 2000025, 2000026, 2000027, 2000028, 2000029, 2000030, 2000031, 2000032, 1, 2000034, 2000035, 2000036, 2000037, 2000038, 2000039, 2000040, 2000041, 2000042, 2000043, 2000044, 2000045, 2000046, 2000047, 2000048, 2000049, 2000050, 2000051, 2000052, 2000053, 2000054, 2000055, 2000056, 2000057, 2000058, 2000059, 2000060, 2000061, 2000062, 2000063, 2000064, 2000065, 2000066, 2000067, 2000068, 12, 13, 2000071, 14, 11, 2000074, 10, 2000076, 9, 2000078, 2000079, 8, 2000081, 2000082, 2000083, 2000084, 2000085, 2000086, 2000087, 2000088, 2000089, 2000090, 2000091, 2, 2000093, 2000094, 2000095, 2000096, 2000097, 2000098, 2000099, 2000100, 2000101, 6, 2000103, 2000104, 2000105, 2000106, 2000107, 2000108, 2000109, 2000110, 3, 2000112, 2000113, 2000114, 2000115, 2000116, 2000117, 2000118, 2000119, 2000120, 2000121, 2000122, 2000123, 2000124, 2000125, 2000126, 2000127, 2000128, 2000129, 2000130, 2000131, 2000132, 2000133, 2000134, 2000135, 2000136, 2000137, 2000138, 2000139, 2000140, 2000141, 2000142, 2000143, 2000144, 2000145, 2000146, 2000147, 2000148, 2000149, 2000150, 2000151, 2000152, 2000153, 2000154, 5, 2000156, 2000157, 7, 2000159, 2000160, 2000161, 2000162, 2000163, 2000164, 2000165, 2000166, 2000167, 2000168, 2000169, 2000170, 2000171, 2000172, 2000173, 2000174, 2000175, 2000176, 2000177, 2000178, 2000179, 2000180, 2000181, 2000182, 2000183, 2000184, 2000185, 2000186, 2000187, 2000188, 2000189, 2000190, 2000191, 2000192, 2000193, 2000194, 2000195, 2000196, 2000197, 2000198, 2000199, 2000200, 2000201, 2000202, 2000203, 2000204, 2000205, 2000206, 2000207, 2000208]
def fnL : List Nat := [1000000, 86, 63, 1000003, 99, 100, 103, 102, 104, 106, 105, 108, 107, 16, 109, 110, 62, 111, 112, 84, 113, 85, 98, 80, 82, 96, 1000026, 1000027, 1000028, 1000029, 1000030, 1000031, 1000032, 1000033, 1000034, 1000035, 1000036, 1000037, 1000038, 1000039, 1000040, 1000041, 1000042, 1000043, 1000044, 1000045, 1000046, 1000047, 1000048, 1000049, 1000050, 1000051, 1000052, 53, 1000054, 1000055, 1000056, 1000057, 1000058, 1000059, 1000060, 1000061, 60, 1000063, 1000064, 1000065, 1000066, 76, 77, 78, 79, 1000071, 93, 94, 95, 142, 1000076, 18, 1000078, 1000079, 1000080, 1000081, 1000082, 1000083, 38, 1000085, 1000086, 19, 1000088, 6, 1000090, 1000091, 1000092, 1000093, 1000094, 1000095, 1000096, 1000097, 23, 1000099, 1000100, 1000101, 1000102, 1000103, 1000104, 1000105, 1000106, 1000107, 1000108, 1000109, 1000110, 1000111, 1000112, 1000113, 1000114, 1000115, 1000116, 1000117, 1000118, 1000119, 1000120, 1000121, 1000122, 1000123, 1000124, 10, 11, 1000127, 132, 1000129, 25, 26, 27, 28, 29, 30, 42, 41, 44, 46, 45, 43, 55, 56, 57, 64, 1000146, 140, 1000148, 139, 138, 137, 134, 135, 136, 1000155, 1000156, 1000157, 17, 1000159, 1000160, 47, 35, 34, 37, 36, 1000166, 51, 52, 4, 1000170, 1000171, 1000172, 1000173, 1000174, 1000175, 1000176, 1000177, 1000178, 1000179, 24, 13, 8, 1000183, 12, 7, 131, 1000187, 1000188, 33, 31, 20, 32, 48, 49, 50, 39, 59, 58, 40, 54, 65, 66, 67, 68, 69, 70, 71, 72, 73, 74, 75, 61, 87, 88, 89, 90, 91, 92, 81, 83, 101, 97, 1000223, 1000224, 5, 1000226, 1000227, 14, 15, 1000230, 1000231, 1000232, 1000233, 1000234, 1000235, 1000236, 1000237, 1000238, 1000239, 1000240, 1000241, 1000242, 1000243, 1000244, 1000245, 1000246, 1000247, 1000248, 1000249, 9, 3, 21, 22]
def fkL : List Nat := [2000000, 2000001, 2000002, 251, 169, 225, 89, 185, 182, 250, 125, 126, 184, 181, 228, 229, 13, 158, 77, 87, 191, 252, 253, 98, 180, 130, 131, 132, 133, 134, 135, 190, 192, 189, 163, 162, 165, 164, 84, 196, 199, 137, 136, 141, 138, 140, 139, 161, 193, 194, 195, 167, 168, 53, 200, 142, 143, 144, 198, 197, 62, 212, 16, 2, 145, 201, 202, 203, 204, 205, 206, 207, 208, 209, 210, 211, 67, 68, 69, 70, 23, 219, 24, 220, 19, 21, 1, 213, 214, 215, 216, 217, 218, 72, 73, 74, 25, 222, 22, 4, 5, 221, 7, 6, 8, 10, 9, 12, 11, 14, 15, 17, 18, 20, 2000114, 2000115, 2000116, 2000117, 2000118, 2000119, 2000120, 2000121, 2000122, 2000123, 2000124, 2000125, 2000126, 2000127, 2000128, 2000129, 2000130, 186, 128, 2000133, 152, 153, 154, 151, 150, 149, 147, 2000141, 75, 2000143, 2000144, 2000145, 2000146, 2000147, 2000148, 2000149, 2000150, 2000151, 2000152, 2000153, 2000154, 2000155, 2000156, 2000157, 2000158, 2000159, 2000160, 2000161, 2000162, 2000163]
def gnL : List Nat := [1000000, 3, 4, 1000003, 1, 0, 2]
def gkL : List Nat := [5, 4, 6, 1, 2]
def E : Env := { ty := fun k => tyL.getD k 3000000, tk := fun t => tkL.getD t 3000000, fn := fun k => fnL.getD k 3000000, fk := fun f => fkL.getD f 3000000, gn := fun k => gnL.getD k 3000000, gk := fun g => gkL.getD g 3000000, gl := fun g => if g = 5 then some [.val (.int .i64 0), .val (.int .i64 (-1))] else if g = 4 then some [.val (.iface 150 (.agg #[.pointer (some ⟨5, 29, none⟩)]))] else if g = 6 then some [.val (.int .i64 (default : Mx).v)] else none }
theorem b_law_CoverPairs (a0 : AV) (H : AH) (R : Kt) : bodyW E Tryz.prog Tryz.f3 (.seq none .leaf (.seq none .leaf (.seq none (.seq none .leaf (.two (.seq none .leaf .leaf) .leaf)) (.seq none .leaf (.seq none .leaf (.seq none (.seq none .leaf (.two (.seq none .leaf .leaf) .leaf)) (.seq none (.one (.seq none .leaf (.two (.seq none .leaf .leaf) (.seq none .leaf (.two (.seq none .leaf .leaf) .leaf))))) (.seq none .leaf (.seq none (.seq none .leaf (.two (.seq none .leaf .leaf) .leaf)) (.seq none (.seq none .leaf (.one (.loop [11] (.seq none (.seq none .leaf (.two .leaf .leaf)) (.seq none (.one (.seq none .draw (.two (.seq none .leaf .leaf) .leaf))) .leaf))))) (.seq none .leaf .leaf))))))))))) [a0] H R = F.law_CoverPairs E Tryz.prog a0 H R := by kernel_rfl
theorem b_law_read (a0 : AV) (H : AH) (R : Kt) : bodyW E Tryz.prog Tryz.f4 (.seq none .leaf (.seq none (.seq none .leaf (.two (.seq none .leaf .leaf) .leaf)) (.seq none .leaf (.seq none (.seq none .leaf (.two (.seq none .leaf .leaf) .leaf)) (.seq none .leaf (.seq none (.seq none .leaf (.two (.seq none .leaf .leaf) .leaf)) (.seq none .leaf .leaf))))))) [a0] H R = F.law_read E Tryz.prog a0 H R := by kernel_rfl
theorem b_cover_Pairs (a0 : AV) (H : AH) (R : Kt) : bodyW E Tryz.prog Tryz.f5 (.seq none .leaf (.seq none (.seq none .leaf (.two (.seq none .leaf .leaf) .leaf)) (.seq none (.seq none .leaf (.two (.seq none .leaf .leaf) .leaf)) (.seq none .leaf (.seq none (.seq none .leaf (.two (.seq none .leaf .leaf) .leaf)) (.seq none .leaf (.seq none .leaf (.seq none (.seq none .leaf (.one (.loop [6, 27] (.seq none .leaf (.seq none (.two .leaf .leaf) (.seq (some [6]) (.one (.seq none .leaf (.seq none .leaf (.one (.loop [6, 35] (.seq none .leaf (.seq none (.two .leaf .leaf) (.seq none (.one (.seq none .leaf (.seq none .draw (.two (.seq none .leaf .leaf) .leaf)))) .leaf)))))))) .leaf)))))) (.seq none .leaf .leaf))))))))) [a0] H R = F.cover_Pairs E Tryz.prog a0 H R := by kernel_rfl
theorem b_law_bare (a0 a1 : AV) (H : AH) (R : Kt) : bodyW E Tryz.prog Tryz.f6 (.seq none .leaf (.seq none .leaf .leaf)) [a0, a1] H R = F.law_bare E Tryz.prog a0 a1 H R := by kernel_rfl
theorem b_pref_Expr_Edges (a0 : AV) (H : AH) (R : Kt) : bodyW E Tryz.prog Tryz.f7 (.seq none .leaf (.seq none .leaf .leaf)) [a0] H R = F.pref_Expr_Edges E Tryz.prog a0 H R := by kernel_rfl
theorem b_pref_Expr_Names (a0 : AV) (H : AH) (R : Kt) : bodyW E Tryz.prog Tryz.f8 (.seq none .leaf (.seq none .leaf .leaf)) [a0] H R = F.pref_Expr_Names E Tryz.prog a0 H R := by kernel_rfl
theorem b_ref_Pairs (a0 : AV) (H : AH) (R : Kt) : bodyW E Tryz.prog Tryz.f9 (.seq none .leaf (.seq none .leaf (.seq none .leaf (.seq none .leaf (.seq none (.seq none .leaf (.one (.loop [5, 14] (.seq none .leaf (.seq none (.two .leaf .leaf) (.seq (some [5]) (.one (.seq none .leaf (.seq none .leaf (.one (.loop [5, 8] (.seq none (.seq none .leaf (.two .leaf .leaf)) (.seq none (.one (.seq none .draw (.two (.seq none .leaf .leaf) .leaf))) .leaf))))))) .leaf)))))) (.seq none .leaf .leaf)))))) [a0] H R = F.ref_Pairs E Tryz.prog a0 H R := by kernel_rfl
theorem b_ref_ExprParse (a0 : AV) (H : AH) (R : Kt) : bodyW E Tryz.prog Tryz.f10 (.seq none .leaf (.seq none (.seq none .leaf (.two (.seq none .leaf .leaf) .leaf)) (.seq none .leaf (.seq none .leaf (.seq (some []) (.seq none .leaf (.two .leaf .leaf)) (.seq none (.seq none .leaf (.two (.seq none .draw .leaf) .leaf)) (.seq none .draw .leaf))))))) [a0] H R = F.ref_ExprParse E Tryz.prog a0 H R := by kernel_rfl
theorem b_expr_Parse (a0 : AV) (H : AH) (R : Kt) : bodyW E Tryz.prog Tryz.f11 (.seq none .leaf (.seq none (.seq none .leaf (.two (.seq none .leaf .leaf) .leaf)) (.seq none .leaf (.seq none .leaf (.seq none (.seq none .leaf (.two (.seq none .leaf .leaf) .leaf)) (.seq none (.seq none .leaf (.seq none .leaf (.two (.seq none .leaf .leaf) .leaf))) (.seq none .leaf .leaf))))))) [a0] H R = F.expr_Parse E Tryz.prog a0 H R := by kernel_rfl
theorem b_expr_Edges (a0 : AV) (H : AH) (R : Kt) : bodyW E Tryz.prog Tryz.f12 (.seq none .leaf (.seq none .leaf .leaf)) [a0] H R = F.expr_Edges E Tryz.prog a0 H R := by kernel_rfl
theorem b_expr_Names (a0 : AV) (H : AH) (R : Kt) : bodyW E Tryz.prog Tryz.f13 (.seq none .leaf (.seq none .leaf .leaf)) [a0] H R = F.expr_Names E Tryz.prog a0 H R := by kernel_rfl
theorem b_cover_Pairs_c1 (a0 a1 a2 : AV) (H : AH) (R : Kt) : bodyW E Tryz.prog Tryz.f14 (.seq none .leaf (.seq none .leaf (.seq none .leaf .leaf))) [a0, a1, a2] H R = F.cover_Pairs_c1 E Tryz.prog a0 a1 a2 H R := by kernel_rfl
theorem b_cover_Pairs_c1_c1 (a0 a1 a2 : AV) (H : AH) (R : Kt) : bodyW E Tryz.prog Tryz.f15 (.seq none .leaf (.seq none .draw .leaf)) [a0, a1, a2] H R = F.cover_Pairs_c1_c1 E Tryz.prog a0 a1 a2 H R := by kernel_rfl
theorem b_slices_Index_Lstring_string (a0 a1 : AV) (H : AH) (R : Kt) : bodyW E Tryz.prog Tryz.f16 (.seq none .leaf (.seq none (.seq none .leaf (.one (.loop [8] (.seq none .leaf (.seq none (.two .leaf .leaf) (.seq none (.one (.seq none .leaf (.seq none .leaf (.two (.seq none .leaf .leaf) .leaf)))) .leaf)))))) (.seq none .leaf .leaf))) [a0, a1] H R = F.slices_Index_Lstring_string E Tryz.prog a0 a1 H R := by kernel_rfl
theorem b_expr_Eval (a0 a1 a2 : AV) (H : AH) (R : Kt) : bodyW E Tryz.prog Tryz.f17 (.seq none .leaf (.seq none (.seq none .leaf (.one (.seq none .leaf (.two (.seq none .leaf (.seq none .leaf .leaf)) (.seq none .leaf (.two (.seq none .leaf (.seq none .leaf .leaf)) (.seq none .leaf (.two (.seq none .leaf (.seq none .leaf .leaf)) (.seq none .leaf (.two (.seq none .leaf (.seq none .leaf .leaf)) (.seq none .leaf (.two (.seq none .leaf (.seq none .leaf .leaf)) (.seq none .leaf (.two (.seq none .leaf (.seq none .leaf .leaf)) (.seq none .leaf (.two (.seq none .leaf (.seq none .leaf .leaf)) .leaf)))))))))))))))) (.seq none .leaf .leaf))) [a0, a1, a2] H R = F.expr_Eval E Tryz.prog a0 a1 a2 H R := by kernel_rfl
theorem b_law_at (a0 a1 : AV) (H : AH) (R : Kt) : bodyW E Tryz.prog Tryz.f18 (.seq none .leaf (.seq none .leaf (.seq none .leaf .leaf))) [a0, a1] H R = F.law_at E Tryz.prog a0 a1 H R := by kernel_rfl
theorem b_ref_Bare (a0 : AV) (H : AH) (R : Kt) : bodyW E Tryz.prog Tryz.f19 (.seq none .leaf (.seq none .leaf .leaf)) [a0] H R = F.ref_Bare E Tryz.prog a0 H R := by kernel_rfl
theorem b_pref_Expr_named (a0 a1 : AV) (H : AH) (R : Kt) : bodyW E Tryz.prog Tryz.f20 (.seq none .leaf (.seq none .leaf (.seq none .leaf (.seq none .leaf (.seq none .leaf (.seq none .leaf .leaf)))))) [a0, a1] H R = F.pref_Expr_named E Tryz.prog a0 a1 H R := by kernel_rfl
theorem b_ref_Pairs_c1 (a0 a1 a2 : AV) (H : AH) (R : Kt) : bodyW E Tryz.prog Tryz.f21 (.seq none .leaf (.seq none .leaf (.seq none .leaf .leaf))) [a0, a1, a2] H R = F.ref_Pairs_c1 E Tryz.prog a0 a1 a2 H R := by kernel_rfl
theorem b_ref_Pairs_c1_c1 (a0 a1 a2 : AV) (H : AH) (R : Kt) : bodyW E Tryz.prog Tryz.f22 (.seq none .leaf (.seq none .draw .leaf)) [a0, a1, a2] H R = F.ref_Pairs_c1_c1 E Tryz.prog a0 a1 a2 H R := by kernel_rfl
theorem b_ref_index (a0 a1 : AV) (H : AH) (R : Kt) : bodyW E Tryz.prog Tryz.f23 (.seq none .leaf (.seq none (.seq none .leaf (.one (.loop [9] (.seq none .leaf (.seq none (.two .leaf .leaf) (.seq none (.one (.seq none .leaf (.seq none .leaf (.two (.seq none .leaf .leaf) .leaf)))) .leaf)))))) (.seq none .leaf .leaf))) [a0, a1] H R = F.ref_index E Tryz.prog a0 a1 H R := by kernel_rfl
theorem b_pref_Expr_Eval (a0 a1 a2 : AV) (H : AH) (R : Kt) : bodyW E Tryz.prog Tryz.f24 (.seq none .leaf (.seq none (.seq none .leaf (.one (.seq none .leaf (.two (.seq none .leaf .leaf) (.seq none .leaf (.two (.seq none .leaf .leaf) (.seq none .leaf (.two (.seq none .leaf .leaf) (.seq none .leaf (.two (.seq none .leaf .leaf) (.seq none .leaf (.two (.seq none .leaf .leaf) (.seq (some [70]) (.seq none .leaf (.two .leaf .leaf)) (.two (.seq none .leaf (.seq none (.seq none .leaf (.one (.loop [7, 78] (.seq none .leaf (.seq none (.two .leaf .leaf) (.seq (some [7]) (.one (.seq none .leaf (.seq none .leaf (.two .leaf .leaf)))) .leaf)))))) (.seq none .leaf .leaf))) .leaf)))))))))))))) (.seq none .leaf .leaf))) [a0, a1, a2] H R = F.pref_Expr_Eval E Tryz.prog a0 a1 a2 H R := by kernel_rfl
theorem b_pref_parser_whole (a0 a1 : AV) (H : AH) (R : Kt) : bodyW E Tryz.prog Tryz.f25 (.seq none .leaf (.seq none .leaf .leaf)) [a0, a1] H R = F.pref_parser_whole E Tryz.prog a0 a1 H R := by kernel_rfl
theorem b_pref_parser_next (a0 : AV) (H : AH) (R : Kt) : bodyW E Tryz.prog Tryz.f26 (.seq none .leaf (.seq none .leaf (.seq none (.seq none .draw (.two (.seq none .draw .leaf) .leaf)) (.seq none .leaf .leaf)))) [a0] H R = F.pref_parser_next E Tryz.prog a0 H R := by kernel_rfl
theorem b_pref_parser_fail (a0 a1 : AV) (H : AH) (R : Kt) : bodyW E Tryz.prog Tryz.f27 (.seq none .leaf (.seq none .leaf (.seq (some []) (.seq none .leaf (.two .leaf .leaf)) (.seq none .leaf .leaf)))) [a0, a1] H R = F.pref_parser_fail E Tryz.prog a0 a1 H R := by kernel_rfl
theorem b_pexpr_reader_or (a0 a1 : AV) (H : AH) (R : Kt) : bodyW E Tryz.prog Tryz.f28 (.seq none .leaf (.seq none .leaf (.seq none (.seq none .leaf (.two (.seq none .leaf .leaf) .leaf)) (.seq none (.seq none .leaf (.two (.seq none .leaf .leaf) .leaf)) (.seq none .leaf .leaf))))) [a0, a1] H R = F.pexpr_reader_or E Tryz.prog a0 a1 H R := by kernel_rfl
theorem b_pexpr_reader_blanks (a0 : AV) (H : AH) (R : Kt) : bodyW E Tryz.prog Tryz.f29 (.one (.loop [] (.seq none (.seq none .draw (.two .leaf .leaf)) (.one .leaf)))) [a0] H R = F.pexpr_reader_blanks E Tryz.prog a0 H R := by kernel_rfl
theorem b_pexpr_reader_fail (a0 a1 : AV) (H : AH) (R : Kt) : bodyW E Tryz.prog Tryz.f30 (.seq none .leaf (.seq none .leaf (.seq none .leaf .leaf))) [a0, a1] H R = F.pexpr_reader_fail E Tryz.prog a0 a1 H R := by kernel_rfl
theorem b_expr_sorted (a0 a1 : AV) (H : AH) (R : Kt) : bodyW E Tryz.prog Tryz.f31 (.seq none .leaf (.seq none .leaf (.seq none .leaf (.seq none .leaf (.seq none .leaf .leaf))))) [a0, a1] H R = F.expr_sorted E Tryz.prog a0 a1 H R := by kernel_rfl
theorem b_expr_Edges_c1 (a0 : AV) (H : AH) (R : Kt) : bodyW E Tryz.prog Tryz.f32 (.seq none .leaf (.seq none (.seq none .leaf (.one (.seq none .leaf (.two (.seq none .leaf (.seq none .leaf .leaf)) (.seq none .leaf (.two (.seq none .leaf (.seq none .leaf .leaf)) .leaf)))))) (.seq none .leaf .leaf))) [a0] H R = F.expr_Edges_c1 E Tryz.prog a0 H R := by kernel_rfl
theorem b_expr_Names_c1 (a0 : AV) (H : AH) (R : Kt) : bodyW E Tryz.prog Tryz.f33 (.seq none .leaf (.seq none (.seq none .leaf (.one (.seq none .leaf (.two (.seq none .leaf (.seq none .leaf .leaf)) (.seq none .leaf (.two (.seq none .leaf (.seq none .leaf .leaf)) (.seq none .leaf (.two (.seq none .leaf (.seq none .leaf .leaf)) .leaf)))))))) (.seq none .leaf .leaf))) [a0] H R = F.expr_Names_c1 E Tryz.prog a0 H R := by kernel_rfl
theorem b_slices_ContainsFunc_expr_And_expr_Expr (a0 a1 : AV) (H : AH) (R : Kt) : bodyW E Tryz.prog Tryz.f34 (.seq none .leaf (.seq none .leaf .leaf)) [a0, a1] H R = F.slices_ContainsFunc_expr_And_expr_Expr E Tryz.prog a0 a1 H R := by kernel_rfl
theorem b_expr_Eval_c1 (a0 a1 a2 : AV) (H : AH) (R : Kt) : bodyW E Tryz.prog Tryz.f35 (.seq none .leaf (.seq none .leaf .leaf)) [a0, a1, a2] H R = F.expr_Eval_c1 E Tryz.prog a0 a1 a2 H R := by kernel_rfl
theorem b_slices_ContainsFunc_expr_Or_expr_Expr (a0 a1 : AV) (H : AH) (R : Kt) : bodyW E Tryz.prog Tryz.f36 (.seq none .leaf (.seq none .leaf .leaf)) [a0, a1] H R = F.slices_ContainsFunc_expr_Or_expr_Expr E Tryz.prog a0 a1 H R := by kernel_rfl
theorem b_expr_Eval_c2 (a0 a1 a2 : AV) (H : AH) (R : Kt) : bodyW E Tryz.prog Tryz.f37 (.seq none .leaf (.seq none .leaf .leaf)) [a0, a1, a2] H R = F.expr_Eval_c2 E Tryz.prog a0 a1 a2 H R := by kernel_rfl
theorem b_plain_Place (a0 : AV) (H : AH) (R : Kt) : bodyW E Tryz.prog Tryz.f38 (.seq none .leaf (.seq none .leaf (.seq (some []) (.one (.loop [0] (.seq none (.seq none .leaf (.two .leaf .leaf)) (.one (.seq none (.seq none .leaf (.seq none .leaf (.two (.seq none .draw .leaf) .leaf))) (.seq none .leaf (.seq none (.seq none .leaf (.two .leaf .leaf)) .leaf))))))) (.seq none .leaf .leaf)))) [a0] H R = F.plain_Place E Tryz.prog a0 H R := by kernel_rfl
theorem b_pref_Expr_named_c1 (a0 a1 a2 a3 : AV) (H : AH) (R : Kt) : bodyW E Tryz.prog Tryz.f39 (.seq (some []) (.seq none .draw (.two (.seq none .leaf (.seq none (.one (.loop [5] (.seq none (.seq none .draw (.two .leaf .leaf)) (.one .leaf)))) (.seq none .draw (.two (.seq none .leaf (.seq none .draw .draw)) .leaf)))) .leaf)) (.seq none .leaf (.one (.loop [76] (.seq none .leaf (.seq none (.two .leaf .leaf) (.seq none (.one (.seq none .leaf .leaf)) .leaf))))))) [a0, a1, a2, a3] H R = F.pref_Expr_named_c1 E Tryz.prog a0 a1 a2 a3 H R := by kernel_rfl
theorem b_pref_parser_row (a0 a1 a2 a3 : AV) (H : AH) (R : Kt) : bodyW E Tryz.prog Tryz.f41 (.seq none .leaf (.seq none .leaf (.seq none (.one (.loop [9] (.seq none (.seq none .leaf (.two .leaf .leaf)) (.one (.seq none .leaf .leaf))))) (.seq none (.seq none .leaf (.two (.seq none .leaf .leaf) .leaf)) (.seq none .leaf .leaf))))) [a0, a1, a2, a3] H R = F.pref_parser_row E Tryz.prog a0 a1 a2 a3 H R := by kernel_rfl
theorem b_pref_parser_whole_c1 (a0 a1 : AV) (H : AH) (R : Kt) : bodyW E Tryz.prog Tryz.f42 (.seq none .leaf (.seq none .leaf .leaf)) [a0, a1] H R = F.pref_parser_whole_c1 E Tryz.prog a0 a1 H R := by kernel_rfl
theorem b_pref_parser_piece (a0 a1 : AV) (H : AH) (R : Kt) : bodyW E Tryz.prog Tryz.f43 (.seq none .leaf (.seq none (.seq none .leaf (.two (.seq none .leaf .leaf) .leaf)) (.seq none (.seq none .leaf (.two (.seq none .leaf .leaf) .leaf)) (.seq none (.seq none .leaf (.seq none .leaf (.one (.seq none .leaf (.two (.seq none .leaf (.seq none .leaf .leaf)) (.seq none .leaf (.two (.seq none .leaf (.seq none .leaf (.seq none (.seq none .leaf (.two (.seq none .leaf .leaf) .leaf)) (.seq none .leaf (.seq none .leaf .leaf))))) (.seq (some [70]) (.seq none .leaf (.two .leaf .leaf)) (.two (.seq none .leaf (.seq none .leaf .leaf)) (.seq (some [84]) (.seq none .leaf (.two .leaf .leaf)) (.two (.seq none .leaf (.seq none .leaf .leaf)) .leaf))))))))))) (.seq none .leaf .leaf))))) [a0, a1] H R = F.pref_parser_piece E Tryz.prog a0 a1 H R := by kernel_rfl
theorem b_pref_parser_skip (a0 : AV) (H : AH) (R : Kt) : bodyW E Tryz.prog Tryz.f44 (.one (.loop [] (.seq none (.seq none .draw (.two .leaf .leaf)) (.one .leaf)))) [a0] H R = F.pref_parser_skip E Tryz.prog a0 H R := by kernel_rfl
theorem b_pexpr_reader_several (a0 a1 a2 a3 : AV) (H : AH) (R : Kt) : bodyW E Tryz.prog Tryz.f45 (.seq none .leaf (.seq none .leaf (.one (.loop [10] (.one (.seq none .leaf (.seq none (.seq none .leaf (.two (.seq none .leaf .leaf) .leaf)) (.seq none .leaf (.seq none .leaf (.two (.seq none .leaf .leaf) .leaf)))))))))) [a0, a1, a2, a3] H R = F.pexpr_reader_several E Tryz.prog a0 a1 a2 a3 H R := by kernel_rfl
theorem b_pexpr_reader_and (a0 a1 : AV) (H : AH) (R : Kt) : bodyW E Tryz.prog Tryz.f46 (.seq none .leaf (.seq none .leaf (.seq none (.seq none .leaf (.two (.seq none .leaf .leaf) .leaf)) (.seq none (.seq none .leaf (.two (.seq none .leaf .leaf) .leaf)) (.seq none .leaf .leaf))))) [a0, a1] H R = F.pexpr_reader_and E Tryz.prog a0 a1 H R := by kernel_rfl
theorem b_expr_walk (a0 a1 : AV) (H : AH) (R : Kt) : bodyW E Tryz.prog Tryz.f47 (.seq none .leaf (.seq none .leaf (.one (.seq none .leaf (.two (.seq none .leaf .leaf) (.seq none .leaf (.two (.seq none .leaf (.seq none .leaf (.one (.loop [27] (.seq none .leaf (.seq none (.two .leaf .leaf) (.seq none (.one (.seq none .leaf .leaf)) .leaf))))))) (.seq none .leaf (.two (.seq none .leaf (.seq none .leaf (.one (.loop [40] (.seq none .leaf (.seq none (.two .leaf .leaf) (.seq none (.one (.seq none .leaf .leaf)) .leaf))))))) .leaf))))))))) [a0, a1] H R = F.expr_walk E Tryz.prog a0 a1 H R := by kernel_rfl
theorem b_expr_sorted_c1 (a0 a1 a2 : AV) (H : AH) (R : Kt) : bodyW E Tryz.prog Tryz.f48 (.seq none .leaf (.seq none .leaf (.two .leaf .leaf))) [a0, a1, a2] H R = F.expr_sorted_c1 E Tryz.prog a0 a1 a2 H R := by kernel_rfl
theorem b_slices_IndexFunc_expr_And_expr_Expr (a0 a1 : AV) (H : AH) (R : Kt) : bodyW E Tryz.prog Tryz.f51 (.seq none .leaf (.seq none (.seq none .leaf (.one (.loop [8] (.seq none .leaf (.seq none (.two .leaf .leaf) (.seq none (.one (.seq none .leaf (.seq none .leaf (.two (.seq none .leaf .leaf) .leaf)))) .leaf)))))) (.seq none .leaf .leaf))) [a0, a1] H R = F.slices_IndexFunc_expr_And_expr_Expr E Tryz.prog a0 a1 H R := by kernel_rfl
theorem b_slices_IndexFunc_expr_Or_expr_Expr (a0 a1 : AV) (H : AH) (R : Kt) : bodyW E Tryz.prog Tryz.f52 (.seq none .leaf (.seq none (.seq none .leaf (.one (.loop [8] (.seq none .leaf (.seq none (.two .leaf .leaf) (.seq none (.one (.seq none .leaf (.seq none .leaf (.two (.seq none .leaf .leaf) .leaf)))) .leaf)))))) (.seq none .leaf .leaf))) [a0, a1] H R = F.slices_IndexFunc_expr_Or_expr_Expr E Tryz.prog a0 a1 H R := by kernel_rfl
theorem b_pref_parser_word (a0 : AV) (H : AH) (R : Kt) : bodyW E Tryz.prog Tryz.f55 (.seq none .leaf (.seq none .leaf (.seq none .leaf (.seq none (.one (.loop [3] (.seq none (.seq none .leaf (.two .leaf .leaf)) (.one .leaf)))) (.seq none .draw (.seq (some []) (.one (.seq none .leaf (.two .leaf (.seq none .leaf (.two .leaf .leaf))))) (.seq none .leaf .leaf))))))) [a0] H R = F.pref_parser_word E Tryz.prog a0 H R := by kernel_rfl
theorem b_pexpr_reader_take (a0 a1 : AV) (H : AH) (R : Kt) : bodyW E Tryz.prog Tryz.f56 (.seq none .leaf (.seq none .leaf (.seq none (.seq none .draw (.two (.seq none .leaf (.seq none .leaf .leaf)) .leaf)) (.seq none .leaf .leaf)))) [a0, a1] H R = F.pexpr_reader_take E Tryz.prog a0 a1 H R := by kernel_rfl
theorem b_pexpr_reader_one (a0 a1 : AV) (H : AH) (R : Kt) : bodyW E Tryz.prog Tryz.f57 (.seq none .leaf (.seq none (.seq none .leaf (.two (.seq none .leaf .leaf) .leaf)) (.seq none (.one (.seq none .leaf (.two (.seq none .leaf (.seq none (.seq none .leaf (.two (.seq none .leaf .leaf) .leaf)) (.seq none .leaf .leaf))) (.seq none .leaf (.two (.seq none .leaf (.seq none (.seq none .leaf (.two (.seq none .leaf .leaf) .leaf)) (.seq none (.seq none .leaf (.two (.seq none .leaf .leaf) .leaf)) (.seq none .leaf .leaf)))) (.seq none .leaf (.two (.seq none .leaf .leaf) (.seq none .leaf (.two (.seq none .leaf .leaf) (.seq none .leaf (.two (.seq none .leaf (.seq none .leaf .leaf)) (.seq none .leaf (.two (.seq none .leaf (.seq none .leaf .leaf)) .leaf))))))))))))) (.seq none .leaf (.seq none .leaf .leaf))))) [a0, a1] H R = F.pexpr_reader_one E Tryz.prog a0 a1 H R := by kernel_rfl
theorem b_strings_ContainsRune (a0 a1 : AV) (H : AH) (R : Kt) : bodyW E Tryz.prog Tryz.f62 (.seq none .leaf (.seq none .leaf .leaf)) [a0, a1] H R = F.strings_ContainsRune E Tryz.prog a0 a1 H R := by kernel_rfl
theorem b_ref_NameCheck (a0 : AV) (H : AH) (R : Kt) : bodyW E Tryz.prog Tryz.f63 (.seq none .leaf (.seq none (.seq none .leaf (.one (.loop [8] (.seq none .leaf (.seq none (.two .leaf .leaf) (.seq none (.one (.seq none .leaf (.seq none .leaf (.seq none .leaf (.seq none .leaf (.two (.seq none .leaf .leaf) .leaf)))))) .leaf)))))) (.seq none (.seq none .leaf (.one (.seq (some [41]) (.seq none .leaf (.two .leaf (.seq none .leaf (.two .leaf (.seq none .leaf (.two .leaf (.seq none .leaf (.two .leaf (.seq none .leaf (.two .leaf (.seq none .leaf (.two .leaf (.seq none .leaf (.two .leaf (.seq none .leaf (.two .leaf (.seq none .leaf (.two .leaf .leaf)))))))))))))))))) (.two (.seq none .leaf .leaf) .leaf)))) (.seq none .leaf .leaf)))) [a0] H R = F.ref_NameCheck E Tryz.prog a0 H R := by kernel_rfl
theorem b_pexpr_reader_word (a0 : AV) (H : AH) (R : Kt) : bodyW E Tryz.prog Tryz.f64 (.seq none .leaf (.seq none .leaf (.seq none .leaf (.seq none (.one (.loop [4] (.seq none (.seq none .leaf (.two .leaf .leaf)) (.one .leaf)))) (.seq none .draw (.seq none (.seq none .leaf (.two (.seq none .leaf .leaf) .leaf)) (.seq none (.seq none .leaf (.two (.seq none .leaf .leaf) .leaf)) (.seq none .leaf (.seq none .leaf .leaf))))))))) [a0] H R = F.pexpr_reader_word E Tryz.prog a0 H R := by kernel_rfl
theorem b_strings_IndexRune_ScV11 (a0 a1 : AV) (H : AH) (R : Kt) : bodyW E Tryz.prog Tryz.f84 (.seq none .leaf (.one (.seq none .leaf (.two (.seq none .leaf .leaf) (.seq none .leaf (.two (.seq none (.seq none .leaf (.one (.loop [] (.seq none .leaf (.seq none (.two .leaf .leaf) (.one (.seq none .leaf (.seq none .leaf (.two (.seq none .leaf .leaf) .leaf))))))))) (.seq none .leaf .leaf)) (.seq none .leaf (.two (.seq none .leaf .leaf) (.one (.seq none .leaf (.seq none .leaf (.seq none .leaf (.seq none .leaf (.seq none (.one (.loop [9] (.seq none (.seq none .leaf (.two .leaf .leaf)) (.one (.one (.seq (some [9]) (.seq none .draw (.two (.seq none .draw (.seq none (.seq none .leaf (.two (.seq none .leaf .leaf) .leaf)) .leaf)) .leaf)) (.seq none (.seq none .leaf (.one (.loop [12] (.seq none (.seq none .leaf (.two .leaf .leaf)) (.seq none (.one (.seq none .draw (.two .leaf .leaf))) .leaf))))) (.seq none (.seq none .leaf .leaf) (.seq none .leaf (.seq none .leaf (.seq none .leaf (.seq none .leaf (.two .leaf .leaf))))))))))))) (.seq none (.seq none .leaf .leaf) (.seq none .leaf (.seq none (.two (.seq none .leaf (.seq none .leaf (.two (.seq none .leaf .leaf) .leaf))) (.one (.seq none .leaf (.seq none .leaf (.seq none .leaf (.one (.loop [] (.seq none (.seq none .leaf (.two .leaf .leaf)) (.seq none (.one (.seq none .leaf (.two (.seq none (.seq none .leaf (.one (.loop [] (.seq none (.seq none .leaf (.two .leaf .leaf)) (.seq none (.one (.seq none .leaf (.two .leaf .leaf))) .leaf))))) (.seq none .leaf .leaf)) .leaf))) .leaf))))))))) (.seq none .leaf .leaf)))))))))))))))))) [a0, a1] H R = F.strings_IndexRune_ScV11 E Tryz.prog a0 a1 H R := by kernel_rfl
theorem b_expr_Name (a0 : AV) (H : AH) (R : Kt) : bodyW E Tryz.prog Tryz.f86 (.seq none .leaf (.seq none .leaf .leaf)) [a0] H R = F.expr_Name E Tryz.prog a0 H R := by kernel_rfl
theorem b_unicode_utf8_ValidRune (a0 : AV) (H : AH) (R : Kt) : bodyW E Tryz.prog Tryz.f98 (.seq none .leaf (.seq none (.one (.seq none .leaf (.two (.seq none .leaf .leaf) (.seq none .leaf (.two (.seq none .leaf .leaf) .leaf))))) (.seq none .leaf .leaf))) [a0] H R = F.unicode_utf8_ValidRune E Tryz.prog a0 H R := by kernel_rfl
theorem b_strings_Trim (a0 a1 : AV) (H : AH) (R : Kt) : bodyW E Tryz.prog Tryz.f99 (.seq none .leaf (.seq none (.seq none .leaf (.two (.seq none .leaf .leaf) .leaf)) (.seq none (.seq none .leaf (.two (.seq none .draw .leaf) .leaf)) (.seq none (.seq none .leaf (.seq none .leaf (.two (.seq none .leaf .leaf) .leaf))) (.seq none .leaf .leaf))))) [a0, a1] H R = F.strings_Trim E Tryz.prog a0 a1 H R := by kernel_rfl
theorem b_slices_Contains_Lstring_string (a0 a1 : AV) (H : AH) (R : Kt) : bodyW E Tryz.prog Tryz.f100 (.seq none .leaf (.seq none .leaf .leaf)) [a0, a1] H R = F.slices_Contains_Lstring_string E Tryz.prog a0 a1 H R := by kernel_rfl
theorem b_strings_trimLeftByte (a0 a1 : AV) (H : AH) (R : Kt) : bodyW E Tryz.prog Tryz.f102 (.seq none .leaf (.seq none (.one (.loop [0] (.seq none (.seq none .leaf (.two .leaf .leaf)) (.one .leaf)))) (.seq none .leaf .leaf))) [a0, a1] H R = F.strings_trimLeftByte E Tryz.prog a0 a1 H R := by kernel_rfl
theorem b_strings_trimRightByte (a0 a1 : AV) (H : AH) (R : Kt) : bodyW E Tryz.prog Tryz.f103 (.seq none .leaf (.seq none (.one (.loop [0] (.seq none (.seq none .leaf (.two .leaf .leaf)) (.one .leaf)))) (.seq none .leaf .leaf))) [a0, a1] H R = F.strings_trimRightByte E Tryz.prog a0 a1 H R := by kernel_rfl
theorem b_strings_makeASCIISet (a0 : AV) (H : AH) (R : Kt) : bodyW E Tryz.prog Tryz.f104 (.seq none .leaf (.seq none (.seq none .leaf (.one (.loop [4] (.seq none (.seq none .leaf (.two .leaf .leaf)) (.seq none (.one (.seq none .leaf (.seq none (.seq none .leaf (.two (.seq none .leaf .leaf) .leaf)) .leaf))) .leaf))))) (.seq none .leaf .leaf))) [a0] H R = F.strings_makeASCIISet E Tryz.prog a0 H R := by kernel_rfl
theorem b_strings_trimLeftASCII (a0 a1 : AV) (H : AH) (R : Kt) : bodyW E Tryz.prog Tryz.f105 (.seq none .leaf (.seq (some [0]) (.one (.loop [0] (.seq none (.seq none .leaf (.two .leaf .leaf)) (.one (.seq none (.seq none .leaf (.two .leaf .leaf)) .leaf))))) (.seq none .leaf .leaf))) [a0, a1] H R = F.strings_trimLeftASCII E Tryz.prog a0 a1 H R := by kernel_rfl
theorem b_strings_trimRightASCII (a0 a1 : AV) (H : AH) (R : Kt) : bodyW E Tryz.prog Tryz.f106 (.seq none .leaf (.seq (some [0]) (.one (.loop [0] (.seq none (.seq none .leaf (.two .leaf .leaf)) (.one (.seq none (.seq none .leaf (.two .leaf .leaf)) .leaf))))) (.seq none .leaf .leaf))) [a0, a1] H R = F.strings_trimRightASCII E Tryz.prog a0 a1 H R := by kernel_rfl
theorem b_pstrings_asciiSet_contains (a0 a1 : AV) (H : AH) (R : Kt) : bodyW E Tryz.prog Tryz.f109 (.seq none .leaf (.seq none .leaf .leaf)) [a0, a1] H R = F.pstrings_asciiSet_contains E Tryz.prog a0 a1 H R := by kernel_rfl
theorem c_law_read (a0 : AV) (H : AH) (R : Kt) (h : F.law_read E Tryz.prog a0 H R) : ACalls E Tryz.prog 169 [a0] H R :=
  acalls_of_body (show Tryz.prog.funcs[E.fn 169]? = some Tryz.f4 from Tryz.func4) (by kernel_rfl) ((b_law_read a0 H R).mpr h)
theorem c_cover_Pairs (a0 : AV) (H : AH) (R : Kt) (h : F.cover_Pairs E Tryz.prog a0 H R) : ACalls E Tryz.prog 225 [a0] H R :=
  acalls_of_body (show Tryz.prog.funcs[E.fn 225]? = some Tryz.f5 from Tryz.func5) (by kernel_rfl) ((b_cover_Pairs a0 H R).mpr h)
theorem c_law_bare (a0 a1 : AV) (H : AH) (R : Kt) (h : F.law_bare E Tryz.prog a0 a1 H R) : ACalls E Tryz.prog 89 [a0, a1] H R :=
  acalls_of_body (show Tryz.prog.funcs[E.fn 89]? = some Tryz.f6 from Tryz.func6) (by kernel_rfl) ((b_law_bare a0 a1 H R).mpr h)
theorem c_pref_Expr_Edges (a0 : AV) (H : AH) (R : Kt) (h : F.pref_Expr_Edges E Tryz.prog a0 H R) : ACalls E Tryz.prog 185 [a0] H R :=
  acalls_of_body (show Tryz.prog.funcs[E.fn 185]? = some Tryz.f7 from Tryz.func7) (by kernel_rfl) ((b_pref_Expr_Edges a0 H R).mpr h)
theorem c_pref_Expr_Names (a0 : AV) (H : AH) (R : Kt) (h : F.pref_Expr_Names E Tryz.prog a0 H R) : ACalls E Tryz.prog 182 [a0] H R :=
  acalls_of_body (show Tryz.prog.funcs[E.fn 182]? = some Tryz.f8 from Tryz.func8) (by kernel_rfl) ((b_pref_Expr_Names a0 H R).mpr h)
theorem c_ref_Pairs (a0 : AV) (H : AH) (R : Kt) (h : F.ref_Pairs E Tryz.prog a0 H R) : ACalls E Tryz.prog 250 [a0] H R :=
  acalls_of_body (show Tryz.prog.funcs[E.fn 250]? = some Tryz.f9 from Tryz.func9) (by kernel_rfl) ((b_ref_Pairs a0 H R).mpr h)
theorem c_ref_ExprParse (a0 : AV) (H : AH) (R : Kt) (h : F.ref_ExprParse E Tryz.prog a0 H R) : ACalls E Tryz.prog 125 [a0] H R :=
  acalls_of_body (show Tryz.prog.funcs[E.fn 125]? = some Tryz.f10 from Tryz.func10) (by kernel_rfl) ((b_ref_ExprParse a0 H R).mpr h)
theorem c_expr_Parse (a0 : AV) (H : AH) (R : Kt) (h : F.expr_Parse E Tryz.prog a0 H R) : ACalls E Tryz.prog 126 [a0] H R :=
  acalls_of_body (show Tryz.prog.funcs[E.fn 126]? = some Tryz.f11 from Tryz.func11) (by kernel_rfl) ((b_expr_Parse a0 H R).mpr h)
theorem c_expr_Edges (a0 : AV) (H : AH) (R : Kt) (h : F.expr_Edges E Tryz.prog a0 H R) : ACalls E Tryz.prog 184 [a0] H R :=
  acalls_of_body (show Tryz.prog.funcs[E.fn 184]? = some Tryz.f12 from Tryz.func12) (by kernel_rfl) ((b_expr_Edges a0 H R).mpr h)
theorem c_expr_Names (a0 : AV) (H : AH) (R : Kt) (h : F.expr_Names E Tryz.prog a0 H R) : ACalls E Tryz.prog 181 [a0] H R :=
  acalls_of_body (show Tryz.prog.funcs[E.fn 181]? = some Tryz.f13 from Tryz.func13) (by kernel_rfl) ((b_expr_Names a0 H R).mpr h)
theorem c_cover_Pairs_c1 (a0 a1 a2 : AV) (H : AH) (R : Kt) (h : F.cover_Pairs_c1 E Tryz.prog a0 a1 a2 H R) : ACalls E Tryz.prog 228 [a0, a1, a2] H R :=
  acalls_of_body (show Tryz.prog.funcs[E.fn 228]? = some Tryz.f14 from Tryz.func14) (by kernel_rfl) ((b_cover_Pairs_c1 a0 a1 a2 H R).mpr h)
theorem c_cover_Pairs_c1_c1 (a0 a1 a2 : AV) (H : AH) (R : Kt) (h : F.cover_Pairs_c1_c1 E Tryz.prog a0 a1 a2 H R) : ACalls E Tryz.prog 229 [a0, a1, a2] H R :=
  acalls_of_body (show Tryz.prog.funcs[E.fn 229]? = some Tryz.f15 from Tryz.func15) (by kernel_rfl) ((b_cover_Pairs_c1_c1 a0 a1 a2 H R).mpr h)
theorem c_slices_Index_Lstring_string (a0 a1 : AV) (H : AH) (R : Kt) (h : F.slices_Index_Lstring_string E Tryz.prog a0 a1 H R) : ACalls E Tryz.prog 13 [a0, a1] H R :=
  acalls_of_body (show Tryz.prog.funcs[E.fn 13]? = some Tryz.f16 from Tryz.func16) (by kernel_rfl) ((b_slices_Index_Lstring_string a0 a1 H R).mpr h)
theorem c_expr_Eval (a0 a1 a2 : AV) (H : AH) (R : Kt) (h : F.expr_Eval E Tryz.prog a0 a1 a2 H R) : ACalls E Tryz.prog 158 [a0, a1, a2] H R :=
  acalls_of_body (show Tryz.prog.funcs[E.fn 158]? = some Tryz.f17 from Tryz.func17) (by kernel_rfl) ((b_expr_Eval a0 a1 a2 H R).mpr h)
theorem c_law_at (a0 a1 : AV) (H : AH) (R : Kt) (h : F.law_at E Tryz.prog a0 a1 H R) : ACalls E Tryz.prog 77 [a0, a1] H R :=
  acalls_of_body (show Tryz.prog.funcs[E.fn 77]? = some Tryz.f18 from Tryz.func18) (by kernel_rfl) ((b_law_at a0 a1 H R).mpr h)
theorem c_ref_Bare (a0 : AV) (H : AH) (R : Kt) (h : F.ref_Bare E Tryz.prog a0 H R) : ACalls E Tryz.prog 87 [a0] H R :=
  acalls_of_body (show Tryz.prog.funcs[E.fn 87]? = some Tryz.f19 from Tryz.func19) (by kernel_rfl) ((b_ref_Bare a0 H R).mpr h)
theorem c_pref_Expr_named (a0 a1 : AV) (H : AH) (R : Kt) (h : F.pref_Expr_named E Tryz.prog a0 a1 H R) : ACalls E Tryz.prog 191 [a0, a1] H R :=
  acalls_of_body (show Tryz.prog.funcs[E.fn 191]? = some Tryz.f20 from Tryz.func20) (by kernel_rfl) ((b_pref_Expr_named a0 a1 H R).mpr h)
theorem c_ref_Pairs_c1 (a0 a1 a2 : AV) (H : AH) (R : Kt) (h : F.ref_Pairs_c1 E Tryz.prog a0 a1 a2 H R) : ACalls E Tryz.prog 252 [a0, a1, a2] H R :=
  acalls_of_body (show Tryz.prog.funcs[E.fn 252]? = some Tryz.f21 from Tryz.func21) (by kernel_rfl) ((b_ref_Pairs_c1 a0 a1 a2 H R).mpr h)
theorem c_ref_Pairs_c1_c1 (a0 a1 a2 : AV) (H : AH) (R : Kt) (h : F.ref_Pairs_c1_c1 E Tryz.prog a0 a1 a2 H R) : ACalls E Tryz.prog 253 [a0, a1, a2] H R :=
  acalls_of_body (show Tryz.prog.funcs[E.fn 253]? = some Tryz.f22 from Tryz.func22) (by kernel_rfl) ((b_ref_Pairs_c1_c1 a0 a1 a2 H R).mpr h)
theorem c_ref_index (a0 a1 : AV) (H : AH) (R : Kt) (h : F.ref_index E Tryz.prog a0 a1 H R) : ACalls E Tryz.prog 98 [a0, a1] H R :=
  acalls_of_body (show Tryz.prog.funcs[E.fn 98]? = some Tryz.f23 from Tryz.func23) (by kernel_rfl) ((b_ref_index a0 a1 H R).mpr h)
theorem c_pref_Expr_Eval (a0 a1 a2 : AV) (H : AH) (R : Kt) (h : F.pref_Expr_Eval E Tryz.prog a0 a1 a2 H R) : ACalls E Tryz.prog 180 [a0, a1, a2] H R :=
  acalls_of_body (show Tryz.prog.funcs[E.fn 180]? = some Tryz.f24 from Tryz.func24) (by kernel_rfl) ((b_pref_Expr_Eval a0 a1 a2 H R).mpr h)
theorem c_pref_parser_whole (a0 a1 : AV) (H : AH) (R : Kt) (h : F.pref_parser_whole E Tryz.prog a0 a1 H R) : ACalls E Tryz.prog 130 [a0, a1] H R :=
  acalls_of_body (show Tryz.prog.funcs[E.fn 130]? = some Tryz.f25 from Tryz.func25) (by kernel_rfl) ((b_pref_parser_whole a0 a1 H R).mpr h)
theorem c_pref_parser_next (a0 : AV) (H : AH) (R : Kt) (h : F.pref_parser_next E Tryz.prog a0 H R) : ACalls E Tryz.prog 131 [a0] H R :=
  acalls_of_body (show Tryz.prog.funcs[E.fn 131]? = some Tryz.f26 from Tryz.func26) (by kernel_rfl) ((b_pref_parser_next a0 H R).mpr h)
theorem c_pref_parser_fail (a0 a1 : AV) (H : AH) (R : Kt) (h : F.pref_parser_fail E Tryz.prog a0 a1 H R) : ACalls E Tryz.prog 132 [a0, a1] H R :=
  acalls_of_body (show Tryz.prog.funcs[E.fn 132]? = some Tryz.f27 from Tryz.func27) (by kernel_rfl) ((b_pref_parser_fail a0 a1 H R).mpr h)
theorem c_pexpr_reader_or (a0 a1 : AV) (H : AH) (R : Kt) (h : F.pexpr_reader_or E Tryz.prog a0 a1 H R) : ACalls E Tryz.prog 133 [a0, a1] H R :=
  acalls_of_body (show Tryz.prog.funcs[E.fn 133]? = some Tryz.f28 from Tryz.func28) (by kernel_rfl) ((b_pexpr_reader_or a0 a1 H R).mpr h)
theorem c_pexpr_reader_blanks (a0 : AV) (H : AH) (R : Kt) (h : F.pexpr_reader_blanks E Tryz.prog a0 H R) : ACalls E Tryz.prog 134 [a0] H R :=
  acalls_of_body (show Tryz.prog.funcs[E.fn 134]? = some Tryz.f29 from Tryz.func29) (by kernel_rfl) ((b_pexpr_reader_blanks a0 H R).mpr h)
theorem c_pexpr_reader_fail (a0 a1 : AV) (H : AH) (R : Kt) (h : F.pexpr_reader_fail E Tryz.prog a0 a1 H R) : ACalls E Tryz.prog 135 [a0, a1] H R :=
  acalls_of_body (show Tryz.prog.funcs[E.fn 135]? = some Tryz.f30 from Tryz.func30) (by kernel_rfl) ((b_pexpr_reader_fail a0 a1 H R).mpr h)
theorem c_expr_sorted (a0 a1 : AV) (H : AH) (R : Kt) (h : F.expr_sorted E Tryz.prog a0 a1 H R) : ACalls E Tryz.prog 190 [a0, a1] H R :=
  acalls_of_body (show Tryz.prog.funcs[E.fn 190]? = some Tryz.f31 from Tryz.func31) (by kernel_rfl) ((b_expr_sorted a0 a1 H R).mpr h)
theorem c_expr_Edges_c1 (a0 : AV) (H : AH) (R : Kt) (h : F.expr_Edges_c1 E Tryz.prog a0 H R) : ACalls E Tryz.prog 192 [a0] H R :=
  acalls_of_body (show Tryz.prog.funcs[E.fn 192]? = some Tryz.f32 from Tryz.func32) (by kernel_rfl) ((b_expr_Edges_c1 a0 H R).mpr h)
theorem c_expr_Names_c1 (a0 : AV) (H : AH) (R : Kt) (h : F.expr_Names_c1 E Tryz.prog a0 H R) : ACalls E Tryz.prog 189 [a0] H R :=
  acalls_of_body (show Tryz.prog.funcs[E.fn 189]? = some Tryz.f33 from Tryz.func33) (by kernel_rfl) ((b_expr_Names_c1 a0 H R).mpr h)
theorem c_slices_ContainsFunc_expr_And_expr_Expr (a0 a1 : AV) (H : AH) (R : Kt) (h : F.slices_ContainsFunc_expr_And_expr_Expr E Tryz.prog a0 a1 H R) : ACalls E Tryz.prog 163 [a0, a1] H R :=
  acalls_of_body (show Tryz.prog.funcs[E.fn 163]? = some Tryz.f34 from Tryz.func34) (by kernel_rfl) ((b_slices_ContainsFunc_expr_And_expr_Expr a0 a1 H R).mpr h)
theorem c_expr_Eval_c1 (a0 a1 a2 : AV) (H : AH) (R : Kt) (h : F.expr_Eval_c1 E Tryz.prog a0 a1 a2 H R) : ACalls E Tryz.prog 162 [a0, a1, a2] H R :=
  acalls_of_body (show Tryz.prog.funcs[E.fn 162]? = some Tryz.f35 from Tryz.func35) (by kernel_rfl) ((b_expr_Eval_c1 a0 a1 a2 H R).mpr h)
theorem c_slices_ContainsFunc_expr_Or_expr_Expr (a0 a1 : AV) (H : AH) (R : Kt) (h : F.slices_ContainsFunc_expr_Or_expr_Expr E Tryz.prog a0 a1 H R) : ACalls E Tryz.prog 165 [a0, a1] H R :=
  acalls_of_body (show Tryz.prog.funcs[E.fn 165]? = some Tryz.f36 from Tryz.func36) (by kernel_rfl) ((b_slices_ContainsFunc_expr_Or_expr_Expr a0 a1 H R).mpr h)
theorem c_expr_Eval_c2 (a0 a1 a2 : AV) (H : AH) (R : Kt) (h : F.expr_Eval_c2 E Tryz.prog a0 a1 a2 H R) : ACalls E Tryz.prog 164 [a0, a1, a2] H R :=
  acalls_of_body (show Tryz.prog.funcs[E.fn 164]? = some Tryz.f37 from Tryz.func37) (by kernel_rfl) ((b_expr_Eval_c2 a0 a1 a2 H R).mpr h)
theorem c_plain_Place (a0 : AV) (H : AH) (R : Kt) (h : F.plain_Place E Tryz.prog a0 H R) : ACalls E Tryz.prog 84 [a0] H R :=
  acalls_of_body (show Tryz.prog.funcs[E.fn 84]? = some Tryz.f38 from Tryz.func38) (by kernel_rfl) ((b_plain_Place a0 H R).mpr h)
theorem c_pref_Expr_named_c1 (a0 a1 a2 a3 : AV) (H : AH) (R : Kt) (h : F.pref_Expr_named_c1 E Tryz.prog a0 a1 a2 a3 H R) : ACalls E Tryz.prog 196 [a0, a1, a2, a3] H R :=
  acalls_of_body (show Tryz.prog.funcs[E.fn 196]? = some Tryz.f39 from Tryz.func39) (by kernel_rfl) ((b_pref_Expr_named_c1 a0 a1 a2 a3 H R).mpr h)
theorem c_pref_parser_row (a0 a1 a2 a3 : AV) (H : AH) (R : Kt) (h : F.pref_parser_row E Tryz.prog a0 a1 a2 a3 H R) : ACalls E Tryz.prog 137 [a0, a1, a2, a3] H R :=
  acalls_of_body (show Tryz.prog.funcs[E.fn 137]? = some Tryz.f41 from Tryz.func41) (by kernel_rfl) ((b_pref_parser_row a0 a1 a2 a3 H R).mpr h)
theorem c_pref_parser_whole_c1 (a0 a1 : AV) (H : AH) (R : Kt) (h : F.pref_parser_whole_c1 E Tryz.prog a0 a1 H R) : ACalls E Tryz.prog 136 [a0, a1] H R :=
  acalls_of_body (show Tryz.prog.funcs[E.fn 136]? = some Tryz.f42 from Tryz.func42) (by kernel_rfl) ((b_pref_parser_whole_c1 a0 a1 H R).mpr h)
theorem c_pref_parser_piece (a0 a1 : AV) (H : AH) (R : Kt) (h : F.pref_parser_piece E Tryz.prog a0 a1 H R) : ACalls E Tryz.prog 141 [a0, a1] H R :=
  acalls_of_body (show Tryz.prog.funcs[E.fn 141]? = some Tryz.f43 from Tryz.func43) (by kernel_rfl) ((b_pref_parser_piece a0 a1 H R).mpr h)
theorem c_pref_parser_skip (a0 : AV) (H : AH) (R : Kt) (h : F.pref_parser_skip E Tryz.prog a0 H R) : ACalls E Tryz.prog 138 [a0] H R :=
  acalls_of_body (show Tryz.prog.funcs[E.fn 138]? = some Tryz.f44 from Tryz.func44) (by kernel_rfl) ((b_pref_parser_skip a0 H R).mpr h)
theorem c_pexpr_reader_several (a0 a1 a2 a3 : AV) (H : AH) (R : Kt) (h : F.pexpr_reader_several E Tryz.prog a0 a1 a2 a3 H R) : ACalls E Tryz.prog 140 [a0, a1, a2, a3] H R :=
  acalls_of_body (show Tryz.prog.funcs[E.fn 140]? = some Tryz.f45 from Tryz.func45) (by kernel_rfl) ((b_pexpr_reader_several a0 a1 a2 a3 H R).mpr h)
theorem c_pexpr_reader_and (a0 a1 : AV) (H : AH) (R : Kt) (h : F.pexpr_reader_and E Tryz.prog a0 a1 H R) : ACalls E Tryz.prog 139 [a0, a1] H R :=
  acalls_of_body (show Tryz.prog.funcs[E.fn 139]? = some Tryz.f46 from Tryz.func46) (by kernel_rfl) ((b_pexpr_reader_and a0 a1 H R).mpr h)
theorem c_expr_walk (a0 a1 : AV) (H : AH) (R : Kt) (h : F.expr_walk E Tryz.prog a0 a1 H R) : ACalls E Tryz.prog 161 [a0, a1] H R :=
  acalls_of_body (show Tryz.prog.funcs[E.fn 161]? = some Tryz.f47 from Tryz.func47) (by kernel_rfl) ((b_expr_walk a0 a1 H R).mpr h)
theorem c_expr_sorted_c1 (a0 a1 a2 : AV) (H : AH) (R : Kt) (h : F.expr_sorted_c1 E Tryz.prog a0 a1 a2 H R) : ACalls E Tryz.prog 193 [a0, a1, a2] H R :=
  acalls_of_body (show Tryz.prog.funcs[E.fn 193]? = some Tryz.f48 from Tryz.func48) (by kernel_rfl) ((b_expr_sorted_c1 a0 a1 a2 H R).mpr h)
theorem c_slices_IndexFunc_expr_And_expr_Expr (a0 a1 : AV) (H : AH) (R : Kt) (h : F.slices_IndexFunc_expr_And_expr_Expr E Tryz.prog a0 a1 H R) : ACalls E Tryz.prog 167 [a0, a1] H R :=
  acalls_of_body (show Tryz.prog.funcs[E.fn 167]? = some Tryz.f51 from Tryz.func51) (by kernel_rfl) ((b_slices_IndexFunc_expr_And_expr_Expr a0 a1 H R).mpr h)
theorem c_slices_IndexFunc_expr_Or_expr_Expr (a0 a1 : AV) (H : AH) (R : Kt) (h : F.slices_IndexFunc_expr_Or_expr_Expr E Tryz.prog a0 a1 H R) : ACalls E Tryz.prog 168 [a0, a1] H R :=
  acalls_of_body (show Tryz.prog.funcs[E.fn 168]? = some Tryz.f52 from Tryz.func52) (by kernel_rfl) ((b_slices_IndexFunc_expr_Or_expr_Expr a0 a1 H R).mpr h)
theorem c_pref_parser_word (a0 : AV) (H : AH) (R : Kt) (h : F.pref_parser_word E Tryz.prog a0 H R) : ACalls E Tryz.prog 142 [a0] H R :=
  acalls_of_body (show Tryz.prog.funcs[E.fn 142]? = some Tryz.f55 from Tryz.func55) (by kernel_rfl) ((b_pref_parser_word a0 H R).mpr h)
theorem c_pexpr_reader_take (a0 a1 : AV) (H : AH) (R : Kt) (h : F.pexpr_reader_take E Tryz.prog a0 a1 H R) : ACalls E Tryz.prog 143 [a0, a1] H R :=
  acalls_of_body (show Tryz.prog.funcs[E.fn 143]? = some Tryz.f56 from Tryz.func56) (by kernel_rfl) ((b_pexpr_reader_take a0 a1 H R).mpr h)
theorem c_pexpr_reader_one (a0 a1 : AV) (H : AH) (R : Kt) (h : F.pexpr_reader_one E Tryz.prog a0 a1 H R) : ACalls E Tryz.prog 144 [a0, a1] H R :=
  acalls_of_body (show Tryz.prog.funcs[E.fn 144]? = some Tryz.f57 from Tryz.func57) (by kernel_rfl) ((b_pexpr_reader_one a0 a1 H R).mpr h)
theorem c_strings_ContainsRune (a0 a1 : AV) (H : AH) (R : Kt) (h : F.strings_ContainsRune E Tryz.prog a0 a1 H R) : ACalls E Tryz.prog 16 [a0, a1] H R :=
  acalls_of_body (show Tryz.prog.funcs[E.fn 16]? = some Tryz.f62 from Tryz.func62) (by kernel_rfl) ((b_strings_ContainsRune a0 a1 H R).mpr h)
theorem c_ref_NameCheck (a0 : AV) (H : AH) (R : Kt) (h : F.ref_NameCheck E Tryz.prog a0 H R) : ACalls E Tryz.prog 2 [a0] H R :=
  acalls_of_body (show Tryz.prog.funcs[E.fn 2]? = some Tryz.f63 from Tryz.func63) (by kernel_rfl) ((b_ref_NameCheck a0 H R).mpr h)
theorem c_pexpr_reader_word (a0 : AV) (H : AH) (R : Kt) (h : F.pexpr_reader_word E Tryz.prog a0 H R) : ACalls E Tryz.prog 145 [a0] H R :=
  acalls_of_body (show Tryz.prog.funcs[E.fn 145]? = some Tryz.f64 from Tryz.func64) (by kernel_rfl) ((b_pexpr_reader_word a0 H R).mpr h)
theorem c_strings_IndexRune_ScV11 (a0 a1 : AV) (H : AH) (R : Kt) (h : F.strings_IndexRune_ScV11 E Tryz.prog a0 a1 H R) : ACalls E Tryz.prog 19 [a0, a1] H R :=
  acalls_of_body (show Tryz.prog.funcs[E.fn 19]? = some Tryz.f84 from Tryz.func84) (by kernel_rfl) ((b_strings_IndexRune_ScV11 a0 a1 H R).mpr h)
theorem c_expr_Name (a0 : AV) (H : AH) (R : Kt) (h : F.expr_Name E Tryz.prog a0 H R) : ACalls E Tryz.prog 1 [a0] H R :=
  acalls_of_body (show Tryz.prog.funcs[E.fn 1]? = some Tryz.f86 from Tryz.func86) (by kernel_rfl) ((b_expr_Name a0 H R).mpr h)
theorem c_unicode_utf8_ValidRune (a0 : AV) (H : AH) (R : Kt) (h : F.unicode_utf8_ValidRune E Tryz.prog a0 H R) : ACalls E Tryz.prog 22 [a0] H R :=
  acalls_of_body (show Tryz.prog.funcs[E.fn 22]? = some Tryz.f98 from Tryz.func98) (by kernel_rfl) ((b_unicode_utf8_ValidRune a0 H R).mpr h)
theorem c_strings_Trim (a0 a1 : AV) (H : AH) (R : Kt) (h : F.strings_Trim E Tryz.prog a0 a1 H R) : ACalls E Tryz.prog 4 [a0, a1] H R :=
  acalls_of_body (show Tryz.prog.funcs[E.fn 4]? = some Tryz.f99 from Tryz.func99) (by kernel_rfl) ((b_strings_Trim a0 a1 H R).mpr h)
theorem c_slices_Contains_Lstring_string (a0 a1 : AV) (H : AH) (R : Kt) (h : F.slices_Contains_Lstring_string E Tryz.prog a0 a1 H R) : ACalls E Tryz.prog 5 [a0, a1] H R :=
  acalls_of_body (show Tryz.prog.funcs[E.fn 5]? = some Tryz.f100 from Tryz.func100) (by kernel_rfl) ((b_slices_Contains_Lstring_string a0 a1 H R).mpr h)
theorem c_strings_trimLeftByte (a0 a1 : AV) (H : AH) (R : Kt) (h : F.strings_trimLeftByte E Tryz.prog a0 a1 H R) : ACalls E Tryz.prog 7 [a0, a1] H R :=
  acalls_of_body (show Tryz.prog.funcs[E.fn 7]? = some Tryz.f102 from Tryz.func102) (by kernel_rfl) ((b_strings_trimLeftByte a0 a1 H R).mpr h)
theorem c_strings_trimRightByte (a0 a1 : AV) (H : AH) (R : Kt) (h : F.strings_trimRightByte E Tryz.prog a0 a1 H R) : ACalls E Tryz.prog 6 [a0, a1] H R :=
  acalls_of_body (show Tryz.prog.funcs[E.fn 6]? = some Tryz.f103 from Tryz.func103) (by kernel_rfl) ((b_strings_trimRightByte a0 a1 H R).mpr h)
theorem c_strings_makeASCIISet (a0 : AV) (H : AH) (R : Kt) (h : F.strings_makeASCIISet E Tryz.prog a0 H R) : ACalls E Tryz.prog 8 [a0] H R :=
  acalls_of_body (show Tryz.prog.funcs[E.fn 8]? = some Tryz.f104 from Tryz.func104) (by kernel_rfl) ((b_strings_makeASCIISet a0 H R).mpr h)
theorem c_strings_trimLeftASCII (a0 a1 : AV) (H : AH) (R : Kt) (h : F.strings_trimLeftASCII E Tryz.prog a0 a1 H R) : ACalls E Tryz.prog 10 [a0, a1] H R :=
  acalls_of_body (show Tryz.prog.funcs[E.fn 10]? = some Tryz.f105 from Tryz.func105) (by kernel_rfl) ((b_strings_trimLeftASCII a0 a1 H R).mpr h)
theorem c_strings_trimRightASCII (a0 a1 : AV) (H : AH) (R : Kt) (h : F.strings_trimRightASCII E Tryz.prog a0 a1 H R) : ACalls E Tryz.prog 9 [a0, a1] H R :=
  acalls_of_body (show Tryz.prog.funcs[E.fn 9]? = some Tryz.f106 from Tryz.func106) (by kernel_rfl) ((b_strings_trimRightASCII a0 a1 H R).mpr h)
theorem c_pstrings_asciiSet_contains (a0 a1 : AV) (H : AH) (R : Kt) (h : F.pstrings_asciiSet_contains E Tryz.prog a0 a1 H R) : ACalls E Tryz.prog 14 [a0, a1] H R :=
  acalls_of_body (show Tryz.prog.funcs[E.fn 14]? = some Tryz.f109 from Tryz.func109) (by kernel_rfl) ((b_pstrings_asciiSet_contains a0 a1 H R).mpr h)
end Go.Proofs.YtldomhanfhfonaaGreatDoor
