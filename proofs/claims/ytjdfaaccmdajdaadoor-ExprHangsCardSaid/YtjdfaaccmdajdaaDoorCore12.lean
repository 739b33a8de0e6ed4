/- CONTRACTS: at which times of a word a formula holds: lasso.holds. DECODING: words and steps. (of the seat YtjdfaaccmdajdaaDoor) -/
import Derived.Test.YtjdfaaccmdajdaaDoorCore11
namespace Go.Sc
open Go
set_option linter.unusedSimpArgs false
set_option linter.unusedVariables false

theorem map_get {l : List Bool} {i : Nat} (h : i < l.length) : (l.map fun b => Bo b)[i]? = some (Bo (l.getD i false)) := by
  simp [List.getD, List.getElem?_eq_getElem h]

/-! ### words -/
def Wd.next (w : Wd) (i : Nat) : Nat := if i + 1 = w.n then w.ahead.length else i + 1
def Wd.at (w : Wd) (i : Nat) : List Str := if i < w.ahead.length then w.ahead.getD i [] else w.round.getD (i - w.ahead.length) []
def Wd.it (w : Wd) : Nat → Nat → Nat
  | 0, i => i
  | k + 1, i => Wd.it w k (w.next i)
/-- what a formula says of a time, out of what its parts say -/
def comb (w : Wd) (k : Int) (s : Str) (ps : List (Nat → Prop)) (i : Nat) : Prop :=
  if k = 1 then s ∈ w.at i
  else if k = 2 then True
  else if k = 3 then ¬ ps.getD 0 (fun _ => False) i
  else if k = 4 then ps.getD 0 (fun _ => False) i ∧ ps.getD 1 (fun _ => False) i
  else if k = 5 then ps.getD 0 (fun _ => False) i ∨ ps.getD 1 (fun _ => False) i
  else if k = 6 then ps.getD 0 (fun _ => False) (w.next i)
  else if k = 7 then ∃ n, ps.getD 1 (fun _ => False) (w.it n i) ∧ ∀ j, j < n → ps.getD 0 (fun _ => False) (w.it j i)
  else if k = 8 then ∀ n, ps.getD 1 (fun _ => False) (w.it n i) ∨ ∃ j, j < n ∧ ps.getD 0 (fun _ => False) (w.it j i)
  else if k = 9 then ∃ n, ps.getD 0 (fun _ => False) (w.it n i)
  else if k = 10 then ∀ n, ps.getD 0 (fun _ => False) (w.it n i)
  else False
mutual
def sat (w : Wd) : Fm → Nat → Prop
  | .nil => fun _ => False
  | .mk k s of => comb w k s (satL w of)
def satL (w : Wd) : List Fm → List (Nat → Prop)
  | [] => []
  | f :: l => sat w f :: satL w l
end
open Classical in
noncomputable def holdsL (w : Wd) (f : Fm) : List Bool := (List.range w.n).map fun i => decide (sat w f i)
theorem holdsL_len (w : Wd) (f : Fm) : (holdsL w f).length = w.n := by simp [holdsL]
theorem holdsL_get {w : Wd} {f : Fm} {i : Nat} (h : i < w.n) : (holdsL w f).getD i false = true ↔ sat w f i := by
  simp [holdsL, List.getD, h]
theorem Wd.next_lt {w : Wd} {i : Nat} (h0 : 0 < w.round.length) (h : i < w.n) : w.next i < w.n := by
  unfold Wd.next
  unfold Wd.n at *
  split <;> omega

section
variable {E : Env} {P : Program}
structure HoldBodies (E : Env) (P : Program) : Prop where
  l : LassoBodies E P
  holds : Body2 E P 33 F.lasso_holds
  nx : Body3 E P 36 F.lasso_holds_c1
  fix : Body5 E P 37 F.lasso_holds_c2
  un : Body3 E P 38 F.lasso_holds_c3
  re : Body3 E P 39 F.lasso_holds_c4
  ev : Body3 E P 40 F.lasso_holds_c5
  al : Body3 E P 41 F.lasso_holds_c6

theorem next_spec (B : HoldBodies E P) (w : Wd) (i : Nat) (hi : i < w.n) (hn : w.n ≤ 60) : FX E P 36 [Z i, .ptrF [Z w.n] 0, .ptrF [LL w.ahead, LL w.round] 0] (Z (w.next i)) := by
  refine FX.of' (by simp [AV.closedL, AV.closed, LL_closed]) (by simp [AV.closed]) fun m R hR => B.nx _ _ _ _ _ ?_
  unfold F.lasso_holds_c1 LL
  rw [binA_succ (by omega)]
  simp only [nd0, Y1n, Y1o, Y1p, Y1q, Y1w, Y1x, Y1y, Y1z, Y20, Y21, Y28, Y2a, AV.cells?, Nat.reduceAdd, Nat.reduceMul]
  by_cases h : i + 1 = w.n
  · simp only [nd0, Y1n, Y1o, Y1p, Y1q, Y1w, Y1x, Y1y, Y1z, Y20, Y21, Y28, Y2a, AV.cells?, Nat.reduceAdd, Nat.reduceMul, decide_eq_true (show (((i + 1 : Nat) : Int) = (w.n : Int)) by omega)]
    exact hR _ _ (by simp [Wd.next, h])
  · simp only [nd0, Y1n, Y1o, Y1p, Y1q, Y1w, Y1x, Y1y, Y1z, Y20, Y21, Y28, Y2a, AV.cells?, Nat.reduceAdd, Nat.reduceMul, decide_eq_false (show ¬ (((i + 1 : Nat) : Int) = (w.n : Int)) by omega)]
    exact hR _ _ (by simp [Wd.next, h])

section
variable (B : HoldBodies E P) (i : Nat) (x : Bool) (l0 l1 : List Bool)
include B
theorem un_spec (h0 : i < l0.length) (h1 : i < l1.length) : FX E P 38 [Z i, Bo x, .ptrF [.slN [LB l0, LB l1] 2] 0] (Bo (l1.getD i false || (l0.getD i false && x))) := by
  refine FX.of' (by simp [AV.closedL, AV.closed, LB_closed]) (by simp [AV.closed]) fun m R hR => B.un _ _ _ _ _ ?_
  unfold F.lasso_holds_c3
  simp only [nd0, Y1n, Y1o, Y1p, Y1q, Y1w, Y1x, Y1y, Y1z, Y20, Y21, Y28, Y2a, AV.cells?, Nat.reduceAdd, Nat.reduceMul]
  rw [iaddr_N (by omega)]
  simp only [nd0, Y1n, Y1o, Y1p, Y1q, Y1w, Y1x, Y1y, Y1z, Y20, Y21, Y28, Y2a, AV.cells?, Nat.reduceAdd, Nat.reduceMul, show (1 : Int).toNat = 1 from rfl, LB]
  rw [iaddr_Nn h1]
  simp only [nd0, Y1n, Y1o, Y1p, Y1q, Y1w, Y1x, Y1y, Y1z, Y20, Y21, Y28, Y2a, AV.cells?, Nat.reduceAdd, Nat.reduceMul, map_get h1]
  cases ha : l1.getD i false with
  | true =>
    simp only [nd0, Y1n, Y1o, Y1p, Y1q, Y1w, Y1x, Y1y, Y1z, Y20, Y21, Y28, Y2a, AV.cells?, Nat.reduceAdd, Nat.reduceMul]
    exact hR _ _ (by rw [ha]; simp)
  | false =>
    simp only [nd0, Y1n, Y1o, Y1p, Y1q, Y1w, Y1x, Y1y, Y1z, Y20, Y21, Y28, Y2a, AV.cells?, Nat.reduceAdd, Nat.reduceMul]
    rw [iaddr_N (by omega)]
    simp only [nd0, Y1n, Y1o, Y1p, Y1q, Y1w, Y1x, Y1y, Y1z, Y20, Y21, Y28, Y2a, AV.cells?, Nat.reduceAdd, Nat.reduceMul, show (0 : Int).toNat = 0 from rfl, LB]
    rw [iaddr_Nn h0]
    simp only [nd0, Y1n, Y1o, Y1p, Y1q, Y1w, Y1x, Y1y, Y1z, Y20, Y21, Y28, Y2a, AV.cells?, Nat.reduceAdd, Nat.reduceMul, map_get h0]
    cases hb : l0.getD i false with
    | true => simp only [nd0, Y1n, Y1o, Y1p, Y1q, Y1w, Y1x, Y1y, Y1z, Y20, Y21, Y28, Y2a, AV.cells?, Nat.reduceAdd, Nat.reduceMul]; exact hR _ _ (by rw [ha, hb]; simp)
    | false => simp only [nd0, Y1n, Y1o, Y1p, Y1q, Y1w, Y1x, Y1y, Y1z, Y20, Y21, Y28, Y2a, AV.cells?, Nat.reduceAdd, Nat.reduceMul]; exact hR _ _ (by rw [ha, hb]; simp)
theorem re_spec (h0 : i < l0.length) (h1 : i < l1.length) : FX E P 39 [Z i, Bo x, .ptrF [.slN [LB l0, LB l1] 2] 0] (Bo (l1.getD i false && (l0.getD i false || x))) := by
  refine FX.of' (by simp [AV.closedL, AV.closed, LB_closed]) (by simp [AV.closed]) fun m R hR => B.re _ _ _ _ _ ?_
  unfold F.lasso_holds_c4
  simp only [nd0, Y1n, Y1o, Y1p, Y1q, Y1w, Y1x, Y1y, Y1z, Y20, Y21, Y28, Y2a, AV.cells?, Nat.reduceAdd, Nat.reduceMul]
  rw [iaddr_N (by omega)]
  simp only [nd0, Y1n, Y1o, Y1p, Y1q, Y1w, Y1x, Y1y, Y1z, Y20, Y21, Y28, Y2a, AV.cells?, Nat.reduceAdd, Nat.reduceMul, show (1 : Int).toNat = 1 from rfl, LB]
  rw [iaddr_Nn h1]
  simp only [nd0, Y1n, Y1o, Y1p, Y1q, Y1w, Y1x, Y1y, Y1z, Y20, Y21, Y28, Y2a, AV.cells?, Nat.reduceAdd, Nat.reduceMul, map_get h1]
  cases ha : l1.getD i false with
  | false =>
    simp only [nd0, Y1n, Y1o, Y1p, Y1q, Y1w, Y1x, Y1y, Y1z, Y20, Y21, Y28, Y2a, AV.cells?, Nat.reduceAdd, Nat.reduceMul]
    exact hR _ _ (by rw [ha]; simp)
  | true =>
    simp only [nd0, Y1n, Y1o, Y1p, Y1q, Y1w, Y1x, Y1y, Y1z, Y20, Y21, Y28, Y2a, AV.cells?, Nat.reduceAdd, Nat.reduceMul]
    rw [iaddr_N (by omega)]
    simp only [nd0, Y1n, Y1o, Y1p, Y1q, Y1w, Y1x, Y1y, Y1z, Y20, Y21, Y28, Y2a, AV.cells?, Nat.reduceAdd, Nat.reduceMul, show (0 : Int).toNat = 0 from rfl, LB]
    rw [iaddr_Nn h0]
    simp only [nd0, Y1n, Y1o, Y1p, Y1q, Y1w, Y1x, Y1y, Y1z, Y20, Y21, Y28, Y2a, AV.cells?, Nat.reduceAdd, Nat.reduceMul, map_get h0]
    cases hb : l0.getD i false with
    | true => simp only [nd0, Y1n, Y1o, Y1p, Y1q, Y1w, Y1x, Y1y, Y1z, Y20, Y21, Y28, Y2a, AV.cells?, Nat.reduceAdd, Nat.reduceMul]; exact hR _ _ (by rw [ha, hb]; simp)
    | false => simp only [nd0, Y1n, Y1o, Y1p, Y1q, Y1w, Y1x, Y1y, Y1z, Y20, Y21, Y28, Y2a, AV.cells?, Nat.reduceAdd, Nat.reduceMul]; exact hR _ _ (by rw [ha, hb]; simp)
theorem ev_spec (h0 : i < l0.length) : FX E P 40 [Z i, Bo x, .ptrF [.slN [LB l0] 1] 0] (Bo (l0.getD i false || x)) := by
  refine FX.of' (by simp [AV.closedL, AV.closed, LB_closed]) (by simp [AV.closed]) fun m R hR => B.ev _ _ _ _ _ ?_
  unfold F.lasso_holds_c5
  simp only [nd0, Y1n, Y1o, Y1p, Y1q, Y1w, Y1x, Y1y, Y1z, Y20, Y21, Y28, Y2a, AV.cells?, Nat.reduceAdd, Nat.reduceMul]
  rw [iaddr_N (by omega)]
  simp only [nd0, Y1n, Y1o, Y1p, Y1q, Y1w, Y1x, Y1y, Y1z, Y20, Y21, Y28, Y2a, AV.cells?, Nat.reduceAdd, Nat.reduceMul, show (0 : Int).toNat = 0 from rfl, LB]
  rw [iaddr_Nn h0]
  simp only [nd0, Y1n, Y1o, Y1p, Y1q, Y1w, Y1x, Y1y, Y1z, Y20, Y21, Y28, Y2a, AV.cells?, Nat.reduceAdd, Nat.reduceMul, map_get h0]
  cases hb : l0.getD i false with
  | true => simp only [nd0, Y1n, Y1o, Y1p, Y1q, Y1w, Y1x, Y1y, Y1z, Y20, Y21, Y28, Y2a, AV.cells?, Nat.reduceAdd, Nat.reduceMul]; exact hR _ _ (by rw [hb]; simp)
  | false => simp only [nd0, Y1n, Y1o, Y1p, Y1q, Y1w, Y1x, Y1y, Y1z, Y20, Y21, Y28, Y2a, AV.cells?, Nat.reduceAdd, Nat.reduceMul]; exact hR _ _ (by rw [hb]; simp)
theorem al_spec (h0 : i < l0.length) : FX E P 41 [Z i, Bo x, .ptrF [.slN [LB l0] 1] 0] (Bo (l0.getD i false && x)) := by
  refine FX.of' (by simp [AV.closedL, AV.closed, LB_closed]) (by simp [AV.closed]) fun m R hR => B.al _ _ _ _ _ ?_
  unfold F.lasso_holds_c6
  simp only [nd0, Y1n, Y1o, Y1p, Y1q, Y1w, Y1x, Y1y, Y1z, Y20, Y21, Y28, Y2a, AV.cells?, Nat.reduceAdd, Nat.reduceMul]
  rw [iaddr_N (by omega)]
  simp only [nd0, Y1n, Y1o, Y1p, Y1q, Y1w, Y1x, Y1y, Y1z, Y20, Y21, Y28, Y2a, AV.cells?, Nat.reduceAdd, Nat.reduceMul, show (0 : Int).toNat = 0 from rfl, LB]
  rw [iaddr_Nn h0]
  simp only [nd0, Y1n, Y1o, Y1p, Y1q, Y1w, Y1x, Y1y, Y1z, Y20, Y21, Y28, Y2a, AV.cells?, Nat.reduceAdd, Nat.reduceMul, map_get h0]
  cases hb : l0.getD i false with
  | true => simp only [nd0, Y1n, Y1o, Y1p, Y1q, Y1w, Y1x, Y1y, Y1z, Y20, Y21, Y28, Y2a, AV.cells?, Nat.reduceAdd, Nat.reduceMul]; exact hR _ _ (by rw [hb]; simp)
  | false => simp only [nd0, Y1n, Y1o, Y1p, Y1q, Y1w, Y1x, Y1y, Y1z, Y20, Y21, Y28, Y2a, AV.cells?, Nat.reduceAdd, Nat.reduceMul]; exact hR _ _ (by rw [hb]; simp)
end

/-! ### the fixed point -/
def HP (n g0 g1 g2 g3 g4 : Nat) (bs : List Bool) (W t : AV) (z : Blk) (c : Nat) : AH :=
  ⟨[.cells g0 1 [Z n], .cells g1 1 (bs.map fun b => Bo b), .cells g2 1 [.slL 1 0 n g1], .cells g3 1 [.fn 36 [] [.ptrL 0 0 g0, W]], .cells g4 1 [t], z], c⟩
def nw (nowF : Nat → Bool → Bool) (start : Bool) (i : Nat) (x : Bool) : Bool := nowF i (x != start) != start
def Inv (w : Wd) (nowF : Nat → Bool → Bool) (start : Bool) (o : List Bool) : Prop :=
  (∀ i, i < w.n → o.getD i false = true → nw nowF start i (o.getD (w.next i) false) = true) ∧
  ∀ Q : Nat → Prop, (∀ i, i < w.n → ∀ x, (x = true → Q (w.next i)) → nw nowF start i x = true → Q i) → ∀ i, i < w.n → o.getD i false = true → Q i
def Fixd (w : Wd) (nowF : Nat → Bool → Bool) (start : Bool) (j : Nat) (o : List Bool) : Prop := ∀ a, j ≤ a → a < w.n → nw nowF start a (o.getD (w.next a) false) = o.getD a false
theorem xor_get {o : List Bool} {start : Bool} {i : Nat} (h : i < o.length) : ((o.map fun b => b != start).map fun b => Bo b)[i]? = some (Bo (o.getD i false != start)) := by
  simp [List.getD, List.getElem?_eq_getElem h]
theorem getD_set {o : List Bool} {i j : Nat} (h : i < o.length) : (o.set i true).getD j false = if i = j then true else o.getD j false := by
  simp only [List.getD, List.getElem?_set]
  by_cases hij : i = j
  · subst hij; simp [h]
  · simp [hij]
theorem Inv.set {w : Wd} {nowF : Nat → Bool → Bool} {start : Bool} {o : List Bool} (hm : ∀ i, i < w.n → nw nowF start i false = true → nw nowF start i true = true) (h : Inv w nowF start o) (hl : o.length = w.n) {j : Nat} (hj : j < w.n)
    (hy : nw nowF start j (o.getD (w.next j) false) = true) : Inv w nowF start (o.set j true) := by
  have up : ∀ i, i < w.n → nw nowF start i (o.getD (w.next i) false) = true → nw nowF start i ((o.set j true).getD (w.next i) false) = true := by
    intro i hi h1
    rw [getD_set (by omega)]
    split
    · cases hx : o.getD (w.next i) false with
      | true => rw [hx] at h1; exact h1
      | false => rw [hx] at h1; exact hm i hi h1
    · exact h1
  refine ⟨fun i hi h1 => ?_, fun Q hQ i hi h1 => ?_⟩
  · rw [getD_set (by omega)] at h1
    split at h1
    · rename_i e; subst e; exact up _ hi hy
    · exact up _ hi (h.1 i hi h1)
  · rw [getD_set (by omega)] at h1
    split at h1
    · rename_i e
      subst e
      refine hQ j hj (o.getD (w.next j) false) (fun h2 => ?_) hy
      by_cases hn : w.next j < w.n
      · exact h.2 Q hQ _ hn h2
      · simp [List.getD, List.getElem?_eq_none (show o.length ≤ w.next j by omega)] at h2
    · exact h.2 Q hQ i hi h1
theorem count_set {o : List Bool} {j : Nat} (h : j < o.length) (hf : o.getD j false = false) : (o.set j true).count true = o.count true + 1 := by
  have : o[j] = false := by simpa [List.getD, List.getElem?_eq_getElem h] using hf
  rw [List.count_set h, this]
  simp

set_option maxHeartbeats 1000000 in
theorem fix_spec (B : HoldBodies E P) {w : Wd} (h0 : 0 < w.round.length) (hn : w.n ≤ 60) {k : Nat} {start : Bool} {nowF : Nat → Bool → Bool} {t ofsl : AV} (hof : Sub t ofsl) (hnow : ∀ i x, i < w.n → FX E P k [Z i, Bo x, .ptrF [ofsl] 0] (Bo (nowF i x)))
    (hmono : ∀ i, i < w.n → nowF i false = true → nowF i true = true) {g0 g1 g2 g3 g4 c : Nat} {z : Blk} {bs : List Bool} (hbs : bs.length = w.n) :
    ACalls E P 37 [Bo start, .fn k [] [.ptrL 4 0 g4], .ptrL 2 0 g2, .ptrL 0 0 g0, .ptrL 3 0 g3] (HP w.n g0 g1 g2 g3 g4 bs (.ptrF [LL w.ahead, LL w.round] 0) t z c)
      fun r H' => ∃ o c', r = .tup [] ∧ H' = HP w.n g0 g1 g2 g3 g4 (o.map fun b => b != start) (.ptrF [LL w.ahead, LL w.round] 0) t z c' ∧ o.length = w.n ∧ Inv w nowF start o ∧ Fixd w nowF start 0 o := by
  have hm : ∀ i, i < w.n → nw nowF start i false = true → nw nowF start i true = true := by
    intro i hi
    have := hmono i hi
    unfold nw
    cases start <;> cases h1 : nowF i true <;> cases h2 : nowF i false <;> simp_all
  have hnpos : 0 < w.n := by unfold Wd.n; omega
  refine B.fix _ _ _ _ _ _ _ ?_
  unfold F.lasso_holds_c2
  simp only [HP]
  simp only [nd0, Y1n, Y1o, Y1p, Y1q, Y1w, Y1x, Y1y, Y1z, Y20, Y21, Y28, Y2a, AV.cells?, Nat.reduceAdd, Nat.reduceMul]
  refine wLoop.one (fun m i H => ∃ (j : Nat) (l : List Bool) (c' : Nat), i = Z j ∧ j ≤ w.n ∧ m = w.n - j ∧ H = HP w.n g0 g1 g2 g3 g4 l (.ptrF [LL w.ahead, LL w.round] 0) t z c' ∧ l.length = w.n ∧ ∀ a, a < j → l.getD a false = start) w.n (gh1.mk ⟨0, bs, c, rfl, by omega, by omega, rfl, hbs, by simp⟩) ?_
  rintro m i H ⟨j, l, c', rfl, hj, rfl, rfl, hl, hst⟩
  simp only [HP]
  by_cases hlt : j < w.n
  · simp only [nd0, Y1n, Y1o, Y1p, Y1q, Y1w, Y1x, Y1y, Y1z, Y20, Y21, Y28, Y2a, AV.cells?, Nat.reduceAdd, Nat.reduceMul, decide_eq_true (show (j : Int) < (w.n : Int) by omega)]
    rw [iaddr_Ln hlt]
    simp only [nd0, Y1n, Y1o, Y1p, Y1q, Y1w, Y1x, Y1y, Y1z, Y20, Y21, Y28, Y2a, AV.cells?, Nat.reduceAdd, Nat.reduceMul]
    rw [store1_L rfl]
    simp only [nd0, Y1n, Y1o, Y1p, Y1q, Y1w, Y1x, Y1y, Y1z, Y20, Y21, Y28, Y2a, AV.cells?, Nat.reduceAdd, Nat.reduceMul, List.length_map, hl, if_pos hlt]
    rw [binA_succ (by omega)]
    simp only [nd0, Y1n, Y1o, Y1p, Y1q, Y1w, Y1x, Y1y, Y1z, Y20, Y21, Y28, Y2a, AV.cells?, Nat.reduceAdd, Nat.reduceMul]
    refine back1.mk (w.n - (j + 1)) (by omega) ⟨j + 1, l.set j start, c', rfl, by omega, rfl, by simp [HP, List.map_set], by simp [hl], fun a ha => ?_⟩
    simp only [List.getD, List.getElem?_set]
    by_cases hja : j = a
    · subst hja; simp [hl, hlt]
    · simp only [hja, if_false]
      exact hst a (by omega)
  have hjn : j = w.n := by omega
  subst hjn
  simp only [nd0, Y1n, Y1o, Y1p, Y1q, Y1w, Y1x, Y1y, Y1z, Y20, Y21, Y28, Y2a, AV.cells?, Nat.reduceAdd, Nat.reduceMul, Int.lt_irrefl]
  have hlr : l = (List.replicate w.n false).map fun b => b != start := by
    refine List.ext_getElem (by simp [hl]) fun a h1 h2 => ?_
    have := hst a (by omega)
    simp [List.getD, List.getElem?_eq_getElem h1] at this
    simp [this]
  subst hlr
  refine wLoop.one (fun m x H => ∃ o c' b, x = Bo b ∧ H = HP w.n g0 g1 g2 g3 g4 (o.map fun b => b != start) (.ptrF [LL w.ahead, LL w.round] 0) t z c' ∧ o.length = w.n ∧ Inv w nowF start o ∧ (b = false → Fixd w nowF start 0 o) ∧ m = if b = true then w.n + 1 - o.count true else 0) (w.n + 1)
    (gh1.mk ⟨List.replicate w.n false, c', true, rfl, rfl, by simp, ⟨fun i hi h => by simp [List.getD, hi] at h, fun Q _ i hi h => by simp [List.getD, hi] at h⟩, fun h => by simp at h, by simp [List.count_replicate]⟩) ?_
  rintro m x H ⟨o0, c0, b0, rfl, rfl, hl0, hI0, hF0, rfl⟩
  simp only [HP]
  refine wIf.bool (fun hb => ?_) fun hb => ?_
  case refine_2 => exact ⟨o0, c0, trivial, rfl, hl0, hI0, hF0 hb⟩
  subst hb
  simp only [nd0, Y1n, Y1o, Y1p, Y1q, Y1w, Y1x, Y1y, Y1z, Y20, Y21, Y28, Y2a, AV.cells?, Nat.reduceAdd, Nat.reduceMul]
  rw [binA_sub (by omega)]
  simp only [nd0, Y1n, Y1o, Y1p, Y1q, Y1w, Y1x, Y1y, Y1z, Y20, Y21, Y28, Y2a, AV.cells?, Nat.reduceAdd, Nat.reduceMul]
  refine wLoop.two (fun m x i H => ∃ o c' b, ∃ j : Nat, x = Bo b ∧ i = .val (.int .i64 ((j : Int) - 1)) ∧ m = j ∧ j ≤ w.n ∧ H = HP w.n g0 g1 g2 g3 g4 (o.map fun b => b != start) (.ptrF [LL w.ahead, LL w.round] 0) t z c' ∧ o.length = w.n ∧ Inv w nowF start o ∧ (b = false → Fixd w nowF start j o) ∧ o0.count true ≤ o.count true ∧ (b = true → o0.count true < o.count true)) w.n
    (gh2.mk ⟨o0, c0, false, w.n, rfl, rfl, rfl, by omega, rfl, hl0, hI0, fun _ a h1 h2 => by omega, Nat.le_refl _, fun h => by simp at h⟩) ?_
  rintro m x i H ⟨o, c1, b, j, rfl, rfl, rfl, hj, rfl, hlo, hI, hF, hC0, hC⟩
  simp only [HP]
  cases m with
  | zero =>
    simp only [nd0, Y1n, Y1o, Y1p, Y1q, Y1w, Y1x, Y1y, Y1z, Y20, Y21, Y28, Y2a, AV.cells?, Nat.reduceAdd, Nat.reduceMul, show ((0 : Nat) : Int) - 1 = -1 from rfl, show ¬ ((0 : Int) ≤ -1) by omega]
    refine back1.mk (if b = true then w.n + 1 - o.count true else 0) ?_ ⟨o, c1, b, rfl, rfl, hlo, hI, hF, rfl⟩
    have hle : o.count true ≤ o.length := List.count_le_length
    have hle0 : o0.count true ≤ o0.length := List.count_le_length
    cases b with
    | true => have := hC rfl; simp; omega
    | false => simp; omega
  | succ j =>
    have hjn : j < w.n := by omega
    simp only [nd0, Y1n, Y1o, Y1p, Y1q, Y1w, Y1x, Y1y, Y1z, Y20, Y21, Y28, Y2a, AV.cells?, Nat.reduceAdd, Nat.reduceMul, show (((j + 1 : Nat) : Int) - 1) = (j : Int) by omega, show ((0 : Int) ≤ (j : Int)) by omega]
    refine wJoin.one (fun x H => ∃ o c' b, x = Bo b ∧ H = HP w.n g0 g1 g2 g3 g4 (o.map fun b => b != start) (.ptrF [LL w.ahead, LL w.round] 0) t z c' ∧ o.length = w.n ∧ Inv w nowF start o ∧ (b = false → Fixd w nowF start j o) ∧ o0.count true ≤ o.count true ∧ (b = true → o0.count true < o.count true)) ?_ ?_
    · refine wCallV.bo (next_spec B w j hjn hn) (by simp [AV.flat]) (.cons (.same _) (.cons (Fk.ptrF 1 rfl rfl (.cons (.same _) .nil)) (.cons (.same _) .nil))) fun n1 => ?_
      have hnx := Wd.next_lt h0 hjn
      simp only [nd0, Y1n, Y1o, Y1p, Y1q, Y1w, Y1x, Y1y, Y1z, Y20, Y21, Y28, Y2a, AV.cells?, Nat.reduceAdd, Nat.reduceMul, and_self, true_and]
      rw [iaddr_Ln hnx]
      simp only [nd0, Y1n, Y1o, Y1p, Y1q, Y1w, Y1x, Y1y, Y1z, Y20, Y21, Y28, Y2a, AV.cells?, Nat.reduceAdd, Nat.reduceMul, xor_get (show w.next j < o.length by omega)]
      refine wCallV.bo (hnow j _ hjn) (by simp [AV.flat]) (.cons (.same _) (.cons (.same _) (.cons (Fk.ptrF 1 rfl rfl (.cons (.sub hof) .nil)) .nil))) fun n2 => ?_
      simp only [nd0, Y1n, Y1o, Y1p, Y1q, Y1w, Y1x, Y1y, Y1z, Y20, Y21, Y28, Y2a, AV.cells?, Nat.reduceAdd, Nat.reduceMul]
      rw [iaddr_Ln hjn]
      simp only [nd0, Y1n, Y1o, Y1p, Y1q, Y1w, Y1x, Y1y, Y1z, Y20, Y21, Y28, Y2a, AV.cells?, Nat.reduceAdd, Nat.reduceMul, xor_get (show j < o.length by omega)]
      generalize hy : nowF j (o.getD (w.next j) false != start) = y
      have hnwy : nw nowF start j (o.getD (w.next j) false) = (y != start) := by unfold nw; rw [hy]
      refine wIf.bool (fun hd => ?_) fun hd => ?_
      · -- it changes
        have hyd : (y != start) ≠ o.getD j false := by
          intro e
          rw [← e] at hd
          revert hd
          cases y <;> cases start <;> simp
        have hoj : o.getD j false = false := by
          cases h : o.getD j false with
          | false => rfl
          | true =>
            have := hI.1 j hjn h
            rw [hnwy] at this
            rw [h] at hyd
            exact absurd this hyd
        have hy1 : (y != start) = true := by
          rw [hoj] at hyd
          simpa using hyd
        rw [iaddr_Ln hjn]
        simp only [nd0, Y1n, Y1o, Y1p, Y1q, Y1w, Y1x, Y1y, Y1z, Y20, Y21, Y28, Y2a, AV.cells?, Nat.reduceAdd, Nat.reduceMul]
        rw [store1_L rfl]
        simp only [nd0, Y1n, Y1o, Y1p, Y1q, Y1w, Y1x, Y1y, Y1z, Y20, Y21, Y28, Y2a, AV.cells?, Nat.reduceAdd, Nat.reduceMul, List.length_map, hlo, if_pos hjn]
        refine gh1.mk ⟨o.set j true, n2, true, rfl, ?_, by simp [hlo], hI.set hm hlo hjn (by rw [hnwy]; exact hy1), fun h => by simp at h, ?_, fun _ => ?_⟩
        · have : Bo y = Bo (true != start) := by revert hy1; cases y <;> cases start <;> simp
          simp only [HP, this, List.map_set]
        · rw [count_set (by omega) hoj]; omega
        · rw [count_set (by omega) hoj]; omega
      · -- it stays
        have hyd : (y != start) = o.getD j false := by
          revert hd
          cases y <;> cases start <;> cases o.getD j false <;> simp
        refine gh1.mk ⟨o, n2, b, rfl, rfl, hlo, hI, fun hb a h1 h2 => ?_, hC0, hC⟩
        by_cases haj : a = j
        · subst haj; rw [hnwy, hyd]
        · exact hF hb a (by omega) h2
    · rintro x H ⟨o', c2, b', rfl, rfl, hlo', hI', hF', hC0', hC'⟩
      rw [binA_sub (by omega)]
      simp only [nd0, Y1n, Y1o, Y1p, Y1q, Y1w, Y1x, Y1y, Y1z, Y20, Y21, Y28, Y2a, AV.cells?, Nat.reduceAdd, Nat.reduceMul]
      exact back2.mk j (by omega) ⟨o', c2, b', j, rfl, rfl, rfl, by omega, rfl, hlo', hI', hF', hC0', hC'⟩

/-- the fewest of which so much holds -/
theorem lfp {w : Wd} (h0 : 0 < w.round.length) {A B : Nat → Prop} {nowF : Nat → Bool → Bool} {start : Bool} {o : List Bool} (hnw : ∀ i x, i < w.n → (nw nowF start i x = true ↔ A i ∨ (B i ∧ x = true))) (hI : Inv w nowF start o) (hF : Fixd w nowF start 0 o) :
    ∀ i, i < w.n → (o.getD i false = true ↔ ∃ n, A (w.it n i) ∧ ∀ j, j < n → B (w.it j i)) := by
  intro i hi
  constructor
  · intro h
    refine hI.2 (fun i => ∃ n, A (w.it n i) ∧ ∀ j, j < n → B (w.it j i)) (fun i hi x hx h => ?_) i hi h
    rcases (hnw i x hi).1 h with h | ⟨h, hx'⟩
    · exact ⟨0, h, by simp⟩
    · obtain ⟨n, h1, h2⟩ := hx hx'
      refine ⟨n + 1, h1, fun j hj => ?_⟩
      cases j with
      | zero => exact h
      | succ j => exact h2 j (by omega)
  · rintro ⟨n, h1, h2⟩
    induction n generalizing i with
    | zero =>
      rw [← hF i (by omega) hi, hnw i _ hi]
      exact .inl h1
    | succ n ih =>
      rw [← hF i (by omega) hi, hnw i _ hi]
      refine .inr ⟨h2 0 (by omega), ih _ (Wd.next_lt h0 hi) h1 fun j hj => h2 (j + 1) (by omega)⟩

theorem at_ahead {w : Wd} {j : Nat} (h : j < w.ahead.length) : w.ahead[j]? = some (w.at j) := by simp [Wd.at, h, List.getD, List.getElem?_eq_getElem h]
theorem at_round {w : Wd} {j : Nat} (h : ¬ j < w.ahead.length) (hj : j < w.n) : w.round[j - w.ahead.length]? = some (w.at j) := by
  have : j - w.ahead.length < w.round.length := by unfold Wd.n at hj; omega
  simp [Wd.at, h, List.getD, List.getElem?_eq_getElem this]
theorem at_sized {w : Wd} (hsz : w.sized) {j : Nat} (hj : j < w.n) : (w.at j).length < 140737488355328 := by
  refine hsz.2.2 _ ?_
  by_cases h : j < w.ahead.length
  · exact List.mem_append_left _ (List.mem_of_getElem? (at_ahead h))
  · exact List.mem_append_right _ (List.mem_of_getElem? (at_round h hj))
theorem two_of {α : Type} : ∀ {l : List α}, l.length = 2 → ∃ p q, l = [p, q]
  | [p, q], _ => ⟨p, q, rfl⟩

theorem rightL_zero {r : Fm → Int × Int} : ∀ {l : List Fm} {n : Int}, (rightL r l n).2 = 0 → ∀ x ∈ l, (r x).2 = 0
  | [], _, _, x, hx => by simp at hx
  | y :: l, n, h, x, hx => by
    unfold rightL at h
    split at h
    · rename_i h1
      rcases List.mem_cons.1 hx with rfl | hx
      · exact h1
      · exact rightL_zero h x hx
    · rename_i h1; exact absurd h h1
theorem right_mk {d : Nat} {k : Int} {s : Str} {of : List Fm} (h : (rightF (d + 1) (.mk k s of)).2 = 0) : 1 ≤ k ∧ k ≤ 10 ∧ (of.length : Int) = arity k ∧ ∀ x ∈ of, (rightF d x).2 = 0 := by
  unfold rightF at h
  split at h
  · simp at h
  · split at h
    · simp at h
    · rename_i h1 h2
      simp only [badKind, Bool.or_eq_true, decide_eq_true_eq, Bool.not_eq_true', decide_eq_false_iff_not, not_or, Bool.and_eq_true] at h1
      exact ⟨by omega, by omega, by omega, rightL_zero h⟩

def Fill (n g0 g1 g2 g3 g4 : Nat) (W t : AV) (z : Blk) (G : List Bool) (m : Nat) (i : AV) (H : AH) : Prop :=
  ∃ (j : Nat) (l : List Bool) (c' : Nat), i = Z j ∧ j ≤ n ∧ m = n - j ∧ H = HP n g0 g1 g2 g3 g4 l W t z c' ∧ l.length = n ∧ ∀ a, a < j → l.getD a false = G.getD a false
theorem Fill.start {n g0 g1 g2 g3 g4 : Nat} {W t : AV} {z : Blk} {G l : List Bool} {c : Nat} (hl : l.length = n) : Fill n g0 g1 g2 g3 g4 W t z G n (Z 0) (HP n g0 g1 g2 g3 g4 l W t z c) := ⟨0, l, c, rfl, by omega, by omega, rfl, hl, by simp⟩
theorem Fill.step {n g0 g1 g2 g3 g4 : Nat} {W t : AV} {z : Blk} {G l : List Bool} {c j : Nat} (hl : l.length = n) (hj : j < n) (hG : ∀ a, a < j → l.getD a false = G.getD a false) {b : Bool} (hb : b = G.getD j false) :
    Fill n g0 g1 g2 g3 g4 W t z G (n - (j + 1)) (Z ((j + 1 : Nat) : Int)) (HP n g0 g1 g2 g3 g4 (l.set j b) W t z c) := by
  refine ⟨j + 1, l.set j b, c, rfl, by omega, rfl, rfl, by simp [hl], fun a ha => ?_⟩
  simp only [List.getD, List.getElem?_set]
  by_cases hja : j = a
  · subst hja; simpa [hl, hj] using hb
  · simp only [hja, if_false]
    exact hG a (by omega)
theorem fill_done {n : Nat} {G l : List Bool} (hl : l.length = n) (hg : G.length = n) (h : ∀ a, a < n → l.getD a false = G.getD a false) : l = G := by
  refine List.ext_getElem (by omega) fun a h1 h2 => ?_
  have := h a (by omega)
  simpa [List.getD, List.getElem?_eq_getElem h1, List.getElem?_eq_getElem h2] using this
theorem holds_eq {w : Wd} {f : Fm} {i : Nat} (hi : i < w.n) {b : Bool} (h : b = true ↔ sat w f i) : b = (holdsL w f).getD i false := by
  have := holdsL_get (f := f) hi
  cases b <;> cases hx : (holdsL w f).getD i false <;> simp_all

theorem holds_spec (B : HoldBodies E P) (w : Wd) (h0 : 0 < w.round.length) (hn : w.n ≤ 60) (hsz : w.sized) : ∀ (d : Nat) (f : Fm), (rightF d f).2 = 0 → FX E P 33 [w.enc, f.enc] (LB (holdsL w f)) := by
  intro d
  induction d with
  | zero =>
    intro f hf
    cases f <;> simp [rightF] at hf
  | succ d ih =>
    intro f hf
    cases f with
    | nil => simp [rightF] at hf
    | mk k s of =>
    obtain ⟨hk1, hk2, har, hof⟩ := right_mk hf
    refine FX.of (by simp [AV.closedL, Wd.closed, Fm.closed]) (LB_closed _) fun n R hR => B.holds _ _ _ _ ?_
    unfold F.lasso_holds Wd.enc
    rw [Fm.enc_mk]
    refine wNew.F' (l := [LL w.ahead, LL w.round]) rfl ?_
    simp only [nd0, Y1n, Y1o, Y1p, Y1q, Y1w, Y1x, Y1y, Y1z, Y20, Y21, Y28, Y2a, AV.cells?, Nat.reduceAdd, Nat.reduceMul, LL]
    have hnn : ((w.ahead.length : Int) + w.round.length) = (w.n : Int) := by unfold Wd.n; omega
    rw [binA_add (by omega)]
    simp only [nd0, Y1n, Y1o, Y1p, Y1q, Y1w, Y1x, Y1y, Y1z, Y20, Y21, Y28, Y2a, AV.cells?, Nat.reduceAdd, Nat.reduceMul, hnn]
    refine wNew.L rfl ?_
    simp only [nd0, Y1n, Y1o, Y1p, Y1q, Y1w, Y1x, Y1y, Y1z, Y20, Y21, Y28, Y2a, AV.cells?, Nat.reduceAdd, Nat.reduceMul]
    rw [store1_L rfl]
    simp only [nd0, Y1n, Y1o, Y1p, Y1q, Y1w, Y1x, Y1y, Y1z, Y20, Y21, Y28, Y2a, AV.cells?, Nat.reduceAdd, Nat.reduceMul, Nat.reduceLT]
    refine wMake.L (makeA_n (by simp [mostBytes]; omega)) ?_
    simp only [nd0, Y1n, Y1o, Y1p, Y1q, Y1w, Y1x, Y1y, Y1z, Y20, Y21, Y28, Y2a, AV.cells?, Nat.reduceAdd, Nat.reduceMul]
    refine wNew.L rfl ?_
    simp only [nd0, Y1n, Y1o, Y1p, Y1q, Y1w, Y1x, Y1y, Y1z, Y20, Y21, Y28, Y2a, AV.cells?, Nat.reduceAdd, Nat.reduceMul]
    rw [store1_L rfl]
    simp only [nd0, Y1n, Y1o, Y1p, Y1q, Y1w, Y1x, Y1y, Y1z, Y20, Y21, Y28, Y2a, AV.cells?, Nat.reduceAdd, Nat.reduceMul, Nat.reduceLT]
    refine wNew.L rfl ?_
    simp only [nd0, Y1n, Y1o, Y1p, Y1q, Y1w, Y1x, Y1y, Y1z, Y20, Y21, Y28, Y2a, AV.cells?, Nat.reduceAdd, Nat.reduceMul]
    rw [store1_L rfl]
    simp only [nd0, Y1n, Y1o, Y1p, Y1q, Y1w, Y1x, Y1y, Y1z, Y20, Y21, Y28, Y2a, AV.cells?, Nat.reduceAdd, Nat.reduceMul, Nat.reduceLT]
    refine wNew.L rfl ?_
    simp only [nd0, Y1n, Y1o, Y1p, Y1q, Y1w, Y1x, Y1y, Y1z, Y20, Y21, Y28, Y2a, AV.cells?, Nat.reduceAdd, Nat.reduceMul]
    refine wLoop.one (fun m i H => ∃ (pre rest : List Fm) (t : AV) (z : Blk) (c : Nat), of = pre ++ rest ∧ i = Z pre.length ∧ m = rest.length ∧ H = HP w.n n (n + 1) (n + 1 + 1) (n + 1 + 1 + 1) (n + 1 + 1 + 1 + 1) (List.replicate w.n false) (.ptrF [LL w.ahead, LL w.round] 0) t z c ∧ Gr 1 z 5 t (pre.map fun x => LB (holdsL w x)) pre.length) of.length
      (gh1.of (ghost_room [.dead] (by simp)) ⟨[], of, nilS, .dead, n + 1 + 1 + 1 + 1 + 1, rfl, rfl, rfl, by simp [HP, LL], .nil⟩) ?_
    rintro m i H ⟨pre, rest, t, z, c, hofe, rfl, rfl, rfl, hg⟩
    simp only [HP]
    cases rest with
    | cons x rest =>
      subst hofe
      have h2 := (arity_le (k := k) (by omega) (by omega)).2
      have hpl : pre.length ≤ 2 := by simp at har; omega
      simp only [nd0, Y1n, Y1o, Y1p, Y1q, Y1w, Y1x, Y1y, Y1z, Y20, Y21, Y28, Y2a, AV.cells?, Nat.reduceAdd, Nat.reduceMul, decide_eq_true (show (pre.length : Int) < ((pre ++ x :: rest).length : Int) by simp; omega)]
      rw [iaddr_Nn lt_mid]
      simp only [nd0, Y1n, Y1o, Y1p, Y1q, Y1w, Y1x, Y1y, Y1z, Y20, Y21, Y28, Y2a, AV.cells?, Nat.reduceAdd, Nat.reduceMul, at_mid]
      refine wCall.fx (ih x (hof x (by simp))) fun n1 => ?_
      simp only [nd0, Y1n, Y1o, Y1p, Y1q, Y1w, Y1x, Y1y, Y1z, Y20, Y21, Y28, Y2a, AV.cells?, Nat.reduceAdd, Nat.reduceMul, and_self, true_and]
      refine wNewS.F' (l := [LB (holdsL w x)]) rfl rfl ?_
      simp only [nd0, Y1n, Y1o, Y1p, Y1q, Y1w, Y1x, Y1y, Y1z, Y20, Y21, Y28, Y2a, AV.cells?, Nat.reduceAdd, Nat.reduceMul, and_self, true_and]
      refine wApp.one (bytes := 24) hg rfl (by simp) (.refl _) (LB_scalar _) (by simp [mostBytes]; omega) fun z' x' c' hg' => ?_
      simp only [nd0, Y1n, Y1o, Y1p, Y1q, Y1w, Y1x, Y1y, Y1z, Y20, Y21, Y28, Y2a, AV.cells?, Nat.reduceAdd, Nat.reduceMul]
      rw [store1_L hg'.scalar]
      simp only [nd0, Y1n, Y1o, Y1p, Y1q, Y1w, Y1x, Y1y, Y1z, Y20, Y21, Y28, Y2a, AV.cells?, Nat.reduceAdd, Nat.reduceMul, Nat.reduceLT]
      rw [binA_succ (by omega)]
      simp only [nd0, Y1n, Y1o, Y1p, Y1q, Y1w, Y1x, Y1y, Y1z, Y20, Y21, Y28, Y2a, AV.cells?, Nat.reduceAdd, Nat.reduceMul]
      exact back1.mk rest.length (by simp) ⟨pre ++ [x], rest, x', z', c', by simp, by simp, rfl, rfl, by simpa using hg'⟩
    | nil =>
    rw [List.append_nil] at hofe
    subst hofe
    simp only [nd0, Y1n, Y1o, Y1p, Y1q, Y1w, Y1x, Y1y, Y1z, Y20, Y21, Y28, Y2a, AV.cells?, Nat.reduceAdd, Nat.reduceMul, Int.lt_irrefl]
    generalize hW : AV.ptrF [LL w.ahead, LL w.round] 0 = W
    refine wJoin.zero (fun H => ∃ c', H = HP w.n n (n + 1) (n + 1 + 1) (n + 1 + 1 + 1) (n + 1 + 1 + 1 + 1) (holdsL w (.mk k s of)) W t z c') ?_ ?_
    case refine_2 =>
      rintro H ⟨c', rfl⟩
      simp only [HP]
      simp only [nd0, Y1n, Y1o, Y1p, Y1q, Y1w, Y1x, Y1y, Y1z, Y20, Y21, Y28, Y2a, AV.cells?, Nat.reduceAdd, Nat.reduceMul]
      refine hR _ _ ?_
      have e : LB (holdsL w (.mk k s of)) = .slN ((holdsL w (.mk k s of)).map fun b => Bo b) w.n := by simp [LB, Lm, holdsL_len]
      rw [e]
      refine Fk.then (Fk.slF w.n rfl rfl ?_) .F'
      rw [List.drop_zero, List.take_of_length_le (by simp [holdsL_len])]
      exact FkL.same _
    have hend : ∀ l c', l.length = w.n → (∀ a, a < w.n → l.getD a false = (holdsL w (.mk k s of)).getD a false) → ∃ c2, HP w.n n (n + 1) (n + 1 + 1) (n + 1 + 1 + 1) (n + 1 + 1 + 1 + 1) l W t z c' = HP w.n n (n + 1) (n + 1 + 1) (n + 1 + 1 + 1) (n + 1 + 1 + 1 + 1) (holdsL w (.mk k s of)) W t z c2 :=
      fun l c' h1 h2 => ⟨c', by rw [fill_done h1 (holdsL_len _ _) h2]⟩
    have fixend : ∀ (A Bq : Nat → Prop) (nowF : Nat → Bool → Bool) (start : Bool), (∀ i x, i < w.n → (nw nowF start i x = true ↔ A i ∨ (Bq i ∧ x = true))) → (∀ i, i < w.n → (sat w (.mk k s of) i ↔ (if start then ¬ ∃ n, A (w.it n i) ∧ ∀ j, j < n → Bq (w.it j i) else ∃ n, A (w.it n i) ∧ ∀ j, j < n → Bq (w.it j i)))) →
        ∀ o c', o.length = w.n → Inv w nowF start o → Fixd w nowF start 0 o → ∃ c2, HP w.n n (n + 1) (n + 1 + 1) (n + 1 + 1 + 1) (n + 1 + 1 + 1 + 1) (o.map fun b => b != start) W t z c' = HP w.n n (n + 1) (n + 1 + 1) (n + 1 + 1 + 1) (n + 1 + 1 + 1 + 1) (holdsL w (.mk k s of)) W t z c2 := by
      intro A Bq nowF start hnw hsat o c' hlo hI hF
      refine hend _ c' (by simp [hlo]) fun a ha => holds_eq ha ?_
      have h1 := lfp h0 hnw hI hF a ha
      rw [hsat a ha]
      have e : (o.map fun b => b != start).getD a false = (o.getD a false != start) := by simp [List.getD, List.getElem?_eq_getElem (show a < o.length by omega)]
      rw [e]
      cases start with
      | false => simp only [Bool.bne_false]; simpa using h1
      | true => simp only [Bool.bne_true, Bool.not_eq_true']; rw [if_pos trivial, ← h1]; simp
    have hk : k = 1 ∨ k = 2 ∨ k = 3 ∨ k = 4 ∨ k = 5 ∨ k = 6 ∨ k = 7 ∨ k = 8 ∨ k = 9 ∨ k = 10 := by omega
    have hg1 := hg
    rcases hk with rfl | rfl | rfl | rfl | rfl | rfl | rfl | rfl | rfl | rfl
    · simp only [nd0, Y1n, Y1o, Y1p, Y1q, Y1w, Y1x, Y1y, Y1z, Y20, Y21, Y28, Y2a, AV.cells?, Nat.reduceAdd, Nat.reduceMul, Int.reduceEq]
      refine wLoop.one (fun m i H => ∃ (j : Nat) (l : List Bool) (c' : Nat), i = Z j ∧ j ≤ w.n ∧ m = w.n - j ∧ H = HP w.n n (n + 1) (n + 1 + 1) (n + 1 + 1 + 1) (n + 1 + 1 + 1 + 1) l W t z c' ∧ l.length = w.n ∧ (∀ a, a < j → l.getD a false = (holdsL w (.mk 1 s of)).getD a false) ∧ ∀ a, j ≤ a → l.getD a false = false) w.n
        (gh1.mk ⟨0, List.replicate w.n false, c, rfl, by omega, by omega, rfl, by simp, by simp, fun a _ => by simp only [List.getD, List.getElem?_replicate]; split <;> rfl⟩) ?_
      rintro m i H ⟨j, l, c', rfl, hj, rfl, rfl, hl, hG, hZ⟩
      simp only [HP]
      by_cases hlt : j < w.n
      case neg =>
        have : j = w.n := by omega
        subst this
        simp only [nd0, Y1n, Y1o, Y1p, Y1q, Y1w, Y1x, Y1y, Y1z, Y20, Y21, Y28, Y2a, AV.cells?, Nat.reduceAdd, Nat.reduceMul, Int.lt_irrefl]
        exact gh0.mk (hend _ _ hl hG)
      simp only [nd0, Y1n, Y1o, Y1p, Y1q, Y1w, Y1x, Y1y, Y1z, Y20, Y21, Y28, Y2a, AV.cells?, Nat.reduceAdd, Nat.reduceMul, decide_eq_true (show (j : Int) < (w.n : Int) by omega)]
      rw [binA_sub (by omega)]
      simp only [nd0, Y1n, Y1o, Y1p, Y1q, Y1w, Y1x, Y1y, Y1z, Y20, Y21, Y28, Y2a, AV.cells?, Nat.reduceAdd, Nat.reduceMul]
      refine wJoin.two (fun x0 x1 H => ∃ (L : List (List Str)) (idx : Nat), x0 = Lm LS L ∧ x1 = Z idx ∧ L[idx]? = some (w.at j) ∧ H = HP w.n n (n + 1) (n + 1 + 1) (n + 1 + 1 + 1) (n + 1 + 1 + 1 + 1) l W t z c') ?_ ?_
      · by_cases ha : j < w.ahead.length
        · simp only [nd0, Y1n, Y1o, Y1p, Y1q, Y1w, Y1x, Y1y, Y1z, Y20, Y21, Y28, Y2a, AV.cells?, Nat.reduceAdd, Nat.reduceMul, decide_eq_true (show ((j : Int) - w.ahead.length) < 0 by omega)]
          exact gh2.mk ⟨w.ahead, j, rfl, rfl, at_ahead ha, rfl⟩
        · simp only [nd0, Y1n, Y1o, Y1p, Y1q, Y1w, Y1x, Y1y, Y1z, Y20, Y21, Y28, Y2a, AV.cells?, Nat.reduceAdd, Nat.reduceMul, decide_eq_false (show ¬ ((j : Int) - w.ahead.length) < 0 by omega)]
          simp only [nd0, Y1n, Y1o, Y1p, Y1q, Y1w, Y1x, Y1y, Y1z, Y20, Y21, Y28, Y2a, AV.cells?, Nat.reduceAdd, Nat.reduceMul, show ((j : Int) - w.ahead.length) = ((j - w.ahead.length : Nat) : Int) by omega]
          exact gh2.mk ⟨w.round, _, rfl, rfl, at_round ha hlt, rfl⟩
      rintro x0 x1 H ⟨L, idx, rfl, rfl, hat, rfl⟩
      simp only [HP]
      rw [iaddr_Nn (lt_of_get hat)]
      simp only [nd0, Y1n, Y1o, Y1p, Y1q, Y1w, Y1x, Y1y, Y1z, Y20, Y21, Y28, Y2a, AV.cells?, Nat.reduceAdd, Nat.reduceMul, List.getElem?_map, hat, LS]
      have hsj := at_sized hsz hlt
      refine wLoop.one (fun m i H => ∃ (pr re : List Str) (l2 : List Bool) (c2 : Nat), w.at j = pr ++ re ∧ i = Z pr.length ∧ m = re.length ∧ H = HP w.n n (n + 1) (n + 1 + 1) (n + 1 + 1 + 1) (n + 1 + 1 + 1 + 1) l2 W t z c2 ∧ l2.length = w.n ∧ (∀ a, a < j → l2.getD a false = (holdsL w (.mk 1 s of)).getD a false) ∧ (∀ a, j < a → l2.getD a false = false) ∧ l2.getD j false = decide (s ∈ pr)) (w.at j).length
        (gh1.mk ⟨[], w.at j, l, c', rfl, rfl, rfl, rfl, hl, hG, fun a ha => hZ a (by omega), by simpa using hZ j (by omega)⟩) ?_
      rintro m i H ⟨pr, re, l2, c2, hre, rfl, rfl, rfl, hl2, hG2, hZ2, hv⟩
      simp only [HP]
      rw [hre]
      cases re with
      | nil =>
        simp only [nd0, Y1n, Y1o, Y1p, Y1q, Y1w, Y1x, Y1y, Y1z, Y20, Y21, Y28, Y2a, AV.cells?, Nat.reduceAdd, Nat.reduceMul, List.append_nil, Int.lt_irrefl]
        rw [List.append_nil] at hre
        rw [binA_succ (by omega)]
        simp only [nd0, Y1n, Y1o, Y1p, Y1q, Y1w, Y1x, Y1y, Y1z, Y20, Y21, Y28, Y2a, AV.cells?, Nat.reduceAdd, Nat.reduceMul]
        refine back1.mk (w.n - (j + 1)) (by omega) ⟨j + 1, l2, c2, rfl, by omega, rfl, rfl, hl2, fun a ha => ?_, fun a ha => hZ2 a (by omega)⟩
        by_cases haj : a = j
        · subst haj
          rw [hv]
          exact holds_eq hlt (by simp [sat, comb, hre])
        · exact hG2 a (by omega)
      | cons x re =>
        have hlen : (pr ++ x :: re).length < 140737488355328 := by rw [← hre]; exact hsj
        simp only [nd0, Y1n, Y1o, Y1p, Y1q, Y1w, Y1x, Y1y, Y1z, Y20, Y21, Y28, Y2a, AV.cells?, Nat.reduceAdd, Nat.reduceMul, decide_eq_true (show (pr.length : Int) < ((pr ++ x :: re).length : Int) by simp; omega)]
        rw [iaddr_Nn lt_mid]
        simp only [nd0, Y1n, Y1o, Y1p, Y1q, Y1w, Y1x, Y1y, Y1z, Y20, Y21, Y28, Y2a, AV.cells?, Nat.reduceAdd, Nat.reduceMul, at_mid]
        rw [iaddr_Ln hlt]
        simp only [nd0, Y1n, Y1o, Y1p, Y1q, Y1w, Y1x, Y1y, Y1z, Y20, Y21, Y28, Y2a, AV.cells?, Nat.reduceAdd, Nat.reduceMul, map_get (show j < l2.length by omega)]
        have upd : ∀ b : Bool, b = decide (s ∈ pr ++ [x]) → (l2.set j b).length = w.n ∧ (∀ a, a < j → (l2.set j b).getD a false = (holdsL w (.mk 1 s of)).getD a false) ∧ (∀ a, j < a → (l2.set j b).getD a false = false) ∧ (l2.set j b).getD j false = decide (s ∈ pr ++ [x]) := by
          intro b hb
          have hne : ∀ a, a ≠ j → (l2.set j b).getD a false = l2.getD a false := fun a ha => by simp [List.getD, List.getElem?_set_ne (Ne.symm ha)]
          refine ⟨by simp [hl2], fun a ha => ?_, fun a ha => ?_, ?_⟩
          · rw [hne a (by omega)]; exact hG2 a ha
          · rw [hne a (by omega)]; exact hZ2 a ha
          · rw [← hb]; simp [List.getD, hl2, hlt]
        cases hb : l2.getD j false with
        | true =>
          simp only [nd0, Y1n, Y1o, Y1p, Y1q, Y1w, Y1x, Y1y, Y1z, Y20, Y21, Y28, Y2a, AV.cells?, Nat.reduceAdd, Nat.reduceMul]
          rw [store1_L rfl]
          simp only [nd0, Y1n, Y1o, Y1p, Y1q, Y1w, Y1x, Y1y, Y1z, Y20, Y21, Y28, Y2a, AV.cells?, Nat.reduceAdd, Nat.reduceMul, List.length_map, hl2, if_pos hlt]
          rw [binA_succ (by simp at hlen; omega)]
          simp only [nd0, Y1n, Y1o, Y1p, Y1q, Y1w, Y1x, Y1y, Y1z, Y20, Y21, Y28, Y2a, AV.cells?, Nat.reduceAdd, Nat.reduceMul]
          rw [← List.map_set]
          obtain ⟨u1, u2, u3, u4⟩ := upd true (by rw [hb] at hv; simp only [List.mem_append, List.mem_singleton]; have := of_decide_eq_true hv.symm; simp [this])
          exact back1.mk re.length (by simp) ⟨pr ++ [x], re, _, c2, by simp, by simp, rfl, rfl, u1, u2, u3, u4⟩
        | false =>
          simp only [nd0, Y1n, Y1o, Y1p, Y1q, Y1w, Y1x, Y1y, Y1z, Y20, Y21, Y28, Y2a, AV.cells?, Nat.reduceAdd, Nat.reduceMul, binA_seq]
          rw [store1_L rfl]
          simp only [nd0, Y1n, Y1o, Y1p, Y1q, Y1w, Y1x, Y1y, Y1z, Y20, Y21, Y28, Y2a, AV.cells?, Nat.reduceAdd, Nat.reduceMul, List.length_map, hl2, if_pos hlt]
          rw [binA_succ (by simp at hlen; omega)]
          simp only [nd0, Y1n, Y1o, Y1p, Y1q, Y1w, Y1x, Y1y, Y1z, Y20, Y21, Y28, Y2a, AV.cells?, Nat.reduceAdd, Nat.reduceMul]
          rw [← List.map_set]
          obtain ⟨u1, u2, u3, u4⟩ := upd (decide (x = s)) (by rw [hb] at hv; have := of_decide_eq_false hv.symm; simp only [List.mem_append, List.mem_singleton, this, false_or]; exact decide_eq_decide.2 eq_comm)
          exact back1.mk re.length (by simp) ⟨pr ++ [x], re, _, c2, by simp, by simp, rfl, rfl, u1, u2, u3, u4⟩
    · simp only [nd0, Y1n, Y1o, Y1p, Y1q, Y1w, Y1x, Y1y, Y1z, Y20, Y21, Y28, Y2a, AV.cells?, Nat.reduceAdd, Nat.reduceMul, Int.reduceEq]
      refine wLoop.one (Fill w.n n (n + 1) (n + 1 + 1) (n + 1 + 1 + 1) (n + 1 + 1 + 1 + 1) W t z (holdsL w (.mk 2 s of))) w.n (gh1.mk (Fill.start (l := List.replicate w.n false) (by simp))) ?_
      rintro m i H ⟨j, l, c', rfl, hj, rfl, rfl, hl, hG⟩
      simp only [HP]
      by_cases hlt : j < w.n
      · simp only [nd0, Y1n, Y1o, Y1p, Y1q, Y1w, Y1x, Y1y, Y1z, Y20, Y21, Y28, Y2a, AV.cells?, Nat.reduceAdd, Nat.reduceMul, decide_eq_true (show (j : Int) < (w.n : Int) by omega)]
        rw [iaddr_Ln hlt]
        simp only [nd0, Y1n, Y1o, Y1p, Y1q, Y1w, Y1x, Y1y, Y1z, Y20, Y21, Y28, Y2a, AV.cells?, Nat.reduceAdd, Nat.reduceMul]
        rw [store1_L rfl]
        simp only [nd0, Y1n, Y1o, Y1p, Y1q, Y1w, Y1x, Y1y, Y1z, Y20, Y21, Y28, Y2a, AV.cells?, Nat.reduceAdd, Nat.reduceMul, List.length_map, hl, if_pos hlt]
        rw [binA_succ (by omega)]
        simp only [nd0, Y1n, Y1o, Y1p, Y1q, Y1w, Y1x, Y1y, Y1z, Y20, Y21, Y28, Y2a, AV.cells?, Nat.reduceAdd, Nat.reduceMul]
        rw [← List.map_set]
        exact back1.mk _ (by omega) (Fill.step hl hlt hG (holds_eq hlt (by simp [sat, comb])))
      · have : j = w.n := by omega
        subst this
        simp only [nd0, Y1n, Y1o, Y1p, Y1q, Y1w, Y1x, Y1y, Y1z, Y20, Y21, Y28, Y2a, AV.cells?, Nat.reduceAdd, Nat.reduceMul, Int.lt_irrefl]
        exact gh0.mk (hend _ _ hl hG)
    · obtain ⟨p, rfl⟩ : ∃ p, of = [p] := List.length_eq_one_iff.1 (by have : arity 3 = 1 := rfl; omega)
      simp only [nd0, Y1n, Y1o, Y1p, Y1q, Y1w, Y1x, Y1y, Y1z, Y20, Y21, Y28, Y2a, AV.cells?, Nat.reduceAdd, Nat.reduceMul, Int.reduceEq]
      refine wLoop.one (Fill w.n n (n + 1) (n + 1 + 1) (n + 1 + 1 + 1) (n + 1 + 1 + 1 + 1) W t z (holdsL w (.mk 3 s [p]))) w.n (gh1.mk (Fill.start (l := List.replicate w.n false) (by simp))) ?_
      rintro m i H ⟨j, l, c', rfl, hj, rfl, rfl, hl, hG⟩
      simp only [HP]
      by_cases hlt : j < w.n
      · simp only [nd0, Y1n, Y1o, Y1p, Y1q, Y1w, Y1x, Y1y, Y1z, Y20, Y21, Y28, Y2a, AV.cells?, Nat.reduceAdd, Nat.reduceMul, decide_eq_true (show (j : Int) < (w.n : Int) by omega)]
        rw [hg.at (by simp)]
        simp only [nd0, Y1n, Y1o, Y1p, Y1q, Y1w, Y1x, Y1y, Y1z, Y20, Y21, Y28, Y2a, AV.cells?, Nat.reduceAdd, Nat.reduceMul, List.map_cons, List.map_nil, show (0 : Int).toNat = 0 from rfl, LB]
        rw [iaddr_Nn (by rw [holdsL_len]; exact hlt)]
        simp only [nd0, Y1n, Y1o, Y1p, Y1q, Y1w, Y1x, Y1y, Y1z, Y20, Y21, Y28, Y2a, AV.cells?, Nat.reduceAdd, Nat.reduceMul, map_get (show j < (holdsL w p).length by rw [holdsL_len]; exact hlt)]
        rw [iaddr_Ln hlt]
        simp only [nd0, Y1n, Y1o, Y1p, Y1q, Y1w, Y1x, Y1y, Y1z, Y20, Y21, Y28, Y2a, AV.cells?, Nat.reduceAdd, Nat.reduceMul]
        rw [store1_L rfl]
        simp only [nd0, Y1n, Y1o, Y1p, Y1q, Y1w, Y1x, Y1y, Y1z, Y20, Y21, Y28, Y2a, AV.cells?, Nat.reduceAdd, Nat.reduceMul, List.length_map, hl, if_pos hlt]
        rw [binA_succ (by omega)]
        simp only [nd0, Y1n, Y1o, Y1p, Y1q, Y1w, Y1x, Y1y, Y1z, Y20, Y21, Y28, Y2a, AV.cells?, Nat.reduceAdd, Nat.reduceMul]
        rw [← List.map_set]
        exact back1.mk _ (by omega) (Fill.step hl hlt hG (holds_eq hlt (by rw [Bool.not_eq_true', ← Bool.not_eq_true, holdsL_get hlt]; simp [sat, satL, comb])))
      · have : j = w.n := by omega
        subst this
        simp only [nd0, Y1n, Y1o, Y1p, Y1q, Y1w, Y1x, Y1y, Y1z, Y20, Y21, Y28, Y2a, AV.cells?, Nat.reduceAdd, Nat.reduceMul, Int.lt_irrefl]
        exact gh0.mk (hend _ _ hl hG)
    · obtain ⟨p, q, rfl⟩ : ∃ p q, of = [p, q] := two_of (by have : arity 4 = 2 := rfl; omega)
      simp only [nd0, Y1n, Y1o, Y1p, Y1q, Y1w, Y1x, Y1y, Y1z, Y20, Y21, Y28, Y2a, AV.cells?, Nat.reduceAdd, Nat.reduceMul, Int.reduceEq]
      refine wLoop.one (Fill w.n n (n + 1) (n + 1 + 1) (n + 1 + 1 + 1) (n + 1 + 1 + 1 + 1) W t z (holdsL w (.mk 4 s [p, q]))) w.n (gh1.mk (Fill.start (l := List.replicate w.n false) (by simp))) ?_
      rintro m i H ⟨j, l, c', rfl, hj, rfl, rfl, hl, hG⟩
      simp only [HP]
      by_cases hlt : j < w.n
      case neg =>
        have : j = w.n := by omega
        subst this
        simp only [nd0, Y1n, Y1o, Y1p, Y1q, Y1w, Y1x, Y1y, Y1z, Y20, Y21, Y28, Y2a, AV.cells?, Nat.reduceAdd, Nat.reduceMul, Int.lt_irrefl]
        exact gh0.mk (hend _ _ hl hG)
      simp only [nd0, Y1n, Y1o, Y1p, Y1q, Y1w, Y1x, Y1y, Y1z, Y20, Y21, Y28, Y2a, AV.cells?, Nat.reduceAdd, Nat.reduceMul, decide_eq_true (show (j : Int) < (w.n : Int) by omega)]
      rw [hg.at (by simp)]
      simp only [nd0, Y1n, Y1o, Y1p, Y1q, Y1w, Y1x, Y1y, Y1z, Y20, Y21, Y28, Y2a, AV.cells?, Nat.reduceAdd, Nat.reduceMul, List.map_cons, List.map_nil, show (0 : Int).toNat = 0 from rfl, LB]
      rw [iaddr_Nn (by rw [holdsL_len]; exact hlt)]
      simp only [nd0, Y1n, Y1o, Y1p, Y1q, Y1w, Y1x, Y1y, Y1z, Y20, Y21, Y28, Y2a, AV.cells?, Nat.reduceAdd, Nat.reduceMul, map_get (show j < (holdsL w p).length by rw [holdsL_len]; exact hlt)]
      cases ha : (holdsL w p).getD j false with
      | true =>
        have hp := (holdsL_get hlt).1 ha
        simp only [nd0, Y1n, Y1o, Y1p, Y1q, Y1w, Y1x, Y1y, Y1z, Y20, Y21, Y28, Y2a, AV.cells?, Nat.reduceAdd, Nat.reduceMul]
        rw [hg.at (by simp)]
        simp only [nd0, Y1n, Y1o, Y1p, Y1q, Y1w, Y1x, Y1y, Y1z, Y20, Y21, Y28, Y2a, AV.cells?, Nat.reduceAdd, Nat.reduceMul, List.map_cons, List.map_nil, show (1 : Int).toNat = 1 from rfl, LB]
        rw [iaddr_Nn (by rw [holdsL_len]; exact hlt)]
        simp only [nd0, Y1n, Y1o, Y1p, Y1q, Y1w, Y1x, Y1y, Y1z, Y20, Y21, Y28, Y2a, AV.cells?, Nat.reduceAdd, Nat.reduceMul, map_get (show j < (holdsL w q).length by rw [holdsL_len]; exact hlt)]
        rw [iaddr_Ln hlt]
        simp only [nd0, Y1n, Y1o, Y1p, Y1q, Y1w, Y1x, Y1y, Y1z, Y20, Y21, Y28, Y2a, AV.cells?, Nat.reduceAdd, Nat.reduceMul]
        rw [store1_L rfl]
        simp only [nd0, Y1n, Y1o, Y1p, Y1q, Y1w, Y1x, Y1y, Y1z, Y20, Y21, Y28, Y2a, AV.cells?, Nat.reduceAdd, Nat.reduceMul, List.length_map, hl, if_pos hlt]
        rw [binA_succ (by omega)]
        simp only [nd0, Y1n, Y1o, Y1p, Y1q, Y1w, Y1x, Y1y, Y1z, Y20, Y21, Y28, Y2a, AV.cells?, Nat.reduceAdd, Nat.reduceMul]
        rw [← List.map_set]
        exact back1.mk _ (by omega) (Fill.step hl hlt hG (holds_eq hlt (by rw [holdsL_get hlt]; simp [sat, satL, comb, hp])))
      | false =>
        have hp : ¬ sat w p j := fun h => by rw [(holdsL_get hlt).2 h] at ha; cases ha
        simp only [nd0, Y1n, Y1o, Y1p, Y1q, Y1w, Y1x, Y1y, Y1z, Y20, Y21, Y28, Y2a, AV.cells?, Nat.reduceAdd, Nat.reduceMul]
        rw [iaddr_Ln hlt]
        simp only [nd0, Y1n, Y1o, Y1p, Y1q, Y1w, Y1x, Y1y, Y1z, Y20, Y21, Y28, Y2a, AV.cells?, Nat.reduceAdd, Nat.reduceMul]
        rw [store1_L rfl]
        simp only [nd0, Y1n, Y1o, Y1p, Y1q, Y1w, Y1x, Y1y, Y1z, Y20, Y21, Y28, Y2a, AV.cells?, Nat.reduceAdd, Nat.reduceMul, List.length_map, hl, if_pos hlt]
        rw [binA_succ (by omega)]
        simp only [nd0, Y1n, Y1o, Y1p, Y1q, Y1w, Y1x, Y1y, Y1z, Y20, Y21, Y28, Y2a, AV.cells?, Nat.reduceAdd, Nat.reduceMul]
        rw [← List.map_set]
        exact back1.mk _ (by omega) (Fill.step hl hlt hG (holds_eq hlt (by simp [sat, satL, comb, hp])))
    · obtain ⟨p, q, rfl⟩ : ∃ p q, of = [p, q] := two_of (by have : arity 5 = 2 := rfl; omega)
      simp only [nd0, Y1n, Y1o, Y1p, Y1q, Y1w, Y1x, Y1y, Y1z, Y20, Y21, Y28, Y2a, AV.cells?, Nat.reduceAdd, Nat.reduceMul, Int.reduceEq]
      refine wLoop.one (Fill w.n n (n + 1) (n + 1 + 1) (n + 1 + 1 + 1) (n + 1 + 1 + 1 + 1) W t z (holdsL w (.mk 5 s [p, q]))) w.n (gh1.mk (Fill.start (l := List.replicate w.n false) (by simp))) ?_
      rintro m i H ⟨j, l, c', rfl, hj, rfl, rfl, hl, hG⟩
      simp only [HP]
      by_cases hlt : j < w.n
      case neg =>
        have : j = w.n := by omega
        subst this
        simp only [nd0, Y1n, Y1o, Y1p, Y1q, Y1w, Y1x, Y1y, Y1z, Y20, Y21, Y28, Y2a, AV.cells?, Nat.reduceAdd, Nat.reduceMul, Int.lt_irrefl]
        exact gh0.mk (hend _ _ hl hG)
      simp only [nd0, Y1n, Y1o, Y1p, Y1q, Y1w, Y1x, Y1y, Y1z, Y20, Y21, Y28, Y2a, AV.cells?, Nat.reduceAdd, Nat.reduceMul, decide_eq_true (show (j : Int) < (w.n : Int) by omega)]
      rw [hg.at (by simp)]
      simp only [nd0, Y1n, Y1o, Y1p, Y1q, Y1w, Y1x, Y1y, Y1z, Y20, Y21, Y28, Y2a, AV.cells?, Nat.reduceAdd, Nat.reduceMul, List.map_cons, List.map_nil, show (0 : Int).toNat = 0 from rfl, LB]
      rw [iaddr_Nn (by rw [holdsL_len]; exact hlt)]
      simp only [nd0, Y1n, Y1o, Y1p, Y1q, Y1w, Y1x, Y1y, Y1z, Y20, Y21, Y28, Y2a, AV.cells?, Nat.reduceAdd, Nat.reduceMul, map_get (show j < (holdsL w p).length by rw [holdsL_len]; exact hlt)]
      cases ha : (holdsL w p).getD j false with
      | true =>
        have hp := (holdsL_get hlt).1 ha
        simp only [nd0, Y1n, Y1o, Y1p, Y1q, Y1w, Y1x, Y1y, Y1z, Y20, Y21, Y28, Y2a, AV.cells?, Nat.reduceAdd, Nat.reduceMul]
        rw [iaddr_Ln hlt]
        simp only [nd0, Y1n, Y1o, Y1p, Y1q, Y1w, Y1x, Y1y, Y1z, Y20, Y21, Y28, Y2a, AV.cells?, Nat.reduceAdd, Nat.reduceMul]
        rw [store1_L rfl]
        simp only [nd0, Y1n, Y1o, Y1p, Y1q, Y1w, Y1x, Y1y, Y1z, Y20, Y21, Y28, Y2a, AV.cells?, Nat.reduceAdd, Nat.reduceMul, List.length_map, hl, if_pos hlt]
        rw [binA_succ (by omega)]
        simp only [nd0, Y1n, Y1o, Y1p, Y1q, Y1w, Y1x, Y1y, Y1z, Y20, Y21, Y28, Y2a, AV.cells?, Nat.reduceAdd, Nat.reduceMul]
        rw [← List.map_set]
        exact back1.mk _ (by omega) (Fill.step hl hlt hG (holds_eq hlt (by simp [sat, satL, comb, hp])))
      | false =>
        have hp : ¬ sat w p j := fun h => by rw [(holdsL_get hlt).2 h] at ha; cases ha
        simp only [nd0, Y1n, Y1o, Y1p, Y1q, Y1w, Y1x, Y1y, Y1z, Y20, Y21, Y28, Y2a, AV.cells?, Nat.reduceAdd, Nat.reduceMul]
        rw [hg.at (by simp)]
        simp only [nd0, Y1n, Y1o, Y1p, Y1q, Y1w, Y1x, Y1y, Y1z, Y20, Y21, Y28, Y2a, AV.cells?, Nat.reduceAdd, Nat.reduceMul, List.map_cons, List.map_nil, show (1 : Int).toNat = 1 from rfl, LB]
        rw [iaddr_Nn (by rw [holdsL_len]; exact hlt)]
        simp only [nd0, Y1n, Y1o, Y1p, Y1q, Y1w, Y1x, Y1y, Y1z, Y20, Y21, Y28, Y2a, AV.cells?, Nat.reduceAdd, Nat.reduceMul, map_get (show j < (holdsL w q).length by rw [holdsL_len]; exact hlt)]
        rw [iaddr_Ln hlt]
        simp only [nd0, Y1n, Y1o, Y1p, Y1q, Y1w, Y1x, Y1y, Y1z, Y20, Y21, Y28, Y2a, AV.cells?, Nat.reduceAdd, Nat.reduceMul]
        rw [store1_L rfl]
        simp only [nd0, Y1n, Y1o, Y1p, Y1q, Y1w, Y1x, Y1y, Y1z, Y20, Y21, Y28, Y2a, AV.cells?, Nat.reduceAdd, Nat.reduceMul, List.length_map, hl, if_pos hlt]
        rw [binA_succ (by omega)]
        simp only [nd0, Y1n, Y1o, Y1p, Y1q, Y1w, Y1x, Y1y, Y1z, Y20, Y21, Y28, Y2a, AV.cells?, Nat.reduceAdd, Nat.reduceMul]
        rw [← List.map_set]
        exact back1.mk _ (by omega) (Fill.step hl hlt hG (holds_eq hlt (by rw [holdsL_get hlt]; simp [sat, satL, comb, hp])))
    · obtain ⟨p, rfl⟩ : ∃ p, of = [p] := List.length_eq_one_iff.1 (by have : arity 6 = 1 := rfl; omega)
      simp only [nd0, Y1n, Y1o, Y1p, Y1q, Y1w, Y1x, Y1y, Y1z, Y20, Y21, Y28, Y2a, AV.cells?, Nat.reduceAdd, Nat.reduceMul, Int.reduceEq]
      refine wLoop.one (Fill w.n n (n + 1) (n + 1 + 1) (n + 1 + 1 + 1) (n + 1 + 1 + 1 + 1) W t z (holdsL w (.mk 6 s [p]))) w.n (gh1.mk (Fill.start (l := List.replicate w.n false) (by simp))) ?_
      rintro m i H ⟨j, l, c', rfl, hj, rfl, rfl, hl, hG⟩
      simp only [HP]
      by_cases hlt : j < w.n
      case neg =>
        have : j = w.n := by omega
        subst this
        simp only [nd0, Y1n, Y1o, Y1p, Y1q, Y1w, Y1x, Y1y, Y1z, Y20, Y21, Y28, Y2a, AV.cells?, Nat.reduceAdd, Nat.reduceMul, Int.lt_irrefl]
        exact gh0.mk (hend _ _ hl hG)
      simp only [nd0, Y1n, Y1o, Y1p, Y1q, Y1w, Y1x, Y1y, Y1z, Y20, Y21, Y28, Y2a, AV.cells?, Nat.reduceAdd, Nat.reduceMul, decide_eq_true (show (j : Int) < (w.n : Int) by omega)]
      rw [hg.at (by simp)]
      simp only [nd0, Y1n, Y1o, Y1p, Y1q, Y1w, Y1x, Y1y, Y1z, Y20, Y21, Y28, Y2a, AV.cells?, Nat.reduceAdd, Nat.reduceMul, List.map_cons, List.map_nil, show (0 : Int).toNat = 0 from rfl]
      have hnx := next_spec B w j hlt hn
      rw [hW] at hnx
      refine wCallV.bo hnx (by simp [AV.flat]) (.cons (.same _) (.cons (Fk.ptrF 1 rfl rfl (.cons (.same _) .nil)) (.cons (.same _) .nil))) fun n1 => ?_
      have hnl := Wd.next_lt h0 hlt
      simp only [nd0, Y1n, Y1o, Y1p, Y1q, Y1w, Y1x, Y1y, Y1z, Y20, Y21, Y28, Y2a, AV.cells?, Nat.reduceAdd, Nat.reduceMul, LB, and_self, true_and]
      rw [iaddr_Nn (by rw [holdsL_len]; exact hnl)]
      simp only [nd0, Y1n, Y1o, Y1p, Y1q, Y1w, Y1x, Y1y, Y1z, Y20, Y21, Y28, Y2a, AV.cells?, Nat.reduceAdd, Nat.reduceMul, map_get (show w.next j < (holdsL w p).length by rw [holdsL_len]; exact hnl)]
      rw [iaddr_Ln hlt]
      simp only [nd0, Y1n, Y1o, Y1p, Y1q, Y1w, Y1x, Y1y, Y1z, Y20, Y21, Y28, Y2a, AV.cells?, Nat.reduceAdd, Nat.reduceMul]
      rw [store1_L rfl]
      simp only [nd0, Y1n, Y1o, Y1p, Y1q, Y1w, Y1x, Y1y, Y1z, Y20, Y21, Y28, Y2a, AV.cells?, Nat.reduceAdd, Nat.reduceMul, List.length_map, hl, if_pos hlt]
      rw [binA_succ (by omega)]
      simp only [nd0, Y1n, Y1o, Y1p, Y1q, Y1w, Y1x, Y1y, Y1z, Y20, Y21, Y28, Y2a, AV.cells?, Nat.reduceAdd, Nat.reduceMul]
      rw [← List.map_set]
      exact back1.mk _ (by omega) (Fill.step hl hlt hG (holds_eq hlt (by rw [holdsL_get hnl]; simp [sat, satL, comb])))
    · obtain ⟨p, q, rfl⟩ : ∃ p q, of = [p, q] := two_of (by have : arity 7 = 2 := rfl; omega)
      simp only [nd0, Y1n, Y1o, Y1p, Y1q, Y1w, Y1x, Y1y, Y1z, Y20, Y21, Y28, Y2a, AV.cells?, Nat.reduceAdd, Nat.reduceMul, Int.reduceEq]
      have hfx := fix_spec B h0 hn (k := 38) (start := false) (nowF := fun i x => (holdsL w q).getD i false || ((holdsL w p).getD i false && x)) (ofsl := (.slN [LB (holdsL w p), LB (holdsL w q)] 2)) (t := t) hg.sub (fun i x hi => un_spec B i x (holdsL w p) (holdsL w q) (by rw [holdsL_len]; exact hi) (by rw [holdsL_len]; exact hi))
        (fun i hi => by cases (holdsL w p).getD i false <;> cases (holdsL w q).getD i false <;> simp) (g0 := n) (g1 := n + 1) (g2 := n + 1 + 1) (g3 := n + 1 + 1 + 1) (g4 := n + 1 + 1 + 1 + 1) (c := c) (z := z) (bs := List.replicate w.n false) (by simp)
      rw [hW] at hfx
      refine ⟨37, [], _, rfl, _, hfx, fun r H' ⟨o, c', hr, hH, hlo, hI, hF⟩ => ?_⟩
      subst hH
      exact gh0.mk (fixend (fun i => sat w q i) (fun i => sat w p i) _ _ (fun i x hi => by
        simp only [nw, Bool.bne_false, Bool.or_eq_true, Bool.and_eq_true]; rw [holdsL_get hi, holdsL_get hi]) (fun i hi => by
        simp [sat, satL, comb]) o c' hlo hI hF)
    · obtain ⟨p, q, rfl⟩ : ∃ p q, of = [p, q] := two_of (by have : arity 8 = 2 := rfl; omega)
      simp only [nd0, Y1n, Y1o, Y1p, Y1q, Y1w, Y1x, Y1y, Y1z, Y20, Y21, Y28, Y2a, AV.cells?, Nat.reduceAdd, Nat.reduceMul, Int.reduceEq]
      have hfx := fix_spec B h0 hn (k := 39) (start := true) (nowF := fun i x => (holdsL w q).getD i false && ((holdsL w p).getD i false || x)) (ofsl := (.slN [LB (holdsL w p), LB (holdsL w q)] 2)) (t := t) hg.sub (fun i x hi => re_spec B i x (holdsL w p) (holdsL w q) (by rw [holdsL_len]; exact hi) (by rw [holdsL_len]; exact hi))
        (fun i hi => by cases (holdsL w p).getD i false <;> cases (holdsL w q).getD i false <;> simp) (g0 := n) (g1 := n + 1) (g2 := n + 1 + 1) (g3 := n + 1 + 1 + 1) (g4 := n + 1 + 1 + 1 + 1) (c := c) (z := z) (bs := List.replicate w.n false) (by simp)
      rw [hW] at hfx
      refine ⟨37, [], _, rfl, _, hfx, fun r H' ⟨o, c', hr, hH, hlo, hI, hF⟩ => ?_⟩
      subst hH
      exact gh0.mk (fixend (fun i => ¬ sat w q i) (fun i => ¬ sat w p i) _ _ (fun i x hi => by
        rw [← holdsL_get (f := p) hi, ← holdsL_get (f := q) hi]; simp only [nw]; generalize (holdsL w p).getD i false = a; generalize (holdsL w q).getD i false = b; cases a <;> cases b <;> cases x <;> simp) (fun i hi => by
        simp only [if_true, not_exists, not_and, Classical.not_not, Classical.not_forall]; simp only [sat, satL, comb, Int.reduceEq, if_true, if_false]; exact forall_congr' fun a => by
          by_cases h : sat w q (w.it a i) <;> simp [h]) o c' hlo hI hF)
    · obtain ⟨p, rfl⟩ : ∃ p, of = [p] := List.length_eq_one_iff.1 (by have : arity 9 = 1 := rfl; omega)
      simp only [nd0, Y1n, Y1o, Y1p, Y1q, Y1w, Y1x, Y1y, Y1z, Y20, Y21, Y28, Y2a, AV.cells?, Nat.reduceAdd, Nat.reduceMul, Int.reduceEq]
      have hfx := fix_spec B h0 hn (k := 40) (start := false) (nowF := fun i x => (holdsL w p).getD i false || x) (ofsl := (.slN [LB (holdsL w p)] 1)) (t := t) hg.sub (fun i x hi => ev_spec B i x (holdsL w p) (by rw [holdsL_len]; exact hi))
        (fun i hi => by cases (holdsL w p).getD i false <;> simp) (g0 := n) (g1 := n + 1) (g2 := n + 1 + 1) (g3 := n + 1 + 1 + 1) (g4 := n + 1 + 1 + 1 + 1) (c := c) (z := z) (bs := List.replicate w.n false) (by simp)
      rw [hW] at hfx
      refine ⟨37, [], _, rfl, _, hfx, fun r H' ⟨o, c', hr, hH, hlo, hI, hF⟩ => ?_⟩
      subst hH
      exact gh0.mk (fixend (fun i => sat w p i) (fun i => True) _ _ (fun i x hi => by
        simp only [nw, Bool.bne_false, Bool.or_eq_true, true_and]; rw [holdsL_get hi]) (fun i hi => by
        simp [sat, satL, comb]) o c' hlo hI hF)
    · obtain ⟨p, rfl⟩ : ∃ p, of = [p] := List.length_eq_one_iff.1 (by have : arity 10 = 1 := rfl; omega)
      simp only [nd0, Y1n, Y1o, Y1p, Y1q, Y1w, Y1x, Y1y, Y1z, Y20, Y21, Y28, Y2a, AV.cells?, Nat.reduceAdd, Nat.reduceMul, Int.reduceEq]
      have hfx := fix_spec B h0 hn (k := 41) (start := true) (nowF := fun i x => (holdsL w p).getD i false && x) (ofsl := (.slN [LB (holdsL w p)] 1)) (t := t) hg.sub (fun i x hi => al_spec B i x (holdsL w p) (by rw [holdsL_len]; exact hi))
        (fun i hi => by cases (holdsL w p).getD i false <;> simp) (g0 := n) (g1 := n + 1) (g2 := n + 1 + 1) (g3 := n + 1 + 1 + 1) (g4 := n + 1 + 1 + 1 + 1) (c := c) (z := z) (bs := List.replicate w.n false) (by simp)
      rw [hW] at hfx
      refine ⟨37, [], _, rfl, _, hfx, fun r H' ⟨o, c', hr, hH, hlo, hI, hF⟩ => ?_⟩
      subst hH
      exact gh0.mk (fixend (fun i => ¬ sat w p i) (fun i => True) _ _ (fun i x hi => by
        rw [← holdsL_get (f := p) hi]; simp only [nw]; generalize (holdsL w p).getD i false = a; cases a <;> cases x <;> simp) (fun i hi => by
        simp [sat, satL, comb]) o c' hlo hI hF)
end
end Go.Sc
namespace Go.Sc
open Go Go.RowKit
set_option linter.unusedVariables false
section
variable {H : Type} {enc : TypeId × Value → H} {P : Program} {W : World} {E : Env}
theorem Dec.texts {tS tL : TypeId} (hS : P.underlying tS = some .string) (hL : P.underlying tL = some (.slice tS)) (hc : P.cellsOf tS = 1) (hb : 0 < P.bytesOf tS) : Dec enc P W E tL (fun l : List Str => [LS l]) (fun l => l.length < 140737488355328) :=
  ((Dec.str hS).slice1 hL hc).map id fun l h => ⟨len_of_reach h.2 hb, rfl⟩
theorem Dec.textss {tS tL tLL : TypeId} (hS : P.underlying tS = some .string) (hL : P.underlying tL = some (.slice tS)) (hLL : P.underlying tLL = some (.slice tL)) (hc : P.cellsOf tS = 1 ∧ P.cellsOf tL = 1) (hb : 0 < P.bytesOf tS ∧ 0 < P.bytesOf tL) :
    Dec enc P W E tLL (fun l : List (List Str) => [LL l]) (fun l => (∀ x ∈ l, x.length < 140737488355328) ∧ l.length < 140737488355328) :=
  ((Dec.texts hS hL hc.1 hb.1).slice1 hLL hc.2).map id fun l h => ⟨⟨h.1, len_of_reach h.2 hb.2⟩, rfl⟩
theorem Dec.word {tS tL tW : TypeId} {f0 f1 : Field} (hS : P.underlying tS = some .string) (hL : P.underlying tL = some (.slice tS)) (h0 : P.underlying f0.type = some (.slice tL)) (h1 : P.underlying f1.type = some (.slice tL)) (hW : P.underlying tW = some (.struct #[f0, f1]))
    (ho : f0.offset = 0 ∧ f1.offset = P.cellsOf f0.type ∧ P.cellsOf tW = P.cellsOf f0.type + P.cellsOf f1.type) (hc : P.cellsOf tS = 1 ∧ P.cellsOf tL = 1) (hb : 0 < P.bytesOf tS ∧ 0 < P.bytesOf tL) :
    Dec enc P W E tW (fun w : Wd => [LL w.ahead, LL w.round]) Wd.sized :=
  (Dec.struct2 (Dec.textss hS hL h0 hc hb) (Dec.textss hS hL h1 hc hb) hW ho).map (fun p => ⟨p.1, p.2⟩) fun p h => ⟨⟨h.1.2, h.2.2, fun l hl => by
    rcases List.mem_append.1 hl with hl | hl
    · exact h.1.1 l hl
    · exact h.2.1 l hl⟩, rfl⟩
theorem Dec.steps {tX tL : TypeId} {f0 f1 f2 f3 : Field} (h0 : P.underlying f0.type = some (.int .i64)) (h1 : P.underlying f1.type = some (.int .i64)) (h2 : P.underlying f2.type = some (.int .i64)) (h3 : P.underlying f3.type = some .string) (hX : P.underlying tX = some (.struct #[f0, f1, f2, f3])) (hL : P.underlying tL = some (.slice tX))
    (ho : f0.offset = 0 ∧ f1.offset = P.cellsOf f0.type ∧ f2.offset = f1.offset + P.cellsOf f1.type ∧ f3.offset = f2.offset + P.cellsOf f2.type ∧ P.cellsOf tX = f3.offset + P.cellsOf f3.type) (hc : P.cellsOf tX = 4) (hb : 0 < P.bytesOf tX) :
    Dec enc P W E tL (fun l : List St => [ST l]) (fun l => (∀ x ∈ l, inI x.k ∧ inI x.a ∧ inI x.b) ∧ l.length < 140737488355328) :=
  (((Dec.struct4 (Dec.i64 h0) (Dec.i64 h1) (Dec.i64 h2) (Dec.str h3) hX ho).map (g := St.cells) (Q' := fun x => inI x.k ∧ inI x.a ∧ inI x.b) (fun p => ⟨p.1, p.2.1, p.2.2.1, p.2.2.2⟩) fun p h => ⟨⟨h.1, h.2.1, h.2.2.1⟩, rfl⟩).slice 4 (fun _ => rfl) (by omega) hL hc).map id fun l h => ⟨⟨h.1, len_of_reach h.2 hb⟩, rfl⟩
end
end Go.Sc
namespace Go.Sc.F
open Go Go.Sc
set_option linter.unusedVariables false

/-- signalbox/signalboxkeep.LassoPush -/
def keep_LassoPush (E : Env) (P : Program) (a0 a1 : AV) (H : AH) (R : Kt) : Prop :=
  wNew 2 (AV.cells? a0) H fun t2 H =>
  wGet (lenA a1) H fun t14 H =>
  wGet (binA .gtr t14 (.val (.int .i64 14))) H fun t15 H =>
  wGuard t15 false H (fun k => wGet (faddr 0 t2) H k) fun t17 H =>
  wGuard t15 false H (fun k => wGet (load1 t17 H) H k) fun t18 H =>
  wGuard t15 false H (fun k => wGet (lenA t18) H k) fun t19 H =>
  wGuard t15 false H (fun k => wGet (faddr 1 t2) H k) fun t20 H =>
  wGuard t15 false H (fun k => wGet (load1 t20 H) H k) fun t21 H =>
  wGuard t15 false H (fun k => wGet (lenA t21) H k) fun t22 H =>
  wGuard t15 false H (fun k => wGet (binA .add t19 t22) H k) fun t23 H =>
  wGuard t15 false H (fun k => wGet (binA .gtr t23 (.val (.int .i64 30))) H k) fun t24 H =>
  wGet (pickA t15 (.val (.bool true)) t24) H fun t25 H =>
  wIf t25 (
    R (.val (.bool true)) H) (
    wCall E P 26 [a1] H fun t27 H =>
    wCall E P 113 [t27] H fun t30 H =>
    wGet (extractA t30 0) H fun t31 H =>
    wGet (extractA t30 1) H fun t32 H =>
    wCall E P 28 [] H fun t33 H =>
    wGet (unA .not t33) H fun t34 H =>
    wGuard t34 false H (fun k => k t32 H) fun t36 H =>
    wGuard t34 false H (fun k => wBool (eqA .iface t36 (.val (.nilIface))) H true k) fun t37 H =>
    wGet (pickA t34 (.val (.bool true)) t37) H fun t38 H =>
    wGuard t38 false H (fun k => k t31 H) fun t40 H =>
    wGuard t38 false H (fun k => wCall E P 32 [t40] H k) fun t41 H =>
    wGuard t38 false H (fun k => wBool (eqA .iface t41 (.val (.nilIface))) H true k) fun t42 H =>
    wGet (pickA t38 (.val (.bool true)) t42) H fun t43 H =>
    wIf t43 (
      wCall E P 28 [] H fun t44 H =>
      wGuard t44 true H (fun k => k t32 H) fun t46 H =>
      wGuard t44 true H (fun k => wBool (eqA .iface t46 (.val (.nilIface))) H true k) fun t47 H =>
      wGuard t44 true H (fun k => k t47 H) fun t48 H =>
      wGuard t48 false H (fun k => k t31 H) fun t49 H =>
      wGuard t48 false H (fun k => wBool (eqA .ptr t49 (.val (.pointer none))) H true k) fun t50 H =>
      wGuard t44 true H (fun k => wGet (pickA t48 (.val (.bool true)) t50) H k) fun t51 H =>
      wGet (pickA t44 t51 (.val (.bool false))) H fun t52 H =>
      R t52 H) (
      wGet (loadN 2 t2 H) H fun t54 H =>
      wCall E P 27 [t54, t27] H fun t56 H =>
      wGet (extractA t56 0) H fun t57 H =>
      wGet (extractA t56 1) H fun t58 H =>
      wGet (loadN 2 t2 H) H fun t60 H =>
      wCall E P 27 [t60, t31] H fun t62 H =>
      wGet (extractA t62 0) H fun t63 H =>
      wGet (extractA t62 1) H fun t64 H =>
      wBool (eqA .iface t58 (.val (.nilIface))) H true fun t66 H =>
      wGuard t66 false H (fun k => k t64 H) fun t68 H =>
      wGuard t66 false H (fun k => wBool (eqA .iface t68 (.val (.nilIface))) H true k) fun t69 H =>
      wGet (pickA t66 (.val (.bool true)) t69) H fun t70 H =>
      wIf t70 (
        wBool (eqA .iface t58 (.val (.nilIface))) H true fun t72 H =>
        wGuard t72 true H (fun k => k t64 H) fun t74 H =>
        wGuard t72 true H (fun k => wBool (eqA .iface t74 (.val (.nilIface))) H true k) fun t75 H =>
        wGet (pickA t72 t75 (.val (.bool false))) H fun t76 H =>
        R t76 H) (
        wCall E P 113 [t31] H fun t79 H =>
        wGet (extractA t79 0) H fun t80 H =>
        wGet (extractA t79 1) H fun t81 H =>
        wCall E P 34 [t57, t63] H fun t84 H =>
        wGuard t84 true H (fun k => k t81 H) fun t86 H =>
        wGuard t84 true H (fun k => wBool (eqA .iface t86 (.val (.nilIface))) H false k) fun t87 H =>
        wGet (pickA t84 t87 (.val (.bool false))) H fun t88 H =>
        wGuard t88 true H (fun k => k t80 H) fun t90 H =>
        wGuard t88 true H (fun k => wCall E P 114 [t90] H k) fun t91 H =>
        wGuard t88 true H (fun k => k t31 H) fun t92 H =>
        wGuard t88 true H (fun k => wCall E P 114 [t92] H k) fun t93 H =>
        wGuard t88 true H (fun k => wGet (binA .eql t91 t93) H k) fun t94 H =>
        wGet (pickA t88 t94 (.val (.bool false))) H fun t95 H =>
        R t95 H)))

/-- signalbox/lasso.Push -/
def lasso_Push (E : Env) (P : Program) (a0 : AV) (H : AH) (R : Kt) : Prop :=
  wCall E P 32 [a0] H fun t6 H =>
  wBool (eqA .iface t6 (.val (.nilIface))) H true fun t8 H =>
  wIf t8 (
    R (.tup [(.val (.pointer none)), t6]) H) (
    wCall E P 116 [a0, (.val (.bool false))] H fun t11 H =>
    R (.tup [t11, (.val (.nilIface))]) H)

/-- signalbox/lasso.Text -/
def lasso_Text (E : Env) (P : Program) (a0 : AV) (H : AH) (R : Kt) : Prop :=
  wCall E P 32 [a0] H fun t4 H =>
  wBool (eqA .iface t4 (.val (.nilIface))) H true fun t5 H =>
  wIf t5 (
    R (.val (.string ⟨#[]⟩)) H) (
    wCall E P 117 [a0] H fun t7 H =>
    R t7 H)

/-- signalbox/lasso.push -/
def lasso_push (E : Env) (P : Program) (a0 a1 : AV) (H : AH) (R : Kt) : Prop :=
  wGet (nilA a0) H fun t12 H =>
  wGet (faddr 0 t12) H fun t13 H =>
  wGet (load1 t13 H) H fun t14 H =>
  wGet (nilA a0) H fun t16 H =>
  wGet (faddr 2 t16) H fun t17 H =>
  wGet (load1 t17 H) H fun t18 H =>
  wJoin 2 (fun J1 =>
    wGet (binA .eql t14 (.val (.int .i64 3))) H fun t21 H =>
    wIf t21 (
      wGet (iaddr 1 t18 (.val (.int .i64 0))) H fun t23 H =>
      wGet (load1 t23 H) H fun t24 H =>
      wGet (unA .not a1) H fun t26 H =>
      wCall E P 116 [t24, t26] H fun t27 H =>
      R t27 H) (
      wJoin 1 (fun J2 =>
        wGet (binA .eql t14 (.val (.int .i64 1))) H fun t29 H =>
        wIf t29 (
          J2 t29 H) (
          wGet (binA .eql t14 (.val (.int .i64 2))) H fun t30 H =>
          J2 t30 H)) fun t28 H =>
        wIf t28 (
          wGet (nilA a0) H fun t33 H =>
          wGet (faddr 1 t33) H fun t34 H =>
          wGet (load1 t34 H) H fun t35 H =>
          wAgg (fillA [(.val (.int .i64 0)), (.val (.string ⟨#[]⟩)), (.val (.slice none 0 0))] [(0, 1, t14), (1, 1, t35)]) H fun t36 H =>
          wNew 3 (AV.cells? t36) H fun t37 H =>
          wIf a1 (
            wNewS 1 1 (fillA (List.replicate 1 [(.val (.pointer none))]).flatten [(0, 1, t37)]) H fun t40 H =>
            wAgg (fillA [(.val (.int .i64 0)), (.val (.string ⟨#[]⟩)), (.val (.slice none 0 0))] [(0, 1, (.val (.int .i64 3))), (2, 1, t40)]) H fun t41 H =>
            wNew 3 (AV.cells? t41) H fun t42 H =>
            R t42 H) (
            R t37 H)) (
          wGet (binA .eql t14 (.val (.int .i64 9))) H fun t45 H =>
          wIf t45 (
            wAgg (fillA [(.val (.int .i64 0)), (.val (.string ⟨#[]⟩)), (.val (.slice none 0 0))] [(0, 1, (.val (.int .i64 2)))]) H fun t46 H =>
            wGet (iaddr 1 t18 (.val (.int .i64 0))) H fun t49 H =>
            wGet (load1 t49 H) H fun t50 H =>
            (
              wNew 3 (AV.cells? t46) H fun t47 H =>
              (wGet (load1 t49 H) H (fun y H2 => y = t50 ∧ H2 = H)) ∧
              (
                wNewS 1 2 (fillA (List.replicate 2 [(.val (.pointer none))]).flatten [(0, 1, t47), (1, 1, t50)]) H fun t51 H =>
                (wGet (load1 t49 H) H (fun y H2 => y = t50 ∧ H2 = H)) ∧
                J1 (.val (.int .i64 7)) t51 H) ∧
              (
                (wGet (load1 t49 H) H (fun y H2 => y = t50 ∧ H2 = H)) ∧
                wNewS 1 2 (fillA (List.replicate 2 [(.val (.pointer none))]).flatten [(0, 1, t47), (1, 1, t50)]) H fun t51_1 H =>
                J1 (.val (.int .i64 7)) t51_1 H)) ∧
            (
              (wGet (load1 t49 H) H (fun y H2 => y = t50 ∧ H2 = H)) ∧
              wNew 3 (AV.cells? t46) H fun t47_1 H =>
              (wGet (load1 t49 H) H (fun y H2 => y = t50 ∧ H2 = H)) ∧
              wNewS 1 2 (fillA (List.replicate 2 [(.val (.pointer none))]).flatten [(0, 1, t47_1), (1, 1, t50)]) H fun t51_2 H =>
              J1 (.val (.int .i64 7)) t51_2 H)) (
            wGet (binA .eql t14 (.val (.int .i64 10))) H fun t53 H =>
            wIf t53 (
              wAgg (fillA [(.val (.int .i64 0)), (.val (.string ⟨#[]⟩)), (.val (.slice none 0 0))] [(0, 1, (.val (.int .i64 2)))]) H fun t54 H =>
              wGet (iaddr 1 t18 (.val (.int .i64 0))) H fun t60 H =>
              wGet (load1 t60 H) H fun t61 H =>
              (
                wNew 3 (AV.cells? t54) H fun t55 H =>
                (wGet (load1 t60 H) H (fun y H2 => y = t61 ∧ H2 = H)) ∧
                (
                  wNewS 1 1 (fillA (List.replicate 1 [(.val (.pointer none))]).flatten [(0, 1, t55)]) H fun t56 H =>
                  (wGet (load1 t60 H) H (fun y H2 => y = t61 ∧ H2 = H)) ∧
                  wAgg (fillA [(.val (.int .i64 0)), (.val (.string ⟨#[]⟩)), (.val (.slice none 0 0))] [(0, 1, (.val (.int .i64 3))), (2, 1, t56)]) H fun t57 H =>
                  (
                    wNew 3 (AV.cells? t57) H fun t58 H =>
                    (wGet (load1 t60 H) H (fun y H2 => y = t61 ∧ H2 = H)) ∧
                    (
                      wNewS 1 2 (fillA (List.replicate 2 [(.val (.pointer none))]).flatten [(0, 1, t58), (1, 1, t61)]) H fun t62 H =>
                      (wGet (load1 t60 H) H (fun y H2 => y = t61 ∧ H2 = H)) ∧
                      J1 (.val (.int .i64 8)) t62 H) ∧
                    (
                      (wGet (load1 t60 H) H (fun y H2 => y = t61 ∧ H2 = H)) ∧
                      wNewS 1 2 (fillA (List.replicate 2 [(.val (.pointer none))]).flatten [(0, 1, t58), (1, 1, t61)]) H fun t62_1 H =>
                      J1 (.val (.int .i64 8)) t62_1 H)) ∧
                  (
                    (wGet (load1 t60 H) H (fun y H2 => y = t61 ∧ H2 = H)) ∧
                    wNew 3 (AV.cells? t57) H fun t58_1 H =>
                    (wGet (load1 t60 H) H (fun y H2 => y = t61 ∧ H2 = H)) ∧
                    wNewS 1 2 (fillA (List.replicate 2 [(.val (.pointer none))]).flatten [(0, 1, t58_1), (1, 1, t61)]) H fun t62_2 H =>
                    J1 (.val (.int .i64 8)) t62_2 H)) ∧
                (
                  (wGet (load1 t60 H) H (fun y H2 => y = t61 ∧ H2 = H)) ∧
                  wNewS 1 1 (fillA (List.replicate 1 [(.val (.pointer none))]).flatten [(0, 1, t55)]) H fun t56_1 H =>
                  (wGet (load1 t60 H) H (fun y H2 => y = t61 ∧ H2 = H)) ∧
                  wAgg (fillA [(.val (.int .i64 0)), (.val (.string ⟨#[]⟩)), (.val (.slice none 0 0))] [(0, 1, (.val (.int .i64 3))), (2, 1, t56_1)]) H fun t57_1 H =>
                  wNew 3 (AV.cells? t57_1) H fun t58_2 H =>
                  (wGet (load1 t60 H) H (fun y H2 => y = t61 ∧ H2 = H)) ∧
                  wNewS 1 2 (fillA (List.replicate 2 [(.val (.pointer none))]).flatten [(0, 1, t58_2), (1, 1, t61)]) H fun t62_3 H =>
                  J1 (.val (.int .i64 8)) t62_3 H)) ∧
              (
                (wGet (load1 t60 H) H (fun y H2 => y = t61 ∧ H2 = H)) ∧
                wNew 3 (AV.cells? t54) H fun t55_1 H =>
                (wGet (load1 t60 H) H (fun y H2 => y = t61 ∧ H2 = H)) ∧
                wNewS 1 1 (fillA (List.replicate 1 [(.val (.pointer none))]).flatten [(0, 1, t55_1)]) H fun t56_2 H =>
                (wGet (load1 t60 H) H (fun y H2 => y = t61 ∧ H2 = H)) ∧
                wAgg (fillA [(.val (.int .i64 0)), (.val (.string ⟨#[]⟩)), (.val (.slice none 0 0))] [(0, 1, (.val (.int .i64 3))), (2, 1, t56_2)]) H fun t57_2 H =>
                wNew 3 (AV.cells? t57_2) H fun t58_3 H =>
                (wGet (load1 t60 H) H (fun y H2 => y = t61 ∧ H2 = H)) ∧
                wNewS 1 2 (fillA (List.replicate 2 [(.val (.pointer none))]).flatten [(0, 1, t58_3), (1, 1, t61)]) H fun t62_4 H =>
                J1 (.val (.int .i64 8)) t62_4 H)) (
              J1 t14 t18 H))))) fun t5 t6 H =>
    wJoin 1 (fun J3 =>
      wIf a1 (
        wMapN H fun t64 H =>
        wPut (insertA (.int .i64) t64 (.val (.int .i64 4)) (.val (.int .i64 5)) H) fun _u H =>
        wPut (insertA (.int .i64) t64 (.val (.int .i64 5)) (.val (.int .i64 4)) H) fun _u H =>
        wPut (insertA (.int .i64) t64 (.val (.int .i64 6)) (.val (.int .i64 6)) H) fun _u H =>
        wPut (insertA (.int .i64) t64 (.val (.int .i64 7)) (.val (.int .i64 8)) H) fun _u H =>
        wPut (insertA (.int .i64) t64 (.val (.int .i64 8)) (.val (.int .i64 7)) H) fun _u H =>
        wGet (lookupA (.int .i64) (.val (.int .i64 0)) false t64 t5 H) H fun t67 H =>
        J3 t67 H) (
        J3 t5 H)) fun t5_1 H =>
      wAgg (fillA [(.val (.int .i64 0)), (.val (.string ⟨#[]⟩)), (.val (.slice none 0 0))] [(0, 1, t5_1)]) H fun t69 H =>
      wNew 3 (AV.cells? t69) H fun t70 H =>
      wGet (lenA t6) H fun t72 H =>
      wLoop 1 (fun I4 => I4 (.val (.int .i64 0)) H) fun I4 t73 H =>
        wGet (binA .lss t73 t72) H fun t74 H =>
        wIf t74 (
          wGet (iaddr 1 t6 t73) H fun t75 H =>
          wGet (load1 t75 H) H fun t76 H =>
          wGet (nilA t70) H fun t79 H =>
          wGet (faddr 2 t79) H fun t80 H =>
          wGet (load1 t80 H) H fun t81 H =>
          wCall E P 116 [t76, a1] H fun t84 H =>
          (wGet (load1 t80 H) H (fun y H2 => y = t81 ∧ H2 = H)) ∧
          wNewS 1 1 (fillA (List.replicate 1 [(.val (.pointer none))]).flatten [(0, 1, t84)]) H fun t85 H =>
          (wGet (load1 t80 H) H (fun y H2 => y = t81 ∧ H2 = H)) ∧
          wApp 1 8 t81 t85 H fun t86 H =>
          wGet (nilA t70) H fun t87 H =>
          wGet (faddr 2 t87) H fun t88 H =>
          wPut (store1 t88 t86 H) fun _u H =>
          wGet (binA .add t73 (.val (.int .i64 1))) H fun t89 H =>
          I4 t89 H) (
          R t70 H)

/-- signalbox/lasso.text -/
def lasso_text (E : Env) (P : Program) (a0 : AV) (H : AH) (R : Kt) : Prop :=
  wGet (nilA a0) H fun t7 H =>
  wGet (faddr 2 t7) H fun t8 H =>
  wGet (load1 t8 H) H fun t9 H =>
  wGet (lenA t9) H fun t10 H =>
  wLoop 2 (fun I1 => I1 (.val (.slice none 0 0)) (.val (.int .i64 0)) H) fun I1 t3 t11 H =>
    wGet (binA .lss t11 t10) H fun t12 H =>
    wIf t12 (
      wGet (iaddr 1 t9 t11) H fun t13 H =>
      wGet (load1 t13 H) H fun t14 H =>
      wCall E P 117 [t14] H fun t17 H =>
      wNewS 1 1 (fillA (List.replicate 1 [(.val (.string ⟨#[]⟩))]).flatten [(0, 1, t17)]) H fun t18 H =>
      wApp 1 16 t3 t18 H fun t19 H =>
      wGet (binA .add t11 (.val (.int .i64 1))) H fun t20 H =>
      I1 t19 t20 H) (
      wGet (nilA a0) H fun t22 H =>
      wGet (faddr 0 t22) H fun t23 H =>
      wGet (load1 t23 H) H fun t24 H =>
      wGet (binA .eql t24 (.val (.int .i64 1))) H fun t26 H =>
      wIf t26 (
        wGet (nilA a0) H fun t28 H =>
        wGet (faddr 1 t28) H fun t29 H =>
        wGet (load1 t29 H) H fun t30 H =>
        R t30 H) (
        wGet (binA .eql t24 (.val (.int .i64 2))) H fun t32 H =>
        wIf t32 (
          R (.val (.string ⟨#[116, 114, 117, 101]⟩)) H) (
          wGet (binA .eql t24 (.val (.int .i64 3))) H fun t34 H =>
          wIf t34 (
            wCall E P 118 [t3, (.val (.string ⟨#[]⟩))] H fun t36 H =>
            wGet (binA .add (.val (.string ⟨#[33]⟩)) t36) H fun t37 H =>
            R t37 H) (
            wGet (binA .eql t24 (.val (.int .i64 6))) H fun t39 H =>
            wIf t39 (
              wCall E P 118 [t3, (.val (.string ⟨#[]⟩))] H fun t41 H =>
              wGet (binA .add (.val (.string ⟨#[88, 32]⟩)) t41) H fun t42 H =>
              R t42 H) (
              wGet (binA .eql t24 (.val (.int .i64 9))) H fun t44 H =>
              wIf t44 (
                wCall E P 118 [t3, (.val (.string ⟨#[]⟩))] H fun t46 H =>
                wGet (binA .add (.val (.string ⟨#[70, 32]⟩)) t46) H fun t47 H =>
                R t47 H) (
                wGet (binA .eql t24 (.val (.int .i64 10))) H fun t49 H =>
                wIf t49 (
                  wCall E P 118 [t3, (.val (.string ⟨#[]⟩))] H fun t51 H =>
                  wGet (binA .add (.val (.string ⟨#[71, 32]⟩)) t51) H fun t52 H =>
                  R t52 H) (
                  wGet (binA .eql t24 (.val (.int .i64 4))) H fun t54 H =>
                  wIf t54 (
                    wCall E P 118 [t3, (.val (.string ⟨#[32, 38, 32]⟩))] H fun t56 H =>
                    wGet (binA .add (.val (.string ⟨#[40]⟩)) t56) H fun t57 H =>
                    wGet (binA .add t57 (.val (.string ⟨#[41]⟩))) H fun t58 H =>
                    R t58 H) (
                    wGet (binA .eql t24 (.val (.int .i64 5))) H fun t60 H =>
                    wIf t60 (
                      wCall E P 118 [t3, (.val (.string ⟨#[32, 124, 32]⟩))] H fun t62 H =>
                      wGet (binA .add (.val (.string ⟨#[40]⟩)) t62) H fun t63 H =>
                      wGet (binA .add t63 (.val (.string ⟨#[41]⟩))) H fun t64 H =>
                      R t64 H) (
                      wGet (binA .eql t24 (.val (.int .i64 7))) H fun t66 H =>
                      wIf t66 (
                        wCall E P 118 [t3, (.val (.string ⟨#[32, 85, 32]⟩))] H fun t68 H =>
                        wGet (binA .add (.val (.string ⟨#[40]⟩)) t68) H fun t69 H =>
                        wGet (binA .add t69 (.val (.string ⟨#[41]⟩))) H fun t70 H =>
                        R t70 H) (
                        wGet (binA .eql t24 (.val (.int .i64 8))) H fun t72 H =>
                        wIf t72 (
                          wCall E P 118 [t3, (.val (.string ⟨#[32, 82, 32]⟩))] H fun t74 H =>
                          wGet (binA .add (.val (.string ⟨#[40]⟩)) t74) H fun t75 H =>
                          wGet (binA .add t75 (.val (.string ⟨#[41]⟩))) H fun t76 H =>
                          R t76 H) (
                          R (.val (.string ⟨#[]⟩)) H)))))))))))

/-- strings.Join -/
def strings_Join (E : Env) (P : Program) (a0 a1 : AV) (H : AH) (R : Kt) : Prop :=
  wGet (lenA a0) H fun t12 H =>
  wGet (binA .eql t12 (.val (.int .i64 0))) H fun t14 H =>
  wIf t14 (
    R (.val (.string ⟨#[]⟩)) H) (
    wGet (binA .eql t12 (.val (.int .i64 1))) H fun t16 H =>
    wIf t16 (
      wGet (iaddr 1 a0 (.val (.int .i64 0))) H fun t18 H =>
      wGet (load1 t18 H) H fun t19 H =>
      R t19 H) (
      wJoin 1 (fun J1 =>
        wGet (lenS a1) H fun t21 H =>
        wGet (binA .gtr t21 (.val (.int .i64 0))) H fun t22 H =>
        wIf t22 (
          wJoin 0 (fun J2 =>
            wGet (lenS a1) H fun t24 H =>
            wGet (lenA a0) H fun t26 H =>
            wGet (binA .sub t26 (.val (.int .i64 1))) H fun t27 H =>
            wGet (binA .quo (.val (.int .i64 9223372036854775807)) t27) H fun t28 H =>
            wGet (binA .geq t24 t28) H fun t29 H =>
            wIf t29 (
              False) (
              J2 H)) fun H =>
            wGet (lenS a1) H fun t33 H =>
            wGet (lenA a0) H fun t35 H =>
            wGet (binA .sub t35 (.val (.int .i64 1))) H fun t36 H =>
            wGet (binA .mul t33 t36) H fun t37 H =>
            wGet (binA .add (.val (.int .i64 0)) t37) H fun t38 H =>
            J1 t38 H) (
          J1 (.val (.int .i64 0)) H)) fun t5 H =>
        wGet (lenA a0) H fun t40 H =>
        wLoop 2 (fun I3 => I3 t5 (.val (.int .i64 0)) H) fun I3 t5_1 t41 H =>
          wGet (binA .lss t41 t40) H fun t42 H =>
          wIf t42 (
            wGet (iaddr 1 a0 t41) H fun t43 H =>
            wGet (load1 t43 H) H fun t44 H =>
            wJoin 0 (fun J4 =>
              wGet (lenS t44) H fun t46 H =>
              wGet (binA .sub (.val (.int .i64 9223372036854775807)) t5_1) H fun t48 H =>
              wGet (binA .gtr t46 t48) H fun t49 H =>
              wIf t49 (
                False) (
                J4 H)) fun H =>
              wGet (lenS t44) H fun t53 H =>
              wGet (binA .add t5_1 t53) H fun t54 H =>
              wGet (binA .add t41 (.val (.int .i64 1))) H fun t55 H =>
              I3 t54 t55 H) (
            wNew 2 (some [(.val (.pointer none)), (.val (.slice none 0 0))]) H fun t8 H =>
            wCall E P 119 [t8, t5_1] H fun t57 H =>
            wGet (iaddr 1 a0 (.val (.int .i64 0))) H fun t59 H =>
            wGet (load1 t59 H) H fun t60 H =>
            wCall E P 120 [t8, t60] H fun t61 H =>
            wGet (sliceA 1 a0 (some (.val (.int .i64 1))) none H) H fun t63 H =>
            wGet (lenA t63) H fun t64 H =>
            wLoop 1 (fun I5 => I5 (.val (.int .i64 0)) H) fun I5 t65 H =>
              wGet (binA .lss t65 t64) H fun t66 H =>
              wIf t66 (
                wGet (iaddr 1 t63 t65) H fun t67 H =>
                wGet (load1 t67 H) H fun t68 H =>
                wCall E P 120 [t8, a1] H fun t70 H =>
                wCall E P 120 [t8, t68] H fun t72 H =>
                wGet (binA .add t65 (.val (.int .i64 1))) H fun t73 H =>
                I5 t73 H) (
                wCall E P 121 [t8] H fun t74 H =>
                R t74 H))))

/-- (*strings.Builder).Grow -/
def pstrings_Builder_Grow (E : Env) (P : Program) (a0 a1 : AV) (H : AH) (R : Kt) : Prop :=
  wCall E P 122 [a0] H fun t5 H =>
  wJoin 0 (fun J1 =>
    wGet (binA .lss a1 (.val (.int .i64 0))) H fun t7 H =>
    wIf t7 (
      False) (
      J1 H)) fun H =>
    wGet (nilA a0) H fun t10 H =>
    wGet (faddr 1 t10) H fun t11 H =>
    wGet (load1 t11 H) H fun t12 H =>
    wGet (nilA a0) H fun t15 H =>
    wGet (faddr 1 t15) H fun t16 H =>
    wGet (load1 t16 H) H fun t17 H =>
    wGet (lenA t17) H fun t18 H =>
    False

/-- (*strings.Builder).WriteString -/
def pstrings_Builder_WriteString (E : Env) (P : Program) (a0 a1 : AV) (H : AH) (R : Kt) : Prop :=
  wCall E P 122 [a0] H fun t7 H =>
  wGet (nilA a0) H fun t10 H =>
  wGet (faddr 1 t10) H fun t11 H =>
  wGet (load1 t11 H) H fun t12 H =>
  wApp 1 1 t12 a1 H fun t14 H =>
  wGet (nilA a0) H fun t15 H =>
  wGet (faddr 1 t15) H fun t16 H =>
  wPut (store1 t16 t14 H) fun _u H =>
  wGet (lenS a1) H fun t18 H =>
  R (.tup [t18, (.val (.nilIface))]) H

/-- (*strings.Builder).String -/
def pstrings_Builder_String (E : Env) (P : Program) (a0 : AV) (H : AH) (R : Kt) : Prop :=
  wGet (nilA a0) H fun t4 H =>
  wGet (faddr 1 t4) H fun t5 H =>
  wGet (load1 t5 H) H fun t6 H =>
  wGet (nilA a0) H fun t9 H =>
  wGet (faddr 1 t9) H fun t10 H =>
  wGet (load1 t10 H) H fun t11 H =>
  wGet (lenA t11) H fun t12 H =>
  False

/-- (*strings.Builder).copyCheck -/
def pstrings_Builder_copyCheck (E : Env) (P : Program) (a0 : AV) (H : AH) (R : Kt) : Prop :=
  wGet (nilA a0) H fun t3 H =>
  wGet (faddr 0 t3) H fun t4 H =>
  wGet (load1 t4 H) H fun t5 H =>
  wBool (eqA .ptr t5 (.val (.pointer none))) H false fun t6 H =>
  wIf t6 (
    wGet (convA .unsafePointer a0) H fun t9 H =>
    wCall E P 123 [t9] H fun t10 H =>
    wGet (convA (.pointer 0) t10) H fun t11 H =>
    wGet (nilA a0) H fun t12 H =>
    wGet (faddr 0 t12) H fun t13 H =>
    wPut (store1 t13 t11 H) fun _u H =>
    R (.tup []) H) (
    wGet (nilA a0) H fun t15 H =>
    wGet (faddr 0 t15) H fun t16 H =>
    wGet (load1 t16 H) H fun t17 H =>
    wBool (eqA .ptr t17 a0) H true fun t19 H =>
    wIf t19 (
      False) (
      R (.tup []) H))

/-- (*strings.Builder).grow -/
def pstrings_Builder_grow (E : Env) (P : Program) (a0 a1 : AV) (H : AH) (R : Kt) : Prop :=
  wGet (nilA a0) H fun t6 H =>
  wGet (faddr 1 t6) H fun t7 H =>
  wGet (load1 t7 H) H fun t8 H =>
  wGet (nilA a0) H fun t15 H =>
  wGet (faddr 1 t15) H fun t16 H =>
  wGet (load1 t16 H) H fun t17 H =>
  wGet (lenA t17) H fun t18 H =>
  False

end Go.Sc.F
