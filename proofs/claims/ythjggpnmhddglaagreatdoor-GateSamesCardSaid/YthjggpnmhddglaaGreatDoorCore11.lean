/- CONTRACTS: package gate: Check, Solve; the reference's GateCheck, GateSolve. THE LAW GateSolves, out of the contracts. THE LAW GateSolves: the body. CONTRACTS: package gate: an expression's clauses. THE LAW CoverShows, out of the contracts. CONTRACTS: package gate: an expression's clauses: Of. CONTRACTS: the reference's GateOf. CONTRACTS: the reference's GateOf, whole. TSEITIN: an expression can hold just if its clauses can; what is made tidy asks of no new names. CONTRACTS: package gate: Same. CONTRACTS: the reference's both, cases, GateSame. (of the seat YthjggpnmhddglaaGreatDoor) -/
import Derived.Test.YthjggpnmhddglaaGreatDoorCore10
namespace Go.Sc
open Go
set_option linter.unusedSimpArgs false
set_option linter.unusedVariables false
set_option linter.unnecessarySimpa false
def badL (v x : Int) : Bool := decide (x = 0) || (decide (v < x) || decide (x < -v))
def gcheckAt (v : Int) (all : List (List Int)) (i : Nat) : Err := if (row all i).any (badL v) then some (2, some i) else none
def gcheck (v : Int) (all : List (List Int)) : Err := if v < 0 ∨ 1000 < v ∨ 3000 < all.length then some (4, none) else (List.range all.length).findSome? (gcheckAt v all)
def Cl (v : Int) (all : List (List Int)) : AV := .agg [Z v, LLI all]
theorem Cl_closed (v : Int) (all : List (List Int)) : (Cl v all).closed := by simp [Cl, AV.closed, AV.closedL, LLI_closed]
theorem gcheck_ok {v : Int} {all : List (List Int)} (h : gcheck v all = none) : 0 ≤ v ∧ v ≤ 1000 ∧ all.length ≤ 3000 ∧ ∀ c ∈ all, ∀ x ∈ c, okLit v.toNat x := by
  unfold gcheck at h
  split at h
  · cases h
  · rename_i hn
    refine ⟨by omega, by omega, by omega, fun c hc x hx => ?_⟩
    rw [List.findSome?_eq_none_iff] at h
    obtain ⟨i, hi, rfl⟩ := List.getElem_of_mem hc
    have := h i (List.mem_range.2 hi)
    unfold gcheckAt at this
    split at this
    · cases this
    · rename_i ha
      have hr : row all i = all[i] := by simp [row, List.getElem?_eq_getElem hi]
      rw [hr, Bool.not_eq_true, List.any_eq_false] at ha
      have hb := ha x hx
      simp only [badL, Bool.or_eq_true, decide_eq_true_eq, not_or] at hb
      unfold okLit
      omega
structure GateBodies0 (E : Env) (P : Program) : Prop where
  s : SolverBodies E P
  con : Body2 E P 59 F.slices_ContainsFunc_Lint_int
  ixi : Body2 E P 66 F.slices_IndexFunc_Lint_int
  check : Body1 E P 101 F.gate_Check
  check1 : Body2 E P 106 F.gate_Check_c1
  solve : Body1 E P 100 F.gate_Solve
section
variable {E : Env} {P : Program}
theorem gCheck1_spec (B : GateBodies0 E P) {v : Int} (hv : 0 ≤ v ∧ v ≤ 1000) (all : List (List Int)) (x : Int) : FX E P 106 [Z x, .ptrF [Z v, LLI all] 0] (Bo (badL v x)) := by
  refine FX.of' (by simp [AV.closedL, AV.closed, LLI_closed]) (by simp [AV.closed]) fun n R hR => B.check1 _ _ _ _ ?_
  unfold F.gate_Check_c1
  simp only [nd0, Y1n, Y1o, Y1p, Y1q, Y1w, Y1x, Y1y, Y1z, Y20, Y21, Y28, Y2a, AV.cells?, Nat.reduceAdd, Nat.reduceMul]
  by_cases h1 : x = 0
  · simp only [nd0, Y1n, Y1o, Y1p, Y1q, Y1w, Y1x, Y1y, Y1z, Y20, Y21, Y28, Y2a, AV.cells?, Nat.reduceAdd, Nat.reduceMul, decide_eq_true h1]
    exact hR _ _ (by simp [badL, h1])
  simp only [nd0, Y1n, Y1o, Y1p, Y1q, Y1w, Y1x, Y1y, Y1z, Y20, Y21, Y28, Y2a, AV.cells?, Nat.reduceAdd, Nat.reduceMul, decide_eq_false h1]
  by_cases h2 : v < x
  · simp only [nd0, Y1n, Y1o, Y1p, Y1q, Y1w, Y1x, Y1y, Y1z, Y20, Y21, Y28, Y2a, AV.cells?, Nat.reduceAdd, Nat.reduceMul, decide_eq_true h2]
    exact hR _ _ (by simp [badL, h2])
  simp only [nd0, Y1n, Y1o, Y1p, Y1q, Y1w, Y1x, Y1y, Y1z, Y20, Y21, Y28, Y2a, AV.cells?, Nat.reduceAdd, Nat.reduceMul, decide_eq_false h2]
  rw [neg_Z (by omega)]
  simp only [nd0, Y1n, Y1o, Y1p, Y1q, Y1w, Y1x, Y1y, Y1z, Y20, Y21, Y28, Y2a, AV.cells?, Nat.reduceAdd, Nat.reduceMul]
  exact hR _ _ (by simp [badL, h1, h2])
theorem gCheck_spec (B : GateBodies0 E P) (v : Int) (all : List (List Int)) (hl : all.length < 140737488355328) (hw : ∀ c ∈ all, c.length < 140737488355328) : FX E P 101 [Cl v all] (errA (gcheck v all)) := by
  refine FX.of' (by simp [AV.closedL, Cl_closed]) (errA_closed _) fun n R hR => B.check _ _ _ ?_
  unfold F.gate_Check Cl
  refine wNew.F' (l := [Z v, LLI all]) rfl ?_
  simp only [nd0, Y1n, Y1o, Y1p, Y1q, Y1w, Y1x, Y1y, Y1z, Y20, Y21, Y28, Y2a, AV.cells?, Nat.reduceAdd, Nat.reduceMul]
  have out4 : ∀ H, (v < 0 ∨ 1000 < v ∨ 3000 < all.length) → R (.ifc 1 (Z 4)) H := fun H h => hR _ _ (by unfold gcheck; rw [if_pos h]; rfl)
  by_cases h1 : v < 0
  · simp only [nd0, Y1n, Y1o, Y1p, Y1q, Y1w, Y1x, Y1y, Y1z, Y20, Y21, Y28, Y2a, AV.cells?, Nat.reduceAdd, Nat.reduceMul, decide_eq_true h1]
    exact out4 _ (.inl h1)
  simp only [nd0, Y1n, Y1o, Y1p, Y1q, Y1w, Y1x, Y1y, Y1z, Y20, Y21, Y28, Y2a, AV.cells?, Nat.reduceAdd, Nat.reduceMul, decide_eq_false h1]
  by_cases h2 : 1000 < v
  · simp only [nd0, Y1n, Y1o, Y1p, Y1q, Y1w, Y1x, Y1y, Y1z, Y20, Y21, Y28, Y2a, AV.cells?, Nat.reduceAdd, Nat.reduceMul, decide_eq_true h2]
    exact out4 _ (.inr (.inl h2))
  simp only [nd0, Y1n, Y1o, Y1p, Y1q, Y1w, Y1x, Y1y, Y1z, Y20, Y21, Y28, Y2a, AV.cells?, Nat.reduceAdd, Nat.reduceMul, decide_eq_false h2, lenA_LLI]
  by_cases h3 : (3000 : Int) < all.length
  · simp only [nd0, Y1n, Y1o, Y1p, Y1q, Y1w, Y1x, Y1y, Y1z, Y20, Y21, Y28, Y2a, AV.cells?, Nat.reduceAdd, Nat.reduceMul, decide_eq_true h3]
    exact out4 _ (by omega)
  simp only [nd0, Y1n, Y1o, Y1p, Y1q, Y1w, Y1x, Y1y, Y1z, Y20, Y21, Y28, Y2a, AV.cells?, Nat.reduceAdd, Nat.reduceMul, decide_eq_false h3, lenA_LLI]
  have hchk : gcheck v all = (List.range all.length).findSome? (gcheckAt v all) := by unfold gcheck; rw [if_neg (by omega)]
  refine wLoop.one (fun m x H => ∃ i : Nat, i + m = all.length ∧ x = Z i ∧ ∀ j, j < i → gcheckAt v all j = none) all.length (gh1.mk ⟨0, by omega, rfl, by simp⟩) ?_
  rintro m x H ⟨i, him, rfl, hpre⟩
  by_cases hi : i < all.length
  case neg =>
    have : i = all.length := by omega
    subst this
    simp only [nd0, Y1n, Y1o, Y1p, Y1q, Y1w, Y1x, Y1y, Y1z, Y20, Y21, Y28, Y2a, AV.cells?, Nat.reduceAdd, Nat.reduceMul, Int.lt_irrefl]
    refine hR _ _ ?_
    rw [hchk, findSome_none_of]
    · rfl
    · intro j hj; exact hpre j (List.mem_range.1 hj)
  simp only [nd0, Y1n, Y1o, Y1p, Y1q, Y1w, Y1x, Y1y, Y1z, Y20, Y21, Y28, Y2a, AV.cells?, Nat.reduceAdd, Nat.reduceMul, decide_eq_true (show (i : Int) < (all.length : Int) by omega)]
  rw [iaddr_LLI hi]
  simp only [nd0, Y1n, Y1o, Y1p, Y1q, Y1w, Y1x, Y1y, Y1z, Y20, Y21, Y28, Y2a, AV.cells?, Nat.reduceAdd, Nat.reduceMul, row_get hi]
  have hri : row all i ∈ all := by unfold row; rw [List.getElem?_eq_getElem hi]; exact List.getElem_mem hi
  have hrl : (row all i).length < 1099511627776000 := by have := hw _ hri; omega
  refine wCall.fx (ContainsFunc_spec B.con B.ixi (k := 106) (cs := [.ptrF [Z v, LLI all] 0]) (p := badL v) (row all i) (by have := hw _ hri; omega) (by simp [AV.closedL, AV.closed, LLI_closed]) fun x _ => gCheck1_spec B (by omega) all x) fun n2 => ?_
  cases hany : (row all i).any (badL v) with
  | true =>
    simp only [nd0, Y1n, Y1o, Y1p, Y1q, Y1w, Y1x, Y1y, Y1z, Y20, Y21, Y28, Y2a, AV.cells?, Nat.reduceAdd, Nat.reduceMul]
    refine ⟨⟨[Z 2, Z i], rfl, ?_⟩⟩
    refine wNew.F' (l := [Z 2, Z i]) rfl ?_
    refine hR _ _ ?_
    rw [hchk, findSome_range hi hpre (show gcheckAt v all i = some (2, some i) by simp [gcheckAt, hany])]
    rfl
  | false =>
    simp only [nd0, Y1n, Y1o, Y1p, Y1q, Y1w, Y1x, Y1y, Y1z, Y20, Y21, Y28, Y2a, AV.cells?, Nat.reduceAdd, Nat.reduceMul]
    rw [binA_succ (by omega)]
    simp only [nd0, Y1n, Y1o, Y1p, Y1q, Y1w, Y1x, Y1y, Y1z, Y20, Y21, Y28, Y2a, AV.cells?, Nat.reduceAdd, Nat.reduceMul]
    refine back1.mk (m - 1) (by omega) ⟨i + 1, by omega, rfl, fun j hj => ?_⟩
    by_cases hji : j < i
    · exact hpre j hji
    · have : j = i := by omega
      subst this
      simp [gcheckAt, hany]
end
end Go.Sc
namespace Go.Sc
open Go
set_option linter.unusedSimpArgs false
set_option linter.unusedVariables false
set_option linter.unnecessarySimpa false
theorem cell_rep (n i : Nat) : cell (List.replicate n 0) i = 0 := by
  unfold cell; rw [List.getElem?_replicate]; split <;> rfl
theorem rep_Z (n : Nat) : (List.replicate n [Z 0]).flatten = (List.replicate n (0 : Int)).map fun z => Z z := by
  refine List.ext_getElem? fun j => ?_
  by_cases hj : j < n <;> simp [hj]
theorem sol0 (V : Nat) : Sol V (List.replicate (V + 1) 0) := ⟨by simp, fun i => .inl (cell_rep _ i)⟩
theorem opens_le (V : Nat) (of : List Int) : opens V of ≤ V := by
  unfold opens
  refine Nat.le_trans List.countP_le_length ?_
  simp
theorem pow9 {V : Nat} (h : V ≤ 8) : (2 : Int) ^ (V + 1) ≤ 512 := by
  have : V = 0 ∨ V = 1 ∨ V = 2 ∨ V = 3 ∨ V = 4 ∨ V = 5 ∨ V = 6 ∨ V = 7 ∨ V = 8 := by omega
  rcases this with rfl | rfl | rfl | rfl | rfl | rfl | rfl | rfl | rfl <;> decide
theorem pow8 {V : Nat} (h : V ≤ 8) : 2 ^ V ≤ 256 := Nat.pow_le_pow_right (n := 2) (by decide) h
theorem shl_is {V : Nat} (h : V ≤ 8) : binA .shl (.val (.int .i64 1)) (Z V) = some (Z ((2 ^ V : Nat) : Int)) := by
  have : V = 0 ∨ V = 1 ∨ V = 2 ∨ V = 3 ∨ V = 4 ∨ V = 5 ∨ V = 6 ∨ V = 7 ∨ V = 8 := by omega
  rcases this with rfl | rfl | rfl | rfl | rfl | rfl | rfl | rfl | rfl <;> rfl
theorem shr_is {k s : Nat} (h : s ≤ 8) : binA .shr (Z k) (Z s) = some (Z ((k / 2 ^ s : Nat) : Int)) := by
  simp only [binA]
  rw [if_neg (by omega)]
  have hm : min (s : Int).toNat IntKind.i64.bits = s := by
    rw [Int.toNat_natCast]; exact Nat.min_eq_left (Nat.le_trans h (by decide))
  rw [hm]
  congr 3
  rw [Int.fdiv_eq_ediv_of_nonneg _ (Int.pow_nonneg (by decide))]
  simp
theorem and_is {q : Nat} (h : q < 1000000) : binA .and (Z q) (.val (.int .i64 1)) = some (Z ((q % 2 : Nat) : Int)) := by
  simp only [binA, intBin, if_true, Option.map_some]
  congr 3
  have e : (BitVec.ofInt 64 (q : Int) &&& BitVec.ofInt 64 1).toNat = q % 2 := by
    rw [BitVec.toNat_and]
    have h1 : (BitVec.ofInt 64 (q : Int)).toNat = q := by
      rw [BitVec.toNat_ofInt]
      omega
    have h2 : (BitVec.ofInt 64 (1 : Int)).toNat = 1 := by decide
    rw [h1, h2, Nat.and_one_is_mod]
  show IntKind.i64.wrap ((BitVec.ofInt 64 (q : Int) &&& BitVec.ofInt 64 1).toNat : Int) = _
  rw [e, wrap_i64 (by omega)]
def outB (V : Nat) (a : Nat → Bool) : List Bool := (List.range V).map fun i => a (i + 1)
theorem outB_len (V : Nat) (a : Nat → Bool) : (outB V a).length = V := by simp [outB]
def SolveR (V : Nat) (all : List (List Int)) (r : AV) : Prop :=
  (∃ of', SearchT V all (List.replicate (V + 1) 0) of' ∧ r = .tup [LB (outB V (asg of')), nilE]) ∨ (SearchF V all (List.replicate (V + 1) 0) ∧ r = .tup [LB [], .ifc 1 (Z 8)])
section
variable {E : Env} {P : Program}
set_option maxHeartbeats 1000000 in
theorem Solve_specN (B : GateBodies0 E P) (V : Nat) (all : List (List Int)) (μ : List Int → Nat) (m1 : ∀ {of tr of' tr' : List Int}, Grow V of tr of' tr' → μ of' ≤ μ of)
    (m2 : ∀ {of o : List Int} (x : Int), Sol V o → SpreadOk V all of o true → okLit V x → cell o (vr x) = 0 → (∀ i, 1 ≤ i → i < vr x → cell o i ≠ 0) → μ (litSet o x) < μ o)
    {N : Nat} (hN : N ≤ 8) (hmu : μ (List.replicate (V + 1) 0) ≤ N) (hV : V ≤ 1000) (hc : gcheck V all = none) (hn1 : all.length ≤ 4000) (hn2 : ∀ c ∈ all, c.length ≤ 1000) : FR E P 100 [Cl V all] (SolveR V all) := by
  obtain ⟨_, _, _, hall⟩ := gcheck_ok hc
  rw [Int.toNat_natCast] at hall
  refine FR.of (by simp [AV.closedL, Cl_closed]) (fun r hr => ?_) fun n R hR => B.solve _ _ _ ?_
  · rcases hr with ⟨o, _, rfl⟩ | ⟨_, rfl⟩ <;> simp [AV.closed, AV.closedL, LB_closed]
  have hck := gCheck_spec B (V : Int) all (by omega) (fun c h => by have := hn2 c h; omega)
  unfold F.gate_Solve
  rw [show AV.cells? (Cl V all) = some [Z V, LLI all] from rfl]
  refine wNew.F' (l := [Z V, LLI all]) rfl ?_
  simp only [nd0, Y1n, Y1o, Y1p, Y1q, Y1w, Y1x, Y1y, Y1z, Y20, Y21, Y28, Y2a, AV.cells?, Nat.reduceAdd, Nat.reduceMul]
  rw [hc] at hck
  refine wCall.fx hck fun n1 => ?_
  simp only [errA]
  simp only [nd0, Y1n, Y1o, Y1p, Y1q, Y1w, Y1x, Y1y, Y1z, Y20, Y21, Y28, Y2a, AV.cells?, Nat.reduceAdd, Nat.reduceMul]
  rw [binA_succ (by omega)]
  simp only [nd0, Y1n, Y1o, Y1p, Y1q, Y1w, Y1x, Y1y, Y1z, Y20, Y21, Y28, Y2a, AV.cells?, Nat.reduceAdd, Nat.reduceMul]
  refine wMake.L (makeA_n (n := V + 1) (by simp [mostBytes]; omega)) ?_
  simp only [nd0, Y1n, Y1o, Y1p, Y1q, Y1w, Y1x, Y1y, Y1z, Y20, Y21, Y28, Y2a, AV.cells?, Nat.reduceAdd, Nat.reduceMul, and_self, true_and]
  refine ⟨⟨[Z V, LLI all, .slL 0 0 (V + 1) n1, nilS, Z 0], rfl, ?_⟩⟩
  refine wNew.L (l := [Z V, LLI all, .slL 0 0 (V + 1) n1, nilS, Z 0]) rfl ?_
  simp only [nd0, Y1n, Y1o, Y1p, Y1q, Y1w, Y1x, Y1y, Y1z, Y20, Y21, Y28, Y2a, AV.cells?, Nat.reduceAdd, Nat.reduceMul, rep_Z]
  have h9 := pow9 hN
  have hsp := search_specN (ga := n1) (gs := n1 + 1) (V := V) (all := all) B.s μ m1 m2 (by omega) hall hn1 hn2 N (List.replicate (V + 1) 0) [] 0 (gH n1 (n1 + 1) V all (List.replicate (V + 1) 0) nilS 0 [] (n1 + 1 + 1)) (sol0 V) (by simp) (by have := opens_le V (List.replicate (V + 1) 0); simpa using this) hmu (by omega) (by omega) ⟨_, _, _, rfl, .inl ⟨rfl, rfl, rfl⟩⟩
  refine ⟨_, hsp, ?_⟩
  rintro r H ⟨st, s1, s2, ⟨of', tr', rfl, hso, hT, hH⟩ | ⟨rfl, hF, hH⟩⟩
  case inr =>
    simp only [nd0, Y1n, Y1o, Y1p, Y1q, Y1w, Y1x, Y1y, Y1z, Y20, Y21, Y28, Y2a, AV.cells?, Nat.reduceAdd, Nat.reduceMul]
    exact hR _ _ _ (.sub (.tup (.cons .nil (.one (.refl _))))) (.inr ⟨hF, rfl⟩)
  simp only [nd0, Y1n, Y1o, Y1p, Y1q, Y1w, Y1x, Y1y, Y1z, Y20, Y21, Y28, Y2a, AV.cells?, Nat.reduceAdd, Nat.reduceMul]
  obtain ⟨xx, tb, c, rfl, ht⟩ := hH
  have hl := hso.len
  unfold gH
  simp only [nd0, Y1n, Y1o, Y1p, Y1q, Y1w, Y1x, Y1y, Y1z, Y20, Y21, Y28, Y2a, AV.cells?, Nat.reduceAdd, Nat.reduceMul]
  have hsl : ∀ H : AH, H.esz 0 n1 = some 1 → sliceA 1 (.slL 0 0 (V + 1) n1) (some (.val (.int .i64 1))) none H = some (.slL 0 1 V n1) := fun H hH => by
    simp only [sliceA, bnd, Option.bind_some, hH, true_and]
    rw [if_pos (by omega)]
    simp
  rw [hsl _ (by simp [AH.esz])]
  simp only [nd0, Y1n, Y1o, Y1p, Y1q, Y1w, Y1x, Y1y, Y1z, Y20, Y21, Y28, Y2a, AV.cells?, Nat.reduceAdd, Nat.reduceMul]
  have hg1 : Ghost [.val (.slice none 0 0), .val (.int .i64 0)] ⟨.cells n1 1 (of'.map fun z => Z z) :: .cells (n1 + 1) 5 [Z V, LLI all, .slL 0 0 (V + 1) n1, xx, Z st] :: tb, c⟩ [.val (.slice none 0 0), .val (.int .i64 0)] ⟨[.cells n1 1 (of'.map fun z => Z z)], c⟩ :=
    ghost_kill (H := ⟨.cells n1 1 (of'.map fun z => Z z) :: .cells (n1 + 1) 5 [Z V, LLI all, .slL 0 0 (V + 1) n1, xx, Z st] :: tb, c⟩) (H' := ⟨[.cells n1 1 (of'.map fun z => Z z)], c⟩) (S := fun i => decide (1 ≤ i)) rfl (.keep rfl (KB.same _) (.cut fun j x _ => .inl (by simp))) (FkL.same _)
  refine wLoop.two (fun m t i H => ∃ (q : Nat) (z : Blk) (c : Nat), q + m = V ∧ i = Z q ∧ H = ⟨[.cells n1 1 (of'.map fun z => Z z), z], c⟩ ∧ Gr 1 z 1 t (((outB V (asg of')).take q).map fun b => Bo b) q) V
    (gh2.of (hg1.trans (ghost_room [.dead] (by simp))) ⟨0, .dead, _, by omega, rfl, rfl, .nil⟩) ?_
  rintro m t i H ⟨q, z, c2, hqm, rfl, rfl, hg⟩
  by_cases hq : q < V
  · simp only [nd0, Y1n, Y1o, Y1p, Y1q, Y1w, Y1x, Y1y, Y1z, Y20, Y21, Y28, Y2a, AV.cells?, Nat.reduceAdd, Nat.reduceMul, decide_eq_true (show (q : Int) < (V : Int) by omega)]
    rw [iaddr_L (by omega)]
    have hgt : (of'.map fun z => Z z)[1 + q]? = some (Z (cell of' (1 + q))) := cell_at (by omega)
    simp only [nd0, Y1n, Y1o, Y1p, Y1q, Y1w, Y1x, Y1y, Y1z, Y20, Y21, Y28, Y2a, AV.cells?, Nat.reduceAdd, Nat.reduceMul, hgt]
    refine wNewS.F' (l := [Bo (decide (cell of' (1 + q) = 1))]) rfl rfl ?_
    refine wApp.one (bytes := 1) hg rfl (by simp [outB_len]; omega) (.refl _) rfl (by simp [mostBytes]; omega) fun z' x' c' hg' => ?_
    simp only [nd0, Y1n, Y1o, Y1p, Y1q, Y1w, Y1x, Y1y, Y1z, Y20, Y21, Y28, Y2a, AV.cells?, Nat.reduceAdd, Nat.reduceMul]
    rw [binA_succ (by omega)]
    simp only [nd0, Y1n, Y1o, Y1p, Y1q, Y1w, Y1x, Y1y, Y1z, Y20, Y21, Y28, Y2a, AV.cells?, Nat.reduceAdd, Nat.reduceMul]
    refine back2.mk (m - 1) (by omega) ⟨q + 1, z', c', by omega, rfl, rfl, ?_⟩
    rw [List.take_succ_eq_append_getElem (by rw [outB_len]; exact hq)]
    simpa [outB, asg, Nat.add_comm] using hg'
  · have : q = V := by omega
    subst this
    simp only [nd0, Y1n, Y1o, Y1p, Y1q, Y1w, Y1x, Y1y, Y1z, Y20, Y21, Y28, Y2a, AV.cells?, Nat.reduceAdd, Nat.reduceMul, Int.lt_irrefl]
    refine hR _ (.tup [LB (outB q (asg of')), nilE]) _ (.sub (.tup (.cons ?_ (.one (.refl _))))) (.inl ⟨of', hT, rfl⟩)
    have := hg.sub
    rw [List.take_of_length_le (by rw [outB_len]; omega)] at this
    unfold LB Lm
    rw [outB_len]
    exact this
end
end Go.Sc
namespace Go.Sc
open Go
set_option linter.unusedSimpArgs false
set_option linter.unusedVariables false
set_option linter.unnecessarySimpa false
theorem nameOk_len {s : Str} (h : nameOk s = true) : s.length ≤ 8 := by
  cases s with
  | nil => simp
  | cons c r => simp only [nameOk, Bool.and_eq_true, decide_eq_true_eq] at h; exact h.1.2
/-! ### the map of names: numbers from 1 on, in order -/
theorem keyEq_S (a b : Str) : keyEq (S a) (S b) = some (decide (a = b)) := by
  simp only [keyEq]
  congr 1
  rw [Bool.eq_iff_iff, MapKept.bytes_beq, decide_eq_true_iff]
  constructor
  · intro h
    have := congrArg (fun x : ByteArray => x.data.toList) h
    simpa using this
  · rintro rfl; rfl
theorem findK_S (k : Str) : ∀ (ks : List Str) (i : Nat), findK (S k) (ks.map fun s => S s) i = some (if k ∈ ks then some (i + ixN ks k) else none)
  | [], i => by simp [findK]
  | x :: ks, i => by
    simp only [List.map_cons, findK, keyEq_S]
    by_cases h : k = x
    · subst h
      simp only [decide_eq_true rfl]
      have := ixN_app (pre := []) (rest := ks) (s := k) (by simp)
      simp at this
      simp [this]
    · rw [decide_eq_false h]
      simp only [findK_S k ks (i + 1), List.mem_cons, h, false_or]
      by_cases hm : k ∈ ks
      · obtain ⟨pre, rest, rfl, hn⟩ := mem_split hm
        have e1 := ixN_app (rest := rest) hn
        have e2 := ixN_app (pre := x :: pre) (rest := rest) (s := k) (by simp [h, hn])
        simp only [List.cons_append, List.length_cons] at e2
        rw [if_pos hm, if_pos hm, e1, e2]
        congr 2; omega
      · rw [if_neg hm, if_neg hm]
def nums (n : Nat) : List AV := (List.range n).map fun i => Z ((i + 1 : Nat) : Int)
def nmv (ks : List Str) (s : Str) : Int := if s ∈ ks then ((ixN ks s + 1 : Nat) : Int) else 0
theorem get_nm (ks : List Str) (s : Str) : mapGet (Z 0) false (S s) (ks.map fun s => S s) (nums ks.length) = some (Z (nmv ks s)) := by
  simp only [mapGet, findK_S, nmv]
  by_cases h : s ∈ ks
  · rw [if_pos h, if_pos h]
    simp only [Nat.zero_add]
    have := ixN_lt h
    rw [show (nums ks.length)[ixN ks s]? = some (Z ((ixN ks s + 1 : Nat) : Int)) by unfold nums; rw [List.getElem?_map, List.getElem?_range this]; rfl]
    rfl
  · rw [if_neg h, if_neg h]; rfl
/-! ### the builder: its block, the clauses' block, the map's -/
def SG (r0 : Blk) (ks : List Str) (b : Bd) (g0 g2 : Nat) (tb : List Blk) (H : AH) : Prop := ∃ z t c, H = ⟨r0 :: .map g2 (ks.map fun s => S s) (nums ks.length) :: .cells g0 3 [Z b.vars, t, .mapL 1 g2] :: z :: tb, c⟩ ∧ Gr 1 z 3 t (b.cl.map LI) b.cl.length
structure MakeBodies (E : Env) (P : Program) : Prop where
  add : Body2 E P 237 F.pgate_builder_add
  and : Body2 E P 236 F.pgate_builder_and
  fresh : Body1 E P 234 F.pgate_builder_fresh
  lit : Body2 E P 235 F.pgate_builder_lit
  of : Body1 E P 233 F.gate_Of
section
variable {E : Env} {P : Program} {ks : List Str} {g0 g2 : Nat} {r0 : Blk}
theorem gFresh_spec (B : MakeBodies E P) {b : Bd} {tb : List Blk} (hv : b.vars < 100000) {H : AH} (hH : SG r0 ks b g0 g2 tb H) : ACalls E P 234 [.ptrL 2 0 g0] H fun r H' => r = Z ((b.vars + 1 : Nat) : Int) ∧ SG r0 ks ⟨b.vars + 1, b.cl⟩ g0 g2 tb H' := by
  obtain ⟨z, t, c, rfl, hg⟩ := hH
  refine B.fresh _ _ _ ?_
  unfold F.pgate_builder_fresh
  simp only [nd0, Y1n, Y1o, Y1p, Y1q, Y1w, Y1x, Y1y, Y1z, Y20, Y21, Y28, Y2a, AV.cells?, Nat.reduceAdd, Nat.reduceMul]
  rw [binA_succ (by omega)]
  simp only [nd0, Y1n, Y1o, Y1p, Y1q, Y1w, Y1x, Y1y, Y1z, Y20, Y21, Y28, Y2a, AV.cells?, Nat.reduceAdd, Nat.reduceMul]
  rw [store1_L rfl]
  simp only [nd0, Y1n, Y1o, Y1p, Y1q, Y1w, Y1x, Y1y, Y1z, Y20, Y21, Y28, Y2a, AV.cells?, Nat.reduceAdd, Nat.reduceMul, Nat.reduceLT]
  exact ⟨trivial, z, t, c, rfl, hg⟩
theorem gAdd_spec (B : MakeBodies E P) {b : Bd} {tb : List Blk} (hn : b.cl.length < 100000) {H : AH} (hH : SG r0 ks b g0 g2 tb H) (l : List Int) : ACalls E P 237 [.ptrL 2 0 g0, LI l] H fun r H' => r = .tup [] ∧ SG r0 ks ⟨b.vars, b.cl ++ [l]⟩ g0 g2 tb H' := by
  obtain ⟨z, t, c, rfl, hg⟩ := hH
  refine B.add _ _ _ _ ?_
  unfold F.pgate_builder_add
  simp only [nd0, Y1n, Y1o, Y1p, Y1q, Y1w, Y1x, Y1y, Y1z, Y20, Y21, Y28, Y2a, AV.cells?, Nat.reduceAdd, Nat.reduceMul]
  refine wNewS.F' (l := [LI l]) rfl rfl ?_
  refine wApp.one hg rfl (by simp) (.refl _) rfl (by simp [mostBytes]; omega) fun z' x' c' k' => ?_
  simp only [nd0, Y1n, Y1o, Y1p, Y1q, Y1w, Y1x, Y1y, Y1z, Y20, Y21, Y28, Y2a, AV.cells?, Nat.reduceAdd, Nat.reduceMul]
  rw [store1_L k'.scalar]
  simp only [nd0, Y1n, Y1o, Y1p, Y1q, Y1w, Y1x, Y1y, Y1z, Y20, Y21, Y28, Y2a, AV.cells?, Nat.reduceAdd, Nat.reduceMul, Nat.reduceLT]
  refine ⟨trivial, z', x', c', rfl, ?_⟩
  simpa using k'
theorem set_tail {a b c d w w' : Blk} {tb : List Blk} : (a :: b :: c :: d :: (tb ++ [w])).set (4 + tb.length) w' = a :: b :: c :: d :: (tb ++ [w']) := by
  rw [Nat.add_comm]; simp [List.set_append_right]
theorem get_tail {a b c d w : Blk} {tb : List Blk} : (a :: b :: c :: d :: (tb ++ [w]))[4 + tb.length]? = some w := by
  rw [Nat.add_comm]; simp
theorem SG.drop {b : Bd} {tb : List Blk} {w : Blk} {H : AH} {r : AV} (h : SG r0 ks b g0 g2 (tb ++ [w]) H) : ∃ H', Ghost [r] H [r] H' ∧ SG r0 ks b g0 g2 tb H' := by
  obtain ⟨z, t, c, rfl, hg⟩ := h
  exact ⟨_, ghost_drop (bs := r0 :: .map g2 (ks.map fun s => S s) (nums ks.length) :: .cells g0 3 [Z b.vars, t, .mapL 1 g2] :: z :: tb) w, z, t, c, rfl, hg⟩
/-- one more is put behind a slice of the caller's -/
theorem wApp.tl {b : Bd} {tb : List Blk} {w : Blk} {t : AV} {l : List Int} {x : Int} {H : AH} {K : Kt} (hg : Gr 1 w (4 + tb.length) t (l.map fun z => Z z) l.length) (hH : SG r0 ks b g0 g2 (tb ++ [w]) H) (hl : l.length < 100000)
    (hK : ∀ w' t' H', Gr 1 w' (4 + tb.length) t' ((l ++ [x]).map fun z => Z z) (l ++ [x]).length → SG r0 ks b g0 g2 (tb ++ [w']) H' → K t' H') : wApp 1 8 t (.slN [Z x] 1) H K := by
  obtain ⟨z, t0, c, rfl, hg0⟩ := hH
  refine wApp.one hg get_tail (by simp) (.refl _) rfl (by simp [mostBytes]; omega) fun z' x' c' k' => ?_
  rw [set_tail]
  exact hK z' x' _ (by simpa using k') ⟨z, t0, c', rfl, hg0⟩
theorem gAnd_spec (B : MakeBodies E P) {b : Bd} {tb : List Blk} {l : List Int} (hv : b.vars < 10000) (hn : b.cl.length + l.length < 10000) (hl : ∀ x ∈ l, -1000000 ≤ x ∧ x ≤ 1000000) {H : AH} (hH : SG r0 ks b g0 g2 tb H) :
    ACalls E P 236 [.ptrL 2 0 g0, LI l] H fun r H' => r = Z (andP l b).1 ∧ SG r0 ks (andP l b).2 g0 g2 tb H' := by
  refine ACalls.mono (R := fun r H' => r = Z (andP l b).1 ∧ ∃ w, SG r0 ks (andP l b).2 g0 g2 (tb ++ [w]) H') ?_ (fun r H' ⟨h1, w, h2⟩ => by
    obtain ⟨H2, q1, q2⟩ := h2.drop (r := r)
    exact ⟨r, H2, q1, h1, q2⟩)
  refine B.and _ _ _ _ ?_
  unfold F.pgate_builder_and
  refine ⟨_, gFresh_spec B (by omega) hH, ?_⟩
  rintro r H1 ⟨rfl, z, t, c, rfl, hg⟩
  refine wNewS.T (l := [Z ((b.vars + 1 : Nat) : Int)]) (l' := [Z ((b.vars + 1 : Nat) : Int)]) rfl (.refl _) rfl ?_
  simp only [nd0, Y1n, Y1o, Y1p, Y1q, Y1w, Y1x, Y1y, Y1z, Y20, Y21, Y28, Y2a, AV.cells?, Nat.reduceAdd, Nat.reduceMul]
  rw [show lenA (LI l) = some (Z l.length) from rfl]
  simp only [nd0, Y1n, Y1o, Y1p, Y1q, Y1w, Y1x, Y1y, Y1z, Y20, Y21, Y28, Y2a, AV.cells?, Nat.reduceAdd, Nat.reduceMul]
  refine wLoop.two (fun m t i H => ∃ pre rest w, l = pre ++ rest ∧ i = Z pre.length ∧ m = rest.length ∧ Gr 1 w (4 + tb.length) t ((((b.vars + 1 : Nat) : Int) :: negL pre).map fun z => Z z) (((b.vars + 1 : Nat) : Int) :: negL pre).length ∧ SG r0 ks ⟨b.vars + 1, b.cl ++ pre.map fun x => [-((b.vars + 1 : Nat) : Int), x]⟩ g0 g2 (tb ++ [w]) H) l.length
    (gh2.mk ⟨[], l, .tail c 1, rfl, rfl, rfl, by simp only [List.length_append, List.length_cons, List.length_nil, negL, List.map_nil, List.map_cons]; rw [Nat.add_comm 4]; exact .mk, z, t, c + 1, by simp, by simpa using hg⟩) ?_
  rintro m t i H ⟨pre, rest, w, hpr, rfl, rfl, hg, hH⟩
  have hpl : pre.length ≤ l.length := by rw [hpr]; simp
  cases rest with
  | nil =>
    rw [List.append_nil] at hpr
    subst hpr
    simp only [nd0, Y1n, Y1o, Y1p, Y1q, Y1w, Y1x, Y1y, Y1z, Y20, Y21, Y28, Y2a, AV.cells?, Nat.reduceAdd, Nat.reduceMul, Int.lt_irrefl]
    refine ⟨_, ACalls.args (ghost_sub (.cons (.refl _) (.one hg.sub))) (gAdd_spec B (by simp; omega) hH (((b.vars + 1 : Nat) : Int) :: negL l)), ?_⟩
    rintro r H2 ⟨rfl, h2⟩
    exact ⟨rfl, w, by simpa [andP] using h2⟩
  | cons x rest =>
    have hxm : x ∈ l := by rw [hpr]; simp
    have hlt : pre.length < l.length := by rw [hpr]; simp
    have hx := hl x hxm
    simp only [nd0, Y1n, Y1o, Y1p, Y1q, Y1w, Y1x, Y1y, Y1z, Y20, Y21, Y28, Y2a, AV.cells?, Nat.reduceAdd, Nat.reduceMul, decide_eq_true (show (pre.length : Int) < (l.length : Int) by omega)]
    unfold LI Lm
    rw [iaddr_Nn hlt]
    simp only [nd0, Y1n, Y1o, Y1p, Y1q, Y1w, Y1x, Y1y, Y1z, Y20, Y21, Y28, Y2a, AV.cells?, Nat.reduceAdd, Nat.reduceMul, show (l.map fun z => Z z)[pre.length]? = some (Z x) by rw [hpr]; simp]
    rw [neg_Z (by omega)]
    simp only [nd0, Y1n, Y1o, Y1p, Y1q, Y1w, Y1x, Y1y, Y1z, Y20, Y21, Y28, Y2a, AV.cells?, Nat.reduceAdd, Nat.reduceMul]
    refine wNewS.F' (l := [Z (-((b.vars + 1 : Nat) : Int)), Z x]) rfl rfl ?_
    refine ⟨_, gAdd_spec B (by simp; omega) hH [-((b.vars + 1 : Nat) : Int), x], ?_⟩
    rintro r H2 ⟨rfl, h2⟩
    rw [neg_Z (by omega)]
    simp only [nd0, Y1n, Y1o, Y1p, Y1q, Y1w, Y1x, Y1y, Y1z, Y20, Y21, Y28, Y2a, AV.cells?, Nat.reduceAdd, Nat.reduceMul]
    refine wNewS.F' (l := [Z (-x)]) rfl rfl ?_
    refine wApp.tl (l := ((b.vars + 1 : Nat) : Int) :: negL pre) (x := -x) hg h2 (by simp [negL]; omega) fun w' t' H' hg' hH' => ?_
    rw [binA_succ (by omega)]
    simp only [nd0, Y1n, Y1o, Y1p, Y1q, Y1w, Y1x, Y1y, Y1z, Y20, Y21, Y28, Y2a, AV.cells?, Nat.reduceAdd, Nat.reduceMul]
    refine back2.mk rest.length (by simp) ⟨pre ++ [x], rest, w', by rw [hpr]; simp, by simp, rfl, ?_, ?_⟩
    · simpa [negL] using hg'
    · simpa [List.append_assoc] using hH'
theorem look_nm {b : Bd} {tb : List Blk} {z : Blk} {t : AV} {c : Nat} (s : Str) : lookupA .string (.val (.int .i64 0)) false (.mapL 1 g2) (S s) ⟨r0 :: .map g2 (ks.map fun s => S s) (nums ks.length) :: .cells g0 3 [Z b.vars, t, .mapL 1 g2] :: z :: tb, c⟩ = some (Z (nmv ks s)) := by
  rw [lookupA_L (ks := ks.map fun s => S s) (vs := nums ks.length) rfl rfl]
  exact get_nm ks s
theorem nmv_le (ks : List Str) (s : Str) : 0 ≤ nmv ks s ∧ nmv ks s ≤ ks.length := by
  unfold nmv
  split
  · rename_i h; have := ixN_lt h; omega
  · omega
def LitOk (E : Env) (P : Program) (r0 : Blk) (ks : List Str) (x : Ex) : Prop := ∀ (g0 g2 : Nat) (b : Bd) (tb : List Blk) (H : AH), b.vars + x.size < 5000 → b.cl.length + 4 * x.size < 5000 → nmOk (nmv ks) b.vars x → (∀ c ∈ b.cl, okB b.vars c) → SG r0 ks b g0 g2 tb H →
  ACalls E P 235 [.ptrL 2 0 g0, x.enc] H fun r H' => r = Z (litP (nmv ks) x b).1 ∧ SG r0 ks (litP (nmv ks) x b).2 g0 g2 tb H'
theorem okLit_big {V : Nat} {x : Int} (h : okLit V x) (hv : V ≤ 10000) : -1000000 ≤ x ∧ x ≤ 1000000 := by unfold okLit at h; omega
theorem onL_split {Q Q' : Str → Prop} {x : Ex} {rest : List Ex} : ∀ {pre : List Ex}, Ex.onL Q Q' (pre ++ x :: rest) → Ex.onL Q Q' pre ∧ x.on Q Q'
  | [], h => ⟨trivial, h.1⟩
  | y :: pre, h => ⟨⟨h.1, (onL_split h.2).1⟩, (onL_split h.2).2⟩
/-- the parts of 'and' (of 'or': each turned) -/
theorem litL_loop (B : MakeBodies E P) (mode : Bool) (xs : List Ex) (hx : ∀ x ∈ xs, LitOk E P r0 ks x) {b : Bd} {tb : List Blk} (hv : b.vars + Ex.sizeL xs < 5000) (hn : b.cl.length + 4 * Ex.sizeL xs < 5000) (hnm : nmOkL (nmv ks) b.vars xs) (hb : ∀ c ∈ b.cl, okB b.vars c) {H0 : AH} (hH0 : SG r0 ks b g0 g2 tb H0) {R : Kt}
    (hR : ∀ t w H, SG r0 ks (litsP (nmv ks) xs b).2 g0 g2 (tb ++ [w]) H → Gr 1 w (4 + tb.length) t ((if mode then (litsP (nmv ks) xs b).1 else negL (litsP (nmv ks) xs b).1).map fun z => Z z) xs.length → R t H) :
    wLoop 2 (fun I1 => I1 (.val (.slice none 0 0)) (.val (.int .i64 0)) H0) fun I1 t10 t83 H =>
      wGet (binA .lss t83 (Z xs.length)) H fun t84 H =>
      wIf t84 (
        wGet (iaddr 1 (.slN (Ex.encL xs) xs.length) t83) H fun t85 H =>
        wGet (load1 t85 H) H fun t86 H =>
        wCall E P 235 [.ptrL 2 0 g0, t86] H fun t90 H =>
        wGet (if mode then some t90 else unA .neg t90) H fun t110 H =>
        wNewS 1 1 (fillA (List.replicate 1 [(.val (.int .i64 0))]).flatten [(0, 1, t110)]) H fun t91 H =>
        wApp 1 8 t10 t91 H fun t92 H =>
        wGet (binA .add t83 (.val (.int .i64 1))) H fun t93 H =>
        I1 t92 t93 H) (R t10 H) := by
  obtain ⟨z, t, c, rfl, hg⟩ := hH0
  refine wLoop.two (fun m t i H => ∃ pre rest w, xs = pre ++ rest ∧ i = Z pre.length ∧ m = rest.length ∧ Gr 1 w (4 + tb.length) t ((if mode then (litsP (nmv ks) pre b).1 else negL (litsP (nmv ks) pre b).1).map fun z => Z z) pre.length ∧ SG r0 ks (litsP (nmv ks) pre b).2 g0 g2 (tb ++ [w]) H) xs.length
    (gh2.of (ghost_room [.dead] (by simp)) ⟨[], xs, .dead, rfl, rfl, rfl, by cases mode <;> exact .nil, z, t, c, by simp [litsP], hg⟩) ?_
  rintro m t i H ⟨pre, rest, w, hpr, rfl, rfl, hg, hH⟩
  cases rest with
  | nil =>
    rw [List.append_nil] at hpr
    subst hpr
    simp only [nd0, Y1n, Y1o, Y1p, Y1q, Y1w, Y1x, Y1y, Y1z, Y20, Y21, Y28, Y2a, AV.cells?, Nat.reduceAdd, Nat.reduceMul, Int.lt_irrefl]
    exact hR _ _ _ hH hg
  | cons x rest =>
    have hxm : x ∈ xs := by rw [hpr]; simp
    have hlt : pre.length < xs.length := by rw [hpr]; simp
    have hsum : Ex.sizeL xs = Ex.sizeL pre + (x.size + Ex.sizeL rest) := by rw [hpr, sizeL_app]; rfl
    have hon : nmOkL (nmv ks) b.vars pre ∧ nmOk (nmv ks) b.vars x := by rw [hpr] at hnm; exact onL_split hnm
    have hv1 := litsP_vars (nmv ks) pre b
    have hc1 := litsP_cl (nmv ks) pre b
    have hl1 := litsP_len (nmv ks) pre b
    obtain ⟨ho1, ho2⟩ := litsP_ok (nmv ks) pre b hon.1 hb
    obtain ⟨ho3, ho4⟩ := litP_ok (nmv ks) x _ (nmOk_mono hon.2 hv1.1) ho2
    have hv2 := litP_vars (nmv ks) x (litsP (nmv ks) pre b).2
    have hlen := sizeL_len pre
    simp only [nd0, Y1n, Y1o, Y1p, Y1q, Y1w, Y1x, Y1y, Y1z, Y20, Y21, Y28, Y2a, AV.cells?, Nat.reduceAdd, Nat.reduceMul, decide_eq_true (show (pre.length : Int) < (xs.length : Int) by omega)]
    rw [iaddr_Nn hlt]
    simp only [nd0, Y1n, Y1o, Y1p, Y1q, Y1w, Y1x, Y1y, Y1z, Y20, Y21, Y28, Y2a, AV.cells?, Nat.reduceAdd, Nat.reduceMul, show (Ex.encL xs)[pre.length]? = some x.enc by rw [Ex.encL_map, hpr]; simp]
    refine ⟨_, hx x hxm g0 g2 _ _ _ (by omega) (by omega) (nmOk_mono hon.2 hv1.1) ho2 hH, ?_⟩
    rintro r H2 ⟨rfl, h2⟩
    have hbig := okLit_big ho3 (by omega)
    generalize hl : (litP (nmv ks) x (litsP (nmv ks) pre b).2).1 = y at hbig
    have happ : litsP (nmv ks) (pre ++ [x]) b = ((litsP (nmv ks) pre b).1 ++ [y], (litP (nmv ks) x (litsP (nmv ks) pre b).2).2) := by rw [litsP_app]; simp [litsP, hl]
    have stepR : wGet (if mode then some (Z y) else unA .neg (Z y)) H2 = wGet (some (Z (if mode then y else -y))) H2 := by cases mode <;> simp [neg_Z hbig]
    rw [stepR]
    simp only [nd0, Y1n, Y1o, Y1p, Y1q, Y1w, Y1x, Y1y, Y1z, Y20, Y21, Y28, Y2a, AV.cells?, Nat.reduceAdd, Nat.reduceMul]
    refine wNewS.F' (l := [Z (if mode then y else -y)]) rfl rfl ?_
    have hlm : (if mode then (litsP (nmv ks) pre b).1 else negL (litsP (nmv ks) pre b).1).length = pre.length := by cases mode <;> simp [negL, hl1]
    rw [← hlm] at hg
    refine wApp.tl (x := if mode then y else -y) hg h2 (by omega) fun w' t' H' hg' hH' => ?_
    rw [binA_succ (by omega)]
    simp only [nd0, Y1n, Y1o, Y1p, Y1q, Y1w, Y1x, Y1y, Y1z, Y20, Y21, Y28, Y2a, AV.cells?, Nat.reduceAdd, Nat.reduceMul]
    refine back2.mk rest.length (by simp) ⟨pre ++ [x], rest, w', by rw [hpr]; simp, by simp, rfl, ?_, ?_⟩
    · rw [happ]
      rw [List.length_append, hlm] at hg'
      cases mode
      · simpa [negL] using hg'
      · simpa using hg'
    · rw [happ]; exact hH'
set_option maxHeartbeats 2000000 in
theorem lit_spec (B : MakeBodies E P) (hks : ks.length < 1000) : ∀ (n : Nat) (x : Ex), x.wt < n → x.fine → LitOk E P r0 ks x := by
  intro n
  induction n with
  | zero => intro x hx; omega
  | succ n ih =>
    intro x hx hf g0 g2 b tb H hv hn hnm hb hH
    cases x with
    | bit s =>
      obtain ⟨z, t, c, rfl, hg⟩ := hH
      refine B.lit _ _ _ _ ?_
      unfold F.pgate_builder_lit
      simp only [Ex.enc]
      simp only [nd0, Y1n, Y1o, Y1p, Y1q, Y1w, Y1x, Y1y, Y1z, Y20, Y21, Y28, Y2a, AV.cells?, Nat.reduceAdd, Nat.reduceMul, asA, show (14 : Nat) = 14 ↔ True by decide]
      rw [look_nm]
      simp only [nd0, Y1n, Y1o, Y1p, Y1q, Y1w, Y1x, Y1y, Y1z, Y20, Y21, Y28, Y2a, AV.cells?, Nat.reduceAdd, Nat.reduceMul]
      exact ⟨rfl, z, t, c, rfl, hg⟩
    | rise s =>
      obtain ⟨z, t, c, rfl, hg⟩ := hH
      refine B.lit _ _ _ _ ?_
      unfold F.pgate_builder_lit
      simp only [Ex.enc]
      have h1 := nmv_le ks s
      have h2 := nmv_le ks (94 :: s)
      have hbig : ∀ y ∈ [nmv ks s, -nmv ks (94 :: s)], -1000000 ≤ y ∧ y ≤ 1000000 := two_mem (by omega) (by omega)
      have fin : ACalls E P 236 [.ptrL 2 0 g0, LI [nmv ks s, -nmv ks (94 :: s)]] ⟨r0 :: .map g2 (ks.map fun s => S s) (nums ks.length) :: .cells g0 3 [Z b.vars, t, .mapL 1 g2] :: z :: tb, c⟩ _ := gAnd_spec B (b := b) (tb := tb) (by omega) (by simp; omega) hbig ⟨z, t, c, rfl, hg⟩
      simp only [nd0, Y1n, Y1o, Y1p, Y1q, Y1w, Y1x, Y1y, Y1z, Y20, Y21, Y28, Y2a, AV.cells?, Nat.reduceAdd, Nat.reduceMul, asA, show (12 : Nat) = 14 ↔ False by decide, show (12 : Nat) = 12 ↔ True by decide]
      rw [show (AV.val (.string ⟨#[94]⟩)) = S [94] from rfl, binA_cat (s := [94]) (t := s) (by have := nameOk_len hf; simp; omega)]
      simp only [nd0, Y1n, Y1o, Y1p, Y1q, Y1w, Y1x, Y1y, Y1z, Y20, Y21, Y28, Y2a, AV.cells?, Nat.reduceAdd, Nat.reduceMul]
      have hrun : ∀ t48, t48 = LI [nmv ks s, -nmv ks (94 :: s)] → wCall E P 236 [.ptrL 2 0 g0, t48] ⟨r0 :: .map g2 (ks.map fun s => S s) (nums ks.length) :: .cells g0 3 [Z b.vars, t, .mapL 1 g2] :: z :: tb, c⟩ (fun r H' => r = Z (litP (nmv ks) (.rise s) b).1 ∧ SG r0 ks (litP (nmv ks) (.rise s) b).2 g0 g2 tb H') := fun t48 h => by
        subst h
        exact ⟨_, fin, fun r H' h => h⟩
      refine ⟨?_, ?_⟩
      · rw [look_nm]
        simp only [nd0, Y1n, Y1o, Y1p, Y1q, Y1w, Y1x, Y1y, Y1z, Y20, Y21, Y28, Y2a, AV.cells?, Nat.reduceAdd, Nat.reduceMul, and_self, true_and]
        rw [look_nm]
        simp only [nd0, Y1n, Y1o, Y1p, Y1q, Y1w, Y1x, Y1y, Y1z, Y20, Y21, Y28, Y2a, AV.cells?, Nat.reduceAdd, Nat.reduceMul, and_self, true_and]
        rw [neg_Z (by omega)]
        simp only [nd0, Y1n, Y1o, Y1p, Y1q, Y1w, Y1x, Y1y, Y1z, Y20, Y21, Y28, Y2a, AV.cells?, Nat.reduceAdd, Nat.reduceMul]
        refine wNewS.F' (l := [Z (nmv ks s), Z (-nmv ks (94 :: s))]) rfl rfl ?_
        exact hrun _ rfl
      · rw [look_nm]
        simp only [nd0, Y1n, Y1o, Y1p, Y1q, Y1w, Y1x, Y1y, Y1z, Y20, Y21, Y28, Y2a, AV.cells?, Nat.reduceAdd, Nat.reduceMul, and_self, true_and]
        rw [neg_Z (by omega)]
        simp only [nd0, Y1n, Y1o, Y1p, Y1q, Y1w, Y1x, Y1y, Y1z, Y20, Y21, Y28, Y2a, AV.cells?, Nat.reduceAdd, Nat.reduceMul]
        rw [look_nm]
        simp only [nd0, Y1n, Y1o, Y1p, Y1q, Y1w, Y1x, Y1y, Y1z, Y20, Y21, Y28, Y2a, AV.cells?, Nat.reduceAdd, Nat.reduceMul, and_self, true_and]
        refine wNewS.F' (l := [Z (nmv ks s), Z (-nmv ks (94 :: s))]) rfl rfl ?_
        exact hrun _ rfl
    | fall s =>
      obtain ⟨z, t, c, rfl, hg⟩ := hH
      refine B.lit _ _ _ _ ?_
      unfold F.pgate_builder_lit
      simp only [Ex.enc]
      have h1 := nmv_le ks s
      have h2 := nmv_le ks (94 :: s)
      have hbig : ∀ y ∈ [-nmv ks s, nmv ks (94 :: s)], -1000000 ≤ y ∧ y ≤ 1000000 := two_mem (by omega) (by omega)
      have fin : ACalls E P 236 [.ptrL 2 0 g0, LI [-nmv ks s, nmv ks (94 :: s)]] ⟨r0 :: .map g2 (ks.map fun s => S s) (nums ks.length) :: .cells g0 3 [Z b.vars, t, .mapL 1 g2] :: z :: tb, c⟩ _ := gAnd_spec B (b := b) (tb := tb) (by omega) (by simp; omega) hbig ⟨z, t, c, rfl, hg⟩
      simp only [nd0, Y1n, Y1o, Y1p, Y1q, Y1w, Y1x, Y1y, Y1z, Y20, Y21, Y28, Y2a, AV.cells?, Nat.reduceAdd, Nat.reduceMul, asA, show (13 : Nat) = 14 ↔ False by decide, show (13 : Nat) = 12 ↔ False by decide, show (13 : Nat) = 13 ↔ True by decide]
      rw [show (AV.val (.string ⟨#[94]⟩)) = S [94] from rfl, binA_cat (s := [94]) (t := s) (by have := nameOk_len hf; simp; omega)]
      simp only [nd0, Y1n, Y1o, Y1p, Y1q, Y1w, Y1x, Y1y, Y1z, Y20, Y21, Y28, Y2a, AV.cells?, Nat.reduceAdd, Nat.reduceMul]
      have hrun : ∀ t48, t48 = LI [-nmv ks s, nmv ks (94 :: s)] → wCall E P 236 [.ptrL 2 0 g0, t48] ⟨r0 :: .map g2 (ks.map fun s => S s) (nums ks.length) :: .cells g0 3 [Z b.vars, t, .mapL 1 g2] :: z :: tb, c⟩ (fun r H' => r = Z (litP (nmv ks) (.fall s) b).1 ∧ SG r0 ks (litP (nmv ks) (.fall s) b).2 g0 g2 tb H') := fun t48 h => by
        subst h
        exact ⟨_, fin, fun r H' h => h⟩
      refine ⟨?_, ?_⟩
      · rw [look_nm]
        simp only [nd0, Y1n, Y1o, Y1p, Y1q, Y1w, Y1x, Y1y, Y1z, Y20, Y21, Y28, Y2a, AV.cells?, Nat.reduceAdd, Nat.reduceMul, and_self, true_and]
        rw [neg_Z (by omega)]
        simp only [nd0, Y1n, Y1o, Y1p, Y1q, Y1w, Y1x, Y1y, Y1z, Y20, Y21, Y28, Y2a, AV.cells?, Nat.reduceAdd, Nat.reduceMul]
        rw [look_nm]
        simp only [nd0, Y1n, Y1o, Y1p, Y1q, Y1w, Y1x, Y1y, Y1z, Y20, Y21, Y28, Y2a, AV.cells?, Nat.reduceAdd, Nat.reduceMul, and_self, true_and]
        refine wNewS.F' (l := [Z (-nmv ks s), Z (nmv ks (94 :: s))]) rfl rfl ?_
        exact hrun _ rfl
      · rw [look_nm]
        simp only [nd0, Y1n, Y1o, Y1p, Y1q, Y1w, Y1x, Y1y, Y1z, Y20, Y21, Y28, Y2a, AV.cells?, Nat.reduceAdd, Nat.reduceMul, and_self, true_and]
        rw [look_nm]
        simp only [nd0, Y1n, Y1o, Y1p, Y1q, Y1w, Y1x, Y1y, Y1z, Y20, Y21, Y28, Y2a, AV.cells?, Nat.reduceAdd, Nat.reduceMul, and_self, true_and]
        rw [neg_Z (by omega)]
        simp only [nd0, Y1n, Y1o, Y1p, Y1q, Y1w, Y1x, Y1y, Y1z, Y20, Y21, Y28, Y2a, AV.cells?, Nat.reduceAdd, Nat.reduceMul]
        refine wNewS.F' (l := [Z (-nmv ks s), Z (nmv ks (94 :: s))]) rfl rfl ?_
        exact hrun _ rfl
    | k v =>
      simp only [Ex.size] at hv hn
      refine B.lit _ _ _ _ ?_
      unfold F.pgate_builder_lit
      simp only [Ex.enc]
      simp only [nd0, Y1n, Y1o, Y1p, Y1q, Y1w, Y1x, Y1y, Y1z, Y20, Y21, Y28, Y2a, AV.cells?, Nat.reduceAdd, Nat.reduceMul, asA, show (11 : Nat) = 14 ↔ False by decide, show (11 : Nat) = 12 ↔ False by decide, show (11 : Nat) = 13 ↔ False by decide, show (11 : Nat) = 10 ↔ False by decide, show (11 : Nat) = 9 ↔ False by decide, show (11 : Nat) = 8 ↔ False by decide]
      refine ⟨_, gFresh_spec B (by omega) hH, ?_⟩
      rintro r H1 ⟨rfl, h1⟩
      refine wJoin.zero (SG r0 ks (constP v b).2 g0 g2 tb) ?_ fun H hH => ⟨rfl, hH⟩
      cases v with
      | true =>
        simp only [nd0, Y1n, Y1o, Y1p, Y1q, Y1w, Y1x, Y1y, Y1z, Y20, Y21, Y28, Y2a, AV.cells?, Nat.reduceAdd, Nat.reduceMul]
        refine wNewS.F' (l := [Z ((b.vars + 1 : Nat) : Int)]) rfl rfl ?_
        refine ⟨_, gAdd_spec B (by simp; omega) h1 [((b.vars + 1 : Nat) : Int)], ?_⟩
        rintro r H2 ⟨rfl, h2⟩
        exact gh0.mk h2
      | false =>
        simp only [nd0, Y1n, Y1o, Y1p, Y1q, Y1w, Y1x, Y1y, Y1z, Y20, Y21, Y28, Y2a, AV.cells?, Nat.reduceAdd, Nat.reduceMul]
        rw [neg_Z (by omega)]
        simp only [nd0, Y1n, Y1o, Y1p, Y1q, Y1w, Y1x, Y1y, Y1z, Y20, Y21, Y28, Y2a, AV.cells?, Nat.reduceAdd, Nat.reduceMul]
        refine wNewS.F' (l := [Z (-((b.vars + 1 : Nat) : Int))]) rfl rfl ?_
        refine ⟨_, gAdd_spec B (by simp; omega) h1 [-((b.vars + 1 : Nat) : Int)], ?_⟩
        rintro r H2 ⟨rfl, h2⟩
        exact gh0.mk h2
    | not y =>
      simp only [Ex.size] at hv hn
      simp only [Ex.wt] at hx
      refine ACalls.mono (R := fun r H' => r = Z (litP (nmv ks) (.not y) b).1 ∧ ∃ w, SG r0 ks (litP (nmv ks) (.not y) b).2 g0 g2 (tb ++ [w]) H') ?_ (fun r H' ⟨h1, w, h2⟩ => by
        obtain ⟨H2, q1, q2⟩ := h2.drop (r := r)
        exact ⟨r, H2, q1, h1, q2⟩)
      refine B.lit _ _ _ _ ?_
      unfold F.pgate_builder_lit
      simp only [Ex.enc]
      obtain ⟨z, t, c, rfl, hg⟩ := hH
      simp only [nd0, Y1n, Y1o, Y1p, Y1q, Y1w, Y1x, Y1y, Y1z, Y20, Y21, Y28, Y2a, AV.cells?, Nat.reduceAdd, Nat.reduceMul, asA, show (10 : Nat) = 14 ↔ False by decide, show (10 : Nat) = 12 ↔ False by decide, show (10 : Nat) = 13 ↔ False by decide, show (10 : Nat) = 10 ↔ True by decide]
      refine wNew.L (l := [nilE]) rfl ?_
      simp only [nd0, Y1n, Y1o, Y1p, Y1q, Y1w, Y1x, Y1y, Y1z, Y20, Y21, Y28, Y2a, AV.cells?, Nat.reduceAdd, Nat.reduceMul]
      have hb3 : (r0 :: .map g2 (ks.map fun s => S s) (nums ks.length) :: .cells g0 3 [Z b.vars, t, .mapL 1 g2] :: z :: (tb ++ [.cells c 1 [nilE]]))[tb.length + 1 + 1 + 1 + 1]? = some (.cells c 1 [nilE]) := by simp
      have hst : storeN 1 (.ptrL (tb.length + 1 + 1 + 1 + 1) 0 c) (.agg [y.enc]) ⟨r0 :: .map g2 (ks.map fun s => S s) (nums ks.length) :: .cells g0 3 [Z b.vars, t, .mapL 1 g2] :: z :: (tb ++ [.cells c 1 [nilE]]), c + 1⟩ = some ⟨r0 :: .map g2 (ks.map fun s => S s) (nums ks.length) :: .cells g0 3 [Z b.vars, t, .mapL 1 g2] :: z :: (tb ++ [.cells c 1 [y.enc]]), c + 1⟩ := by
        rw [storeN_L (n := 1) (xs := [y.enc]) rfl (by simp [Ex.enc_scalar]), hb3, blkDo_self]
        simp [putL]
      refine ⟨⟨_, hst, ?_⟩⟩
      refine ⟨y.enc, ?_, ?_⟩
      · simp [blkCells]
      have hon : nmOk (nmv ks) b.vars y := hnm
      obtain ⟨ho1, ho2⟩ := litP_ok (nmv ks) y b hon hb
      have hv1 := litP_vars (nmv ks) y b
      refine ⟨_, ih y (by omega) hf g0 g2 b (tb ++ [.cells c 1 [y.enc]]) _ (by omega) (by omega) hon hb ⟨z, t, c + 1, rfl, hg⟩, ?_⟩
      rintro r H2 ⟨rfl, h2⟩
      rw [neg_Z (okLit_big ho1 (by omega))]
      simp only [nd0, Y1n, Y1o, Y1p, Y1q, Y1w, Y1x, Y1y, Y1z, Y20, Y21, Y28, Y2a, AV.cells?, Nat.reduceAdd, Nat.reduceMul]
      exact ⟨rfl, _, h2⟩
    | and xs =>
      simp only [Ex.size] at hv hn
      simp only [Ex.wt] at hx
      refine ACalls.mono (R := fun r H' => r = Z (litP (nmv ks) (.and xs) b).1 ∧ ∃ w, SG r0 ks (litP (nmv ks) (.and xs) b).2 g0 g2 (tb ++ [w]) H') ?_ (fun r H' ⟨h1, w, h2⟩ => by
        obtain ⟨H2, q1, q2⟩ := h2.drop (r := r)
        exact ⟨r, H2, q1, h1, q2⟩)
      refine B.lit _ _ _ _ ?_
      unfold F.pgate_builder_lit
      simp only [Ex.enc]
      simp only [nd0, Y1n, Y1o, Y1p, Y1q, Y1w, Y1x, Y1y, Y1z, Y20, Y21, Y28, Y2a, AV.cells?, Nat.reduceAdd, Nat.reduceMul, asA, show (9 : Nat) = 14 ↔ False by decide, show (9 : Nat) = 12 ↔ False by decide, show (9 : Nat) = 13 ↔ False by decide, show (9 : Nat) = 10 ↔ False by decide, show (9 : Nat) = 9 ↔ True by decide]
      obtain ⟨ho1, ho2⟩ := litsP_ok (nmv ks) xs b hnm hb
      have hv1 := litsP_vars (nmv ks) xs b
      have hc1 := litsP_cl (nmv ks) xs b
      have hl1 := litsP_len (nmv ks) xs b
      have := litL_loop (ks := ks) (g0 := g0) (g2 := g2) (r0 := r0) B true xs (fun y hy => ih y (by have := Ex.wt_mem hy; omega) (Ex.fine_mem hf.2 hy)) (b := b) (tb := tb) (by omega) (by omega) hnm hb hH (R := fun t10 H => wCall E P 236 [.ptrL 2 0 g0, t10] H fun t96 H => t96 = Z (litP (nmv ks) (.and xs) b).1 ∧ ∃ w, SG r0 ks (litP (nmv ks) (.and xs) b).2 g0 g2 (tb ++ [w]) H) fun t w H hH hg => ?_
      · simp only [if_true, wGet_some] at this
        exact this
      · have hg' : Gr 1 w (4 + tb.length) t ((litsP (nmv ks) xs b).1.map fun z => Z z) (litsP (nmv ks) xs b).1.length := by rw [hl1]; exact hg
        refine ⟨_, ACalls.args (ghost_sub (.cons (.refl _) (.one hg'.sub))) (gAnd_spec B (l := (litsP (nmv ks) xs b).1) (by omega) (by omega) (fun y hy => okLit_big (ho1 y hy) (by omega)) hH), fun r H' h => ⟨h.1, w, h.2⟩⟩
    | or xs =>
      simp only [Ex.size] at hv hn
      simp only [Ex.wt] at hx
      refine ACalls.mono (R := fun r H' => r = Z (litP (nmv ks) (.or xs) b).1 ∧ ∃ w, SG r0 ks (litP (nmv ks) (.or xs) b).2 g0 g2 (tb ++ [w]) H') ?_ (fun r H' ⟨h1, w, h2⟩ => by
        obtain ⟨H2, q1, q2⟩ := h2.drop (r := r)
        exact ⟨r, H2, q1, h1, q2⟩)
      refine B.lit _ _ _ _ ?_
      unfold F.pgate_builder_lit
      simp only [Ex.enc]
      simp only [nd0, Y1n, Y1o, Y1p, Y1q, Y1w, Y1x, Y1y, Y1z, Y20, Y21, Y28, Y2a, AV.cells?, Nat.reduceAdd, Nat.reduceMul, asA, show (8 : Nat) = 14 ↔ False by decide, show (8 : Nat) = 12 ↔ False by decide, show (8 : Nat) = 13 ↔ False by decide, show (8 : Nat) = 10 ↔ False by decide, show (8 : Nat) = 9 ↔ False by decide, show (8 : Nat) = 8 ↔ True by decide]
      obtain ⟨ho1, ho2⟩ := litsP_ok (nmv ks) xs b hnm hb
      have hv1 := litsP_vars (nmv ks) xs b
      have hc1 := litsP_cl (nmv ks) xs b
      have hl1 := litsP_len (nmv ks) xs b
      have := litL_loop (ks := ks) (g0 := g0) (g2 := g2) (r0 := r0) B false xs (fun y hy => ih y (by have := Ex.wt_mem hy; omega) (Ex.fine_mem hf.2 hy)) (b := b) (tb := tb) (by omega) (by omega) hnm hb hH (R := fun t10 H => wCall E P 236 [.ptrL 2 0 g0, t10] H fun t96 H => wGet (unA .neg t96) H fun t97 H => t97 = Z (litP (nmv ks) (.or xs) b).1 ∧ ∃ w, SG r0 ks (litP (nmv ks) (.or xs) b).2 g0 g2 (tb ++ [w]) H) fun t w H hH hg => ?_
      · simp only [Bool.false_eq_true, if_false] at this
        exact this
      · have hg' : Gr 1 w (4 + tb.length) t ((negL (litsP (nmv ks) xs b).1).map fun z => Z z) (negL (litsP (nmv ks) xs b).1).length := by rw [negL_len, hl1]; exact hg
        refine ⟨_, ACalls.args (ghost_sub (.cons (.refl _) (.one hg'.sub))) (gAnd_spec B (l := negL (litsP (nmv ks) xs b).1) (by omega) (by rw [negL_len]; omega) (fun y hy => okLit_big (okB_neg ho1 y hy) (by omega)) hH), fun r H' h => ?_⟩
        obtain ⟨rfl, h2⟩ := h
        rw [neg_Z (by simp only [andP]; omega)]
        simp only [nd0, Y1n, Y1o, Y1p, Y1q, Y1w, Y1x, Y1y, Y1z, Y20, Y21, Y28, Y2a, AV.cells?, Nat.reduceAdd, Nat.reduceMul]
        exact ⟨rfl, w, h2⟩
end
end Go.Sc
namespace Go.Sc
open Go
set_option linter.unusedSimpArgs false
set_option linter.unusedVariables false
set_option linter.unnecessarySimpa false
theorem ltnodup {l : List Str} (h : l.Pairwise (· < ·)) : l.Nodup := h.imp fun {a b} h (e : a = b) => List.lt_irrefl b (e ▸ h)
theorem names_nodup (x : Ex) : x.names.Nodup := ltnodup (onceS_strict _)
section
variable {E : Env} {P : Program}
end
end Go.Sc
namespace Go.Sc
open Go
set_option linter.unusedSimpArgs false
set_option linter.unusedVariables false
set_option linter.unnecessarySimpa false
mutual
theorem Ex.raw_ok : ∀ x : Ex, x.fine → ∀ s ∈ x.raw nf1, nameOk s = true
  | .k _, _, s, h => by simp [Ex.raw, nmL, nf1] at h
  | .bit t, hf, s, h => by
    simp [Ex.raw, nmL, nf1, nameOk_ne hf] at h
    subst h; exact hf
  | .rise t, hf, s, h => by
    simp [Ex.raw, nmL, nf1, nameOk_ne hf] at h
    subst h; exact hf
  | .fall t, hf, s, h => by
    simp [Ex.raw, nmL, nf1, nameOk_ne hf] at h
    subst h; exact hf
  | .not y, hf, s, h => by
    simp [Ex.raw, nmL, nf1] at h
    exact Ex.raw_ok y hf s h
  | .and l, hf, s, h => by
    simp [Ex.raw, nmL, nf1] at h
    exact Ex.rawL_ok l hf.2 s h
  | .or l, hf, s, h => by
    simp [Ex.raw, nmL, nf1] at h
    exact Ex.rawL_ok l hf.2 s h
theorem Ex.rawL_ok : ∀ l : List Ex, Ex.fineL l → ∀ s ∈ Ex.rawL nf1 l, nameOk s = true
  | [], _, s, h => by simp [Ex.rawL] at h
  | x :: l, hf, s, h => by
    simp only [Ex.rawL, List.mem_append] at h
    rcases h with h | h
    · exact Ex.raw_ok x hf.1 s h
    · exact Ex.rawL_ok l hf.2 s h
end
theorem names_ok {x : Ex} (hf : x.fine) {s : Str} (h : s ∈ x.names) : nameOk s = true := Ex.raw_ok x hf s (onceS_mem.1 h)
theorem edges_ok {x : Ex} (hf : x.fine) {s : Str} (h : s ∈ x.edges) : nameOk s = true := Ex.raw_ok x hf s (Ex.edge_name x s (onceS_mem.1 h))
theorem not_hat {s t : Str} (h : nameOk s = true) : s ≠ 94 :: t := by
  rintro rfl
  simp only [nameOk, Bool.and_eq_true] at h
  exact absurd h.1.1.1 (by decide)
theorem edges_nodup (x : Ex) : x.edges.Nodup := ltnodup (onceS_strict _)
def hats (l : List Str) : List Str := l.map fun s => 94 :: s
theorem hats_mem {l : List Str} {s : Str} : 94 :: s ∈ hats l ↔ s ∈ l := by simp [hats]
def gks (x : Ex) : List Str := x.names ++ hats x.edges
def gateP (x : Ex) : Int × Bd := litP (nmv (gks x)) x ⟨(gks x).length, []⟩
theorem names_len (x : Ex) : x.names.length ≤ x.size := by have := onceS_length (x.raw nf1); have := Ex.raw_len nf1 x; unfold Ex.names; omega
theorem edges_len (x : Ex) : x.edges.length ≤ x.size := by have := onceS_length (x.raw nf2); have := Ex.raw_len nf2 x; unfold Ex.edges; omega
theorem gks_len (x : Ex) : (gks x).length = x.names.length + x.edges.length := by simp [gks, hats]
theorem gks_name {x : Ex} {s : Str} (h : s ∈ x.names) : nmv (gks x) s = ((ixN x.names s + 1 : Nat) : Int) := by
  obtain ⟨pre, rest, e, hn⟩ := mem_split h
  unfold nmv gks
  rw [if_pos (List.mem_append_left _ h), e, List.append_assoc, List.cons_append, ixN_app hn, ixN_app hn]
theorem gks_edge {x : Ex} (hf : x.fine) {s : Str} (h : s ∈ x.edges) : nmv (gks x) (94 :: s) = ((x.names.length + ixN x.edges s + 1 : Nat) : Int) := by
  obtain ⟨pre, rest, e, hn⟩ := mem_split h
  have hno : 94 :: s ∉ x.names ++ hats pre := by
    rw [List.mem_append, hats_mem]
    rintro (k | k)
    · exact not_hat (names_ok hf k) rfl
    · exact hn k
  have hg : gks x = (x.names ++ hats pre) ++ (94 :: s) :: hats rest := by unfold gks; rw [e]; simp [hats]
  have hix : ixN x.edges s = pre.length := by rw [e, ixN_app hn]
  unfold nmv
  rw [hix, hg, if_pos (by simp), ixN_app hno]
  simp [hats]
theorem gks_ok {x : Ex} (hf : x.fine) : nmOk (nmv (gks x)) (gks x).length x := by
  refine Ex.on_of x hf (fun s h => ?_) (fun s h => ?_)
  · have h' : s ∈ x.names := onceS_mem.2 h
    have := ixN_lt h'
    rw [gks_name h', gks_len]
    unfold okLit; omega
  · have h' : s ∈ x.edges := onceS_mem.2 h
    have := ixN_lt h'
    rw [gks_edge hf h', gks_len]
    unfold okLit; omega
theorem gateP_ok {x : Ex} (hf : x.fine) : okLit (gateP x).2.vars (gateP x).1 ∧ ∀ c ∈ (gateP x).2.cl, okB (gateP x).2.vars c := litP_ok _ x _ (gks_ok hf) (by simp)
theorem gateP_vars (x : Ex) : (gks x).length ≤ (gateP x).2.vars ∧ (gateP x).2.vars ≤ 3 * x.size := by
  have h1 := litP_vars (nmv (gks x)) x ⟨(gks x).length, []⟩
  have h2 := names_len x
  have h3 := edges_len x
  have h4 := gks_len x
  unfold gateP
  simp only at h1 ⊢
  omega
theorem gateP_cl (x : Ex) : (gateP x).2.cl.length + 1 ≤ 4 * x.size := by
  have h1 := litP_cl (nmv (gks x)) x ⟨(gks x).length, []⟩
  unfold gateP
  simp only [List.length_nil] at h1 ⊢
  omega
theorem nums_succ (n : Nat) : nums n ++ [Z ((n + 1 : Nat) : Int)] = nums (n + 1) := by simp [nums, List.range_succ]
structure OfBodies (E : Env) (P : Program) : Prop extends MakeBodies E P where
  d : SortedBodies E P
  z : SizeBodies E P
section
variable {E : Env} {P : Program}
/-- its clauses may still grow -/
def OfG (x : Ex) (r : AV) (H : AH) : Prop := ∃ t b0 b1 b2 z c, r = .tup [.agg [Z (gateP x).2.vars, t], Z (gateP x).1, nilE] ∧ Gr 1 z 3 t ((gateP x).2.cl.map LI) (gateP x).2.cl.length ∧ H = ⟨[b0, b1, b2, z], c⟩
theorem Of_grow (B : OfBodies E P) (x : Ex) (hw : x.wt ≤ 1000000) (hf : x.fine) (hs : x.size ≤ 300) (n : Nat) : ACalls E P 233 [x.enc] ⟨[], n⟩ (OfG x) := by
  refine B.of _ _ _ ?_
  unfold F.gate_Of
  refine wNew.L (l := [Z 0, nilS]) rfl ?_
  simp only [nd0, Y1n, Y1o, Y1p, Y1q, Y1w, Y1x, Y1y, Y1z, Y20, Y21, Y28, Y2a, AV.cells?, Nat.reduceAdd, Nat.reduceMul, Ex.enc_nil]
  refine wCall.fx (Size_spec B.z x hw hf) fun n1 => ?_
  simp only [nd0, Y1n, Y1o, Y1p, Y1q, Y1w, Y1x, Y1y, Y1z, Y20, Y21, Y28, Y2a, AV.cells?, Nat.reduceAdd, Nat.reduceMul, decide_eq_false (show ¬ (300 : Int) < (x.size : Int) by omega)]
  refine wMapN.L ?_
  simp only [nd0, Y1n, Y1o, Y1p, Y1q, Y1w, Y1x, Y1y, Y1z, Y20, Y21, Y28, Y2a, AV.cells?, Nat.reduceAdd, Nat.reduceMul]
  refine ⟨⟨[Z 0, nilS, .mapL 1 n1], rfl, ?_⟩⟩
  refine wNew.L (l := [Z 0, nilS, .mapL 1 n1]) rfl ?_
  simp only [nd0, Y1n, Y1o, Y1p, Y1q, Y1w, Y1x, Y1y, Y1z, Y20, Y21, Y28, Y2a, AV.cells?, Nat.reduceAdd, Nat.reduceMul]
  refine wCall.fx (Names_spec B.d x hw hf) fun n2 => ?_
  have hnl := names_len x
  have hel := edges_len x
  rw [Lm_S]
  simp only [nd0, Y1n, Y1o, Y1p, Y1q, Y1w, Y1x, Y1y, Y1z, Y20, Y21, Y28, Y2a, AV.cells?, Nat.reduceAdd, Nat.reduceMul]
  refine wLoop.one (fun m i H => ∃ pre rest, x.names = pre ++ rest ∧ i = Z pre.length ∧ m = rest.length ∧ SG (.cells n 2 [Z 0, nilS]) pre ⟨pre.length, []⟩ (n1 + 1) n1 [] H) x.names.length
    (gh1.of (ghost_room [.dead] (by simp)) ⟨[], x.names, rfl, rfl, rfl, .dead, nilS, _, rfl, .nil⟩) ?_
  rintro m i H ⟨pre, rest, hpr, rfl, rfl, hH⟩
  have hpl : pre.length + rest.length = x.names.length := by rw [hpr]; simp
  cases rest with
  | cons s rest =>
    have hlt : pre.length < x.names.length := by rw [hpr]; simp
    have hns : s ∉ pre := by
      have := names_nodup x
      rw [hpr, List.nodup_append] at this
      exact fun h => this.2.2 s h s (by simp) rfl
    obtain ⟨z, t, c, rfl, hg⟩ := hH
    simp only [nd0, Y1n, Y1o, Y1p, Y1q, Y1w, Y1x, Y1y, Y1z, Y20, Y21, Y28, Y2a, AV.cells?, Nat.reduceAdd, Nat.reduceMul, decide_eq_true (show (pre.length : Int) < (x.names.length : Int) by omega)]
    rw [iaddr_Nn hlt]
    simp only [nd0, Y1n, Y1o, Y1p, Y1q, Y1w, Y1x, Y1y, Y1z, Y20, Y21, Y28, Y2a, AV.cells?, Nat.reduceAdd, Nat.reduceMul, show (x.names.map fun s => S s)[pre.length]? = some (S s) by rw [hpr]; simp]
    refine ⟨_, gFresh_spec B.toMakeBodies (b := ⟨pre.length, []⟩) (by simp only; omega) ⟨z, t, c, rfl, hg⟩, ?_⟩
    rintro r H1 ⟨rfl, z, t, c, rfl, hg⟩
    simp only [nd0, Y1n, Y1o, Y1p, Y1q, Y1w, Y1x, Y1y, Y1z, Y20, Y21, Y28, Y2a, AV.cells?, Nat.reduceAdd, Nat.reduceMul, and_self, true_and]
    rw [insertA_new rfl rfl (by rw [findK_S, if_neg hns])]
    simp only [nd0, Y1n, Y1o, Y1p, Y1q, Y1w, Y1x, Y1y, Y1z, Y20, Y21, Y28, Y2a, AV.cells?, Nat.reduceAdd, Nat.reduceMul]
    rw [binA_succ (by omega)]
    simp only [nd0, Y1n, Y1o, Y1p, Y1q, Y1w, Y1x, Y1y, Y1z, Y20, Y21, Y28, Y2a, AV.cells?, Nat.reduceAdd, Nat.reduceMul]
    refine back1.mk rest.length (by simp) ⟨pre ++ [s], rest, by rw [hpr]; simp, by simp, rfl, z, t, c, ?_, by simpa using hg⟩
    have := nums_succ pre.length
    simpa using this
  | nil =>
  rw [List.append_nil] at hpr
  subst hpr
  simp only [nd0, Y1n, Y1o, Y1p, Y1q, Y1w, Y1x, Y1y, Y1z, Y20, Y21, Y28, Y2a, AV.cells?, Nat.reduceAdd, Nat.reduceMul, Int.lt_irrefl]
  obtain ⟨z, t, c, rfl, hg⟩ := hH
  refine wCall.fx (Edges_spec B.d x hw hf) fun n2 => ?_
  rw [Lm_S]
  simp only [nd0, Y1n, Y1o, Y1p, Y1q, Y1w, Y1x, Y1y, Y1z, Y20, Y21, Y28, Y2a, AV.cells?, Nat.reduceAdd, Nat.reduceMul]
  refine wLoop.one (fun m i H => ∃ pre rest, x.edges = pre ++ rest ∧ i = Z pre.length ∧ m = rest.length ∧ SG (.cells n 2 [Z 0, nilS]) (x.names ++ hats pre) ⟨x.names.length + pre.length, []⟩ (n1 + 1) n1 [] H) x.edges.length
    (gh1.mk ⟨[], x.edges, rfl, rfl, rfl, z, t, n2, by simp [hats], hg⟩) ?_
  rintro m i H ⟨pre, rest, hpr, rfl, rfl, hH⟩
  have hpl : pre.length + rest.length = x.edges.length := by rw [hpr]; simp
  cases rest with
  | cons s rest =>
    have hlt : pre.length < x.edges.length := by rw [hpr]; simp
    have hok : nameOk s = true := edges_ok hf (by rw [hpr]; simp)
    have hlen := nameOk_len hok
    have hns : 94 :: s ∉ x.names ++ hats pre := by
      rw [List.mem_append, hats_mem]
      rintro (k | k)
      · exact not_hat (names_ok hf k) rfl
      · have := edges_nodup x
        rw [hpr, List.nodup_append] at this
        exact this.2.2 s k s (by simp) rfl
    obtain ⟨z, t, c, rfl, hg⟩ := hH
    simp only [nd0, Y1n, Y1o, Y1p, Y1q, Y1w, Y1x, Y1y, Y1z, Y20, Y21, Y28, Y2a, AV.cells?, Nat.reduceAdd, Nat.reduceMul, decide_eq_true (show (pre.length : Int) < (x.edges.length : Int) by omega)]
    rw [iaddr_Nn hlt]
    simp only [nd0, Y1n, Y1o, Y1p, Y1q, Y1w, Y1x, Y1y, Y1z, Y20, Y21, Y28, Y2a, AV.cells?, Nat.reduceAdd, Nat.reduceMul, show (x.edges.map fun s => S s)[pre.length]? = some (S s) by rw [hpr]; simp]
    rw [show (AV.val (.string ⟨#[94]⟩)) = S [94] from rfl, binA_cat (s := [94]) (t := s) (by simp; omega)]
    simp only [nd0, Y1n, Y1o, Y1p, Y1q, Y1w, Y1x, Y1y, Y1z, Y20, Y21, Y28, Y2a, AV.cells?, Nat.reduceAdd, Nat.reduceMul]
    refine ⟨_, gFresh_spec B.toMakeBodies (b := ⟨x.names.length + pre.length, []⟩) (by simp only; omega) ⟨z, t, c, rfl, hg⟩, ?_⟩
    rintro r H1 ⟨rfl, z, t, c, rfl, hg⟩
    simp only [nd0, Y1n, Y1o, Y1p, Y1q, Y1w, Y1x, Y1y, Y1z, Y20, Y21, Y28, Y2a, AV.cells?, Nat.reduceAdd, Nat.reduceMul, and_self, true_and]
    rw [insertA_new rfl rfl (by rw [findK_S, if_neg hns])]
    simp only [nd0, Y1n, Y1o, Y1p, Y1q, Y1w, Y1x, Y1y, Y1z, Y20, Y21, Y28, Y2a, AV.cells?, Nat.reduceAdd, Nat.reduceMul]
    rw [binA_succ (by omega)]
    simp only [nd0, Y1n, Y1o, Y1p, Y1q, Y1w, Y1x, Y1y, Y1z, Y20, Y21, Y28, Y2a, AV.cells?, Nat.reduceAdd, Nat.reduceMul]
    refine back1.mk rest.length (by simp) ⟨pre ++ [s], rest, by rw [hpr]; simp, by simp, rfl, z, t, c, ?_, by simpa using hg⟩
    have e : x.names ++ hats (pre ++ [s]) = (x.names ++ hats pre) ++ [94 :: s] := by simp [hats]
    have e2 : (x.names ++ hats pre).length = x.names.length + pre.length := by simp [hats]
    have e3 : (x.names ++ hats (pre ++ [s])).length = x.names.length + pre.length + 1 := by simp [hats]; omega
    rw [e3, ← nums_succ, e, List.map_append]
    rw [e2]
    simp [Nat.add_assoc]
  | nil =>
  rw [List.append_nil] at hpr
  subst hpr
  simp only [nd0, Y1n, Y1o, Y1p, Y1q, Y1w, Y1x, Y1y, Y1z, Y20, Y21, Y28, Y2a, AV.cells?, Nat.reduceAdd, Nat.reduceMul, Int.lt_irrefl]
  have hv := gateP_vars x
  have hcl := gateP_cl x
  have hH' : SG (.cells n 2 [Z 0, nilS]) (gks x) ⟨(gks x).length, []⟩ (n1 + 1) n1 [] H := by rw [gks_len]; exact hH
  have hgl := gks_len x
  refine ⟨_, lit_spec B.toMakeBodies (by omega) (x.wt + 1) x (by omega) hf _ _ ⟨(gks x).length, []⟩ [] H (by simp only; omega) (by simp only [List.length_nil]; omega) (gks_ok hf) (by simp) hH', ?_⟩
  rintro r H1 ⟨rfl, z, t, c, rfl, hg⟩
  simp only [nd0, Y1n, Y1o, Y1p, Y1q, Y1w, Y1x, Y1y, Y1z, Y20, Y21, Y28, Y2a, AV.cells?, Nat.reduceAdd, Nat.reduceMul]
  rw [show ∀ v : Nat, Option.map AV.agg (subL [Z v, t, .mapL 1 n1] 0 2) = some (.agg [Z v, t]) from fun _ => rfl]
  simp only [nd0, Y1n, Y1o, Y1p, Y1q, Y1w, Y1x, Y1y, Y1z, Y20, Y21, Y28, Y2a, AV.cells?, Nat.reduceAdd, Nat.reduceMul]
  rw [storeN_L (n := 2) (xs := [Z (litP (nmv (gks x)) x ⟨(gks x).length, []⟩).2.vars, t]) rfl (show (true && (t.scalar && true)) = true by rw [hg.scalar]; rfl)]
  simp only [nd0, Y1n, Y1o, Y1p, Y1q, Y1w, Y1x, Y1y, Y1z, Y20, Y21, Y28, Y2a, AV.cells?, Nat.reduceAdd, Nat.reduceMul, put_two]
  exact ⟨_, rfl, t, _, _, _, z, c, rfl, hg, rfl⟩
end
end Go.Sc
namespace Go.Sc.F
open Go Go.Sc
set_option linter.unusedVariables false
/-- signalbox/signalboxref.index -/
def ref_index (E : Env) (P : Program) (a0 a1 : AV) (H : AH) (R : Kt) : Prop :=
  wGet (lenA a0) H fun t8 H =>
  wLoop 1 (fun I1 => I1 (.val (.int .i64 0)) H) fun I1 t9 H =>
    wGet (binA .lss t9 t8) H fun t10 H =>
    wIf t10 (
      wGet (iaddr 1 a0 t9) H fun t12 H =>
      wGet (load1 t12 H) H fun t13 H =>
      wGet (binA .eql t13 a1) H fun t16 H =>
      wGuard t16 true H (fun k => k a1 H) fun t18 H =>
      wGuard t16 true H (fun k => wGet (binA .neq t18 (.val (.string ⟨#[]⟩))) H k) fun t19 H =>
      wGet (pickA t16 t19 (.val (.bool false))) H fun t20 H =>
      wIf t20 (
        R t9 H) (
        wGet (binA .add t9 (.val (.int .i64 1))) H fun t22 H =>
        I1 t22 H)) (
      R (.val (.int .i64 (-1))) H)

end Go.Sc.F
namespace Go.Sc
open Go
set_option linter.unusedSimpArgs false
set_option linter.unusedVariables false
set_option linter.unnecessarySimpa false
def randF (g1 : Nat) : AV := .fn 241 [] [.ptrL 1 0 g1]
def rlitF (g1 g2 g3 g4 g5 : Nat) : AV := .fn 242 [] [.ptrL 2 0 g2, .ptrL 3 0 g3, .ptrL 5 0 g5, .ptrL 4 0 g4, .ptrL 1 0 g1]
def idxQ (l : List Str) (s : Str) : Int := if s = [] then -1 else idx l s
structure SRp where
  names : List Str
  edges : List Str
  b0 : Blk
  g1 : Nat
  g2 : Nat
  g3 : Nat
  g4 : Nat
  g5 : Nat
def SRp.hd (s : SRp) (v : Nat) (t : AV) : List Blk := [s.b0, .cells s.g1 2 [Z v, t], .cells s.g2 1 [Lm S s.names], .cells s.g3 1 [Lm S s.edges], .cells s.g4 1 [rlitF s.g1 s.g2 s.g3 s.g4 s.g5], .cells s.g5 1 [randF s.g1]]
def SR (s : SRp) (b : Bd) (tb : List Blk) (H : AH) : Prop := ∃ z t c, H = ⟨s.b0 :: .cells s.g1 2 [Z b.vars, t] :: .cells s.g2 1 [Lm S s.names] :: .cells s.g3 1 [Lm S s.edges] :: .cells s.g4 1 [rlitF s.g1 s.g2 s.g3 s.g4 s.g5] :: .cells s.g5 1 [randF s.g1] :: z :: tb, c⟩ ∧ Gr 1 z 6 t (b.cl.map LI) b.cl.length
section
variable {E : Env} {P : Program} {s : SRp}
theorem rindex_spec (hB : Body2 E P 98 F.ref_index) (l : List Str) (s : Str) (hl : l.length < 140737488355328) : FX E P 98 [Lm S l, S s] (Z (idxQ l s)) := by
  have nilStr : (AV.val (.string ⟨#[]⟩)) = S [] := rfl
  refine FX.of' ⟨closed_S l, trivial, trivial⟩ trivial fun n R hR => hB _ _ _ _ ?_
  unfold F.ref_index Lm
  simp only [nd0, Y1n, Y1o, Y1p, Y1q, Y1w, Y1x, Y1y, Y1z, Y20, Y21, Y28, Y2a, AV.cells?, Nat.reduceAdd, Nat.reduceMul, nilStr]
  refine wLoop.one (fun m t H => ∃ pre rest, l = pre ++ rest ∧ m = rest.length ∧ t = Z pre.length ∧ (s = [] ∨ s ∉ pre)) l.length (gh1.mk ⟨[], l, rfl, rfl, rfl, by simp⟩) ?_
  rintro m t H ⟨pre, rest, rfl, rfl, rfl, hs⟩
  cases rest with
  | nil =>
    simp only [nd0, Y1n, Y1o, Y1p, Y1q, Y1w, Y1x, Y1y, Y1z, Y20, Y21, Y28, Y2a, AV.cells?, Nat.reduceAdd, Nat.reduceMul, List.append_nil, Int.lt_irrefl]
    refine hR _ _ ?_
    unfold idxQ idx
    rw [List.append_nil] at *
    rcases hs with hs | hs
    · rw [if_pos hs]
    · by_cases h0 : s = []
      · rw [if_pos h0]
      · rw [if_neg h0, if_neg hs]
  | cons x rest =>
    simp only [nd0, Y1n, Y1o, Y1p, Y1q, Y1w, Y1x, Y1y, Y1z, Y20, Y21, Y28, Y2a, AV.cells?, Nat.reduceAdd, Nat.reduceMul, decide_eq_true (show ((pre.length : Int) < ((pre ++ x :: rest).length : Int)) by simp; omega)]
    rw [iaddr_Nn (by simp)]
    simp only [nd0, Y1n, Y1o, Y1p, Y1q, Y1w, Y1x, Y1y, Y1z, Y20, Y21, Y28, Y2a, AV.cells?, Nat.reduceAdd, Nat.reduceMul, at_mid]
    have hnext : (s = [] ∨ s ∉ pre ++ [x]) → back1 (fun m t H => ∃ pre' rest', pre ++ x :: rest = pre' ++ rest' ∧ m = rest'.length ∧ t = Z pre'.length ∧ (s = [] ∨ s ∉ pre')) (rest.length + 1) (Z ((pre.length + 1 : Nat) : Int)) H := fun h =>
      back1.mk rest.length (by simp) ⟨pre ++ [x], rest, by simp, rfl, by simp, h⟩
    by_cases hx : x = s
    · by_cases h0 : s = []
      · simp only [nd0, Y1n, Y1o, Y1p, Y1q, Y1w, Y1x, Y1y, Y1z, Y20, Y21, Y28, Y2a, AV.cells?, Nat.reduceAdd, Nat.reduceMul, decide_eq_true hx, decide_eq_true h0]
        rw [binA_succ (by simp at hl; omega)]
        simp only [nd0, Y1n, Y1o, Y1p, Y1q, Y1w, Y1x, Y1y, Y1z, Y20, Y21, Y28, Y2a, AV.cells?, Nat.reduceAdd, Nat.reduceMul]
        exact hnext (.inl h0)
      · simp only [nd0, Y1n, Y1o, Y1p, Y1q, Y1w, Y1x, Y1y, Y1z, Y20, Y21, Y28, Y2a, AV.cells?, Nat.reduceAdd, Nat.reduceMul, decide_eq_true hx, decide_eq_false h0]
        refine hR _ _ ?_
        subst hx
        have : x ∉ pre := by rcases hs with hs | hs; exact absurd hs h0; exact hs
        rw [idxQ, if_neg h0, idx_app this]
    · simp only [nd0, Y1n, Y1o, Y1p, Y1q, Y1w, Y1x, Y1y, Y1z, Y20, Y21, Y28, Y2a, AV.cells?, Nat.reduceAdd, Nat.reduceMul, decide_eq_false hx]
      rw [binA_succ (by simp at hl; omega)]
      simp only [nd0, Y1n, Y1o, Y1p, Y1q, Y1w, Y1x, Y1y, Y1z, Y20, Y21, Y28, Y2a, AV.cells?, Nat.reduceAdd, Nat.reduceMul]
      refine hnext ?_
      rcases hs with hs | hs
      · exact .inl hs
      · refine .inr ?_
        simp only [List.mem_append, List.mem_singleton, not_or]
        exact ⟨hs, fun h => hx h.symm⟩
theorem SR.drop {b : Bd} {tb : List Blk} {w : Blk} {H : AH} {r : AV} (h : SR s b (tb ++ [w]) H) : ∃ H', Ghost [r] H [r] H' ∧ SR s b tb H' := by
  obtain ⟨z, t, c, rfl, hg⟩ := h
  exact ⟨_, ghost_drop (bs := s.b0 :: .cells s.g1 2 [Z b.vars, t] :: .cells s.g2 1 [Lm S s.names] :: .cells s.g3 1 [Lm S s.edges] :: .cells s.g4 1 [rlitF s.g1 s.g2 s.g3 s.g4 s.g5] :: .cells s.g5 1 [randF s.g1] :: z :: tb) w, z, t, c, rfl, hg⟩
theorem mul_one {y : Int} {k : Bool} (h : -1000000 ≤ y ∧ y ≤ 1000000) : binA .mul (Z (if k then 1 else -1)) (Z y) = some (Z (if k then y else -y)) := by
  cases k
  · simp only [Bool.false_eq_true, if_false]
    rw [binA_mul (by omega)]
    congr 3; omega
  · simp only [if_true]
    rw [binA_mul (by omega)]
    congr 3; omega
theorem wCallV.lit {E : Env} {P : Program} {x : AV} {g1 g2 g3 g4 g5 : Nat} {H : AH} {R K : Kt} (h : ACalls E P 242 [x, .ptrL 2 0 g2, .ptrL 3 0 g3, .ptrL 5 0 g5, .ptrL 4 0 g4, .ptrL 1 0 g1] H R) (hK : ∀ r H', R r H' → K r H') : wCallV E P (rlitF g1 g2 g3 g4 g5) [x] H K := ⟨⟨242, [], _, rfl, R, h, hK⟩⟩
theorem wCallV.and {E : Env} {P : Program} {x : AV} {g1 : Nat} {H : AH} {R K : Kt} (h : ACalls E P 241 [x, .ptrL 1 0 g1] H R) (hK : ∀ r H', R r H' → K r H') : wCallV E P (randF g1) [x] H K := ⟨⟨241, [], _, rfl, R, h, hK⟩⟩
end
end Go.Sc
namespace Go.Sc
open Go
set_option linter.unusedSimpArgs false
set_option linter.unusedVariables false
set_option linter.unnecessarySimpa false
/-! ### names of what is made tidy -/
section
variable {Q Q' : Str → Prop}
end
/-! ### clauses are short, and may be -/
theorem andP_short {l : List Int} {b : Bd} {M : Nat} (hM : l.length + 2 ≤ M) (hb : ∀ c ∈ b.cl, c.length ≤ M) : ∀ c ∈ (andP l b).2.cl, c.length ≤ M := by
  intro c hc
  simp only [andP, List.mem_append, List.mem_map, List.mem_singleton] at hc
  rcases hc with (hc | ⟨x, hx, rfl⟩) | rfl
  · exact hb c hc
  · simp; omega
  · simp [negL]; omega
mutual
theorem litP_short (nm : Str → Int) {M : Nat} : ∀ (x : Ex) (b : Bd), x.size + 4 ≤ M → (∀ c ∈ b.cl, c.length ≤ M) → ∀ c ∈ (litP nm x b).2.cl, c.length ≤ M
  | .bit s, b, hM, hb => hb
  | .rise s, b, hM, hb => andP_short (by simp; omega) hb
  | .fall s, b, hM, hb => andP_short (by simp; omega) hb
  | .k k, b, hM, hb => by
    intro c hc
    simp only [litP, constP, List.mem_append, List.mem_singleton] at hc
    rcases hc with hc | rfl
    · exact hb c hc
    · simp; omega
  | .not x, b, hM, hb => litP_short nm x b (by simp only [Ex.size] at hM; omega) hb
  | .and l, b, hM, hb => by
    have h1 := litsP_len nm l b
    have h2 := sizeL_len l
    simp only [Ex.size] at hM
    exact andP_short (by omega) (litsP_short nm l b (by omega) hb)
  | .or l, b, hM, hb => by
    have h1 := litsP_len nm l b
    have h2 := sizeL_len l
    simp only [Ex.size] at hM
    exact andP_short (by rw [negL_len]; omega) (litsP_short nm l b (by omega) hb)
theorem litsP_short (nm : Str → Int) {M : Nat} : ∀ (l : List Ex) (b : Bd), Ex.sizeL l + 4 ≤ M → (∀ c ∈ b.cl, c.length ≤ M) → ∀ c ∈ (litsP nm l b).2.cl, c.length ≤ M
  | [], b, hM, hb => hb
  | x :: l, b, hM, hb => by
    simp only [Ex.sizeL] at hM
    exact litsP_short nm l _ (by omega) (litP_short nm x b (by omega) hb)
end
theorem gcheck_fine {V : Nat} {all : List (List Int)} (hV : V ≤ 1000) (hl : all.length ≤ 3000) (h : ∀ c ∈ all, okB V c) : gcheck V all = none := by
  unfold gcheck
  rw [if_neg (by omega), List.findSome?_eq_none_iff]
  intro i hi
  rw [List.mem_range] at hi
  unfold gcheckAt
  rw [if_neg]
  have hr : row all i = all[i] := by simp [row, List.getElem?_eq_getElem hi]
  rw [hr, Bool.not_eq_true, List.any_eq_false]
  intro x hx
  have := h _ (List.getElem_mem hi) x hx
  unfold okLit at this
  simp only [badL, Bool.or_eq_true, decide_eq_true_eq, not_or]
  omega
/-- its clauses, and that it holds -/
def gall (x : Ex) : List (List Int) := (gateP x).2.cl ++ [[(gateP x).1]]
theorem gall_ok {x : Ex} (hf : x.fine) : ∀ c ∈ gall x, okB (gateP x).2.vars c := by
  obtain ⟨h1, h2⟩ := gateP_ok hf
  intro c hc
  rcases List.mem_append.1 hc with hc | hc
  · exact h2 c hc
  · simp at hc; subst hc; exact fun y hy => by simp at hy; subst hy; exact h1
theorem gall_len (x : Ex) : (gall x).length ≤ 4 * x.size := by have := gateP_cl x; simp only [gall, List.length_append, List.length_singleton]; omega
theorem gall_short (x : Ex) : ∀ c ∈ gall x, c.length ≤ x.size + 4 := by
  intro c hc
  rcases List.mem_append.1 hc with hc | hc
  · exact litP_short _ x _ (Nat.le_refl _) (by simp) c hc
  · simp at hc; subst hc; simp
theorem gall_defs {x : Ex} (hf : x.fine) : ∀ v, (gks x).length < v → v ≤ (gateP x).2.vars → DefAt v (gall x) := fun v h1 h2 =>
  (litP_defs _ x _ (gks_ok hf) (by simp) (fun v h1 h2 => by simp only at h2; omega) v h1 h2).mono fun c hc => List.mem_append_left _ hc
/-- what is told by values of variables -/
def isA (x : Ex) (a : Nat → Bool) : Str → Bool := fun s => lh a (nmv (gks x) s)
def wasA (x : Ex) (a : Nat → Bool) : Str → Bool := fun s => lh a (nmv (gks x) (94 :: s))
theorem sat_says {x : Ex} (hf : x.fine) {a : Nat → Bool} (h : Sats a (gall x)) : x.says (isA x a) (wasA x a) = true := by
  obtain ⟨h1, h2⟩ := Sats_app.1 h
  have := (litP_says (nmv (gks x)) (a := a) (p := isA x a) (q := wasA x a) x ⟨(gks x).length, []⟩ (gks_ok hf) (by simp) (Ex.on_of x hf (fun _ _ => rfl) (fun _ _ => rfl)) h1).2
  rw [← this]
  obtain ⟨y, hy, hy2⟩ := h2 [(gateP x).1] (by simp)
  simp at hy; subst hy; exact hy2
theorem says_sat {x : Ex} (hf : x.fine) {p q : Str → Bool} (h : x.says p q = true) : ∃ a, Sats a (gall x) := by
  let a0 : Nat → Bool := fun i => if i ≤ x.names.length then (match x.names[i - 1]? with | some s => p s | none => false) else (match x.edges[i - 1 - x.names.length]? with | some s => q s | none => false)
  obtain ⟨a', h1, h2⟩ := litP_ext (nmv (gks x)) x ⟨(gks x).length, []⟩ a0 (gks_ok hf) (by simp) (by intro c hc; simp at hc)
  refine ⟨a', Sats_app.2 ⟨h2, fun c hc => ?_⟩⟩
  simp at hc; subst hc
  refine ⟨_, List.mem_singleton.2 rfl, ?_⟩
  have hl := gks_len x
  have := (litP_says (nmv (gks x)) (a := a') (p := p) (q := q) x ⟨(gks x).length, []⟩ (gks_ok hf) (by simp) (Ex.on_of x hf (fun s hs => ?_) (fun s hs => ?_)) h2).2
  · exact this.trans h
  · have hs' : s ∈ x.names := onceS_mem.2 hs
    have hlt := ixN_lt hs'
    rw [gks_name hs', lh_new, h1 _ (by simp only; omega)]
    show a0 _ = _
    simp only [a0]
    rw [if_pos (by omega), Nat.add_sub_cancel, ixN_get hs']
  · have hs' : s ∈ x.edges := onceS_mem.2 hs
    have hlt := ixN_lt hs'
    rw [gks_edge hf hs', lh_new, h1 _ (by simp only; omega)]
    show a0 _ = _
    simp only [a0]
    rw [if_neg (by omega), show x.names.length + ixN x.edges s + 1 - 1 - x.names.length = ixN x.edges s by omega, ixN_get hs']
section
variable {E : Env} {P : Program}
theorem gall_solve (B : GateBodies0 E P) {x : Ex} (hf : x.fine) (hs : x.size ≤ 300) (hN : (gks x).length ≤ 8) : FR E P 100 [Cl (gateP x).2.vars (gall x)] (SolveR (gateP x).2.vars (gall x)) := by
  have h1 := gateP_vars x
  have h2 := gall_len x
  refine Solve_specN B _ _ (opens (gks x).length) (fun h => opensN_grow h) (fun y h a b c d => det_lt (gall_defs hf) y h a b c d) hN (opens_le _ _) (by omega) (gcheck_fine (by omega) (by omega) (gall_ok hf)) (by omega) fun c hc => ?_
  have := gall_short x c hc
  omega
end
end Go.Sc
namespace Go.Sc
open Go
set_option linter.unusedSimpArgs false
set_option linter.unusedVariables false
set_option linter.unnecessarySimpa false
def differE (a b : Ex) : Ex := .or [.and [a, .not b], .and [.not a, b]]
def SameR (a b : Ex) (r : AV) : Prop := (r = .tup [Bo true, nilE] ∧ ∀ p q, a.says p q = b.says p q) ∨ (r = .tup [Bo false, nilE] ∧ ∃ p q, a.says p q ≠ b.says p q)
theorem differ_says (a b : Ex) (p q : Str → Bool) : (differE a b).says p q = decide (a.says p q ≠ b.says p q) := by
  simp only [differE, Ex.says, Ex.anyL, Ex.allL]
  cases a.says p q <;> cases b.says p q <;> rfl
theorem differ_size (a b : Ex) : (differE a b).size = 2 * (a.size + b.size) + 5 := by simp only [differE, Ex.size, Ex.sizeL]; omega
theorem differ_fine {a b : Ex} (ha : a.fine) (hb : b.fine) : (differE a b).fine := ⟨by simp, ⟨⟨by simp, ha, hb, trivial⟩, ⟨by simp, ha, hb, trivial⟩, trivial⟩⟩
theorem differ_enc (a b : Ex) : (differE a b).enc = .ifc 8 (.slN [.ifc 9 (.slN [a.enc, .ifc 10 (.agg [b.enc])] 2), .ifc 9 (.slN [.ifc 10 (.agg [a.enc]), b.enc] 2)] 2) := by
  simp [differE, Ex.enc, Ex.encL]
theorem differ_raw (a b : Ex) (nf : Ex → Str) (h8 : ∀ l, nf (.or l) = []) (h9 : ∀ l, nf (.and l) = []) (h10 : ∀ y, nf (.not y) = []) : (differE a b).raw nf = (a.raw nf ++ b.raw nf) ++ (a.raw nf ++ b.raw nf) := by
  simp [differE, Ex.raw, Ex.rawL, nmL, h8, h9, h10]
theorem differ_names (a b : Ex) {s : Str} : s ∈ (differE a b).names ↔ s ∈ a.names ∨ s ∈ b.names := by
  unfold Ex.names
  rw [onceS_mem, onceS_mem, onceS_mem, differ_raw a b nf1 (fun _ => rfl) (fun _ => rfl) (fun _ => rfl)]
  simp only [List.mem_append, or_self]
theorem differ_edges (a b : Ex) {s : Str} : s ∈ (differE a b).edges ↔ s ∈ a.edges ∨ s ∈ b.edges := by
  unfold Ex.edges
  rw [onceS_mem, onceS_mem, onceS_mem, differ_raw a b nf2 (fun _ => rfl) (fun _ => rfl) (fun _ => rfl)]
  simp only [List.mem_append, or_self]
theorem nodup_sub {l m : List Str} (hl : l.Nodup) (h : ∀ s ∈ l, s ∈ m) : l.length ≤ m.length := by
  induction l generalizing m with
  | nil => simp
  | cons x l ih =>
    obtain ⟨pre, rest, rfl, _⟩ := mem_split (h x (by simp))
    have := ih (m := pre ++ rest) (List.nodup_cons.1 hl).2 fun s hs => by
      have := h s (List.mem_cons_of_mem _ hs)
      simp only [List.mem_append, List.mem_cons] at this ⊢
      rcases this with k | rfl | k
      · exact .inl k
      · exact absurd hs (List.nodup_cons.1 hl).1
      · exact .inr k
    simp at this ⊢
    omega
/-- how many names and edges two ask for -/
theorem differ_gks (a b : Ex) : (gks (differE a b)).length ≤ a.names.length + a.edges.length + b.names.length + b.edges.length := by
  rw [gks_len]
  have h1 := nodup_sub (m := a.names ++ b.names) (names_nodup (differE a b)) fun s hs => by
    rw [List.mem_append]; exact (differ_names a b).1 hs
  have h2 := nodup_sub (m := a.edges ++ b.edges) (edges_nodup (differE a b)) fun s hs => by
    rw [List.mem_append]; exact (differ_edges a b).1 hs
  simp at h1 h2
  omega
structure SameBodies (E : Env) (P : Program) : Prop where
  o : OfBodies E P
  g : GateBodies0 E P
  same : Body2 E P 231 F.gate_Same
  tell : ∀ e, FX E P 53 [Er e] (Z e)
section
variable {E : Env} {P : Program}
theorem Same_nil (B : SameBodies E P) (x : Ex) : FX E P 231 [x.enc, nilE] (.tup [Bo false, .ifc 1 (Z 7)]) := by
  refine FX.of' ⟨Ex.enc_closed x, trivial, trivial⟩ (by simp [AV.closed, AV.closedL]) fun n R hR => B.same _ _ _ _ ?_
  unfold F.gate_Same
  simp only [nd0, Y1n, Y1o, Y1p, Y1q, Y1w, Y1x, Y1y, Y1z, Y20, Y21, Y28, Y2a, AV.cells?, Nat.reduceAdd, Nat.reduceMul, Ex.enc_nil]
  exact hR _ _ rfl
theorem Same_spec (B : SameBodies E P) {a b : Ex} (ha : a.fine) (hb : b.fine) (hs : 2 * (a.size + b.size) + 5 ≤ 300) (hw : (differE a b).wt ≤ 1000000) (hN : (gks (differE a b)).length ≤ 8) : FR E P 231 [a.enc, b.enc] (SameR a b) := by
  refine FR.of ⟨Ex.enc_closed a, Ex.enc_closed b, trivial⟩ (fun r hr => ?_) fun n R hR => B.same _ _ _ _ ?_
  · rcases hr with ⟨rfl, _⟩ | ⟨rfl, _⟩ <;> simp [AV.closed, AV.closedL]
  unfold F.gate_Same
  simp only [nd0, Y1n, Y1o, Y1p, Y1q, Y1w, Y1x, Y1y, Y1z, Y20, Y21, Y28, Y2a, AV.cells?, Nat.reduceAdd, Nat.reduceMul, Ex.enc_nil]
  have hf := differ_fine ha hb
  have hsz := differ_size a b
  have hv := gateP_vars (differE a b)
  have hcl := gateP_cl (differE a b)
  have ea := cells?_scalar (Ex.enc_scalar a)
  have eb := cells?_scalar (Ex.enc_scalar b)
  refine ⟨⟨[b.enc], by simp [fillA, eb, putL], ?_⟩⟩
  refine wNewS.F' (l := [a.enc, .ifc 10 (.agg [b.enc])]) (by simp [fillA, ea, eb, putL, show ∀ y : AV, (AV.ifc 10 (.agg [y])).cells? = some [.ifc 10 (.agg [y])] from fun _ => rfl]) rfl ?_
  refine ⟨⟨[a.enc], by simp [fillA, ea, putL], ?_⟩⟩
  refine wNewS.F' (l := [.ifc 10 (.agg [a.enc]), b.enc]) (by simp [fillA, ea, eb, putL, show ∀ y : AV, (AV.ifc 10 (.agg [y])).cells? = some [.ifc 10 (.agg [y])] from fun _ => rfl]) rfl ?_
  refine wNewS.F' (l := [.ifc 9 (.slN [a.enc, .ifc 10 (.agg [b.enc])] 2), .ifc 9 (.slN [.ifc 10 (.agg [a.enc]), b.enc] 2)]) rfl rfl ?_
  rw [← differ_enc a b]
  refine ⟨_, Of_grow B.o (differE a b) hw hf (by omega) _, ?_⟩
  rintro r H ⟨t, b0, b1, b2, z, c, rfl, hg, rfl⟩
  simp only [nd0, Y1n, Y1o, Y1p, Y1q, Y1w, Y1x, Y1y, Y1z, Y20, Y21, Y28, Y2a, AV.cells?, Nat.reduceAdd, Nat.reduceMul]
  refine wNew.L (l := [Z 0, nilS]) rfl ?_
  simp only [nd0, Y1n, Y1o, Y1p, Y1q, Y1w, Y1x, Y1y, Y1z, Y20, Y21, Y28, Y2a, AV.cells?, Nat.reduceAdd, Nat.reduceMul]
  rw [storeN_L (n := 2) (xs := [Z (gateP (differE a b)).2.vars, t]) rfl (show (true && (t.scalar && true)) = true by rw [hg.scalar]; rfl)]
  simp only [nd0, Y1n, Y1o, Y1p, Y1q, Y1w, Y1x, Y1y, Y1z, Y20, Y21, Y28, Y2a, AV.cells?, Nat.reduceAdd, Nat.reduceMul, put_two]
  refine wNewS.F' (l := [Z (gateP (differE a b)).1]) rfl rfl ?_
  refine wNewS.F' (l := [LI [(gateP (differE a b)).1]]) rfl rfl ?_
  refine wApp.one hg rfl (by simp) (.refl _) rfl (by simp [mostBytes]; omega) fun z' x' c' hg' => ?_
  simp only [nd0, Y1n, Y1o, Y1p, Y1q, Y1w, Y1x, Y1y, Y1z, Y20, Y21, Y28, Y2a, AV.cells?, Nat.reduceAdd, Nat.reduceMul]
  rw [store1_L hg'.scalar]
  simp only [nd0, Y1n, Y1o, Y1p, Y1q, Y1w, Y1x, Y1y, Y1z, Y20, Y21, Y28, Y2a, AV.cells?, Nat.reduceAdd, Nat.reduceMul, Nat.reduceLT]
  have hg2 : Gr 1 z' 3 x' ((gall (differE a b)).map LI) (gall (differE a b)).length := by simpa [gall] using hg'
  refine wCall.fr (gall_solve B.g hf (by omega) hN) (.one (.agg (.cons (.refl _) (.one hg2.sub)))) fun r n hr => ?_
  rcases hr with ⟨o, ⟨_, hsat, _, _⟩, rfl⟩ | ⟨hF, rfl⟩
  · simp only [nd0, Y1n, Y1o, Y1p, Y1q, Y1w, Y1x, Y1y, Y1z, Y20, Y21, Y28, Y2a, AV.cells?, Nat.reduceAdd, Nat.reduceMul]
    refine wCall.fx (B.tell 0) fun n => ?_
    simp only [nd0, Y1n, Y1o, Y1p, Y1q, Y1w, Y1x, Y1y, Y1z, Y20, Y21, Y28, Y2a, AV.cells?, Nat.reduceAdd, Nat.reduceMul]
    have := sat_says hf hsat
    rw [differ_says] at this
    exact hR _ _ _ (.same _) (.inr ⟨rfl, _, _, of_decide_eq_true this⟩)
  · simp only [nd0, Y1n, Y1o, Y1p, Y1q, Y1w, Y1x, Y1y, Y1z, Y20, Y21, Y28, Y2a, AV.cells?, Nat.reduceAdd, Nat.reduceMul]
    refine wCall.fx (B.tell 8) fun n => ?_
    simp only [nd0, Y1n, Y1o, Y1p, Y1q, Y1w, Y1x, Y1y, Y1z, Y20, Y21, Y28, Y2a, AV.cells?, Nat.reduceAdd, Nat.reduceMul, show decide ((8 : Int) = 0) = false from rfl]
    refine hR _ _ _ (.same _) (.inl ⟨rfl, fun p q => ?_⟩)
    refine Decidable.byContradiction fun hne => ?_
    obtain ⟨a', ha'⟩ := says_sat hf (p := p) (q := q) (by rw [differ_says]; exact decide_eq_true hne)
    exact hF a' ha' (fun i h1 h2 => by simp [cell_rep])
end
end Go.Sc
namespace Go.Sc.F
open Go Go.Sc
set_option linter.unusedVariables false
/-- signalbox/signalboxlaw.GateSames -/
def law_GateSames (E : Env) (P : Program) (a0 a1 : AV) (H : AH) (R : Kt) : Prop :=
  wCall E P 169 [a0] H fun t17 H =>
  wGet (extractA t17 0) H fun t18 H =>
  wGet (extractA t17 1) H fun t19 H =>
  wGet (extractA t17 2) H fun t20 H =>
  wCall E P 169 [a1] H fun t23 H =>
  wGet (extractA t23 0) H fun t24 H =>
  wGet (extractA t23 1) H fun t25 H =>
  wGet (extractA t23 2) H fun t26 H =>
  wGet (unA .not t20) H fun t28 H =>
  wGuard t28 false H (fun k => k t26 H) fun t30 H =>
  wGuard t28 false H (fun k => wGet (unA .not t30) H k) fun t31 H =>
  wGet (pickA t28 (.val (.bool true)) t31) H fun t32 H =>
  wGuard t32 false H (fun k => k t19 H) fun t34 H =>
  wGuard t32 false H (fun k => wCall E P 186 [t34] H k) fun t35 H =>
  wGuard t32 false H (fun k => k t25 H) fun t36 H =>
  wGuard t32 false H (fun k => wCall E P 186 [t36] H k) fun t37 H =>
  wGuard t32 false H (fun k => wGet (binA .add t35 t37) H k) fun t38 H =>
  wGuard t32 false H (fun k => wGet (binA .gtr t38 (.val (.int .i64 80))) H k) fun t39 H =>
  wGet (pickA t32 (.val (.bool true)) t39) H fun t40 H =>
  wIf t40 (
    R (.val (.bool true)) H) (
    wCall E P 182 [t19] H fun t42 H =>
    wGet (lenA t42) H fun t43 H =>
    wCall E P 185 [t19] H fun t45 H =>
    wGet (lenA t45) H fun t46 H =>
    wGet (binA .add t43 t46) H fun t47 H =>
    wCall E P 182 [t25] H fun t49 H =>
    wGet (lenA t49) H fun t50 H =>
    wGet (binA .add t47 t50) H fun t51 H =>
    wCall E P 185 [t25] H fun t53 H =>
    wGet (lenA t53) H fun t54 H =>
    wGet (binA .add t51 t54) H fun t55 H =>
    wGet (binA .gtr t55 (.val (.int .i64 6))) H fun t56 H =>
    wIf t56 (
      R (.val (.bool true)) H) (
      wCall E P 231 [t18, t24] H fun t60 H =>
      wGet (extractA t60 0) H fun t61 H =>
      wGet (extractA t60 1) H fun t62 H =>
      wCall E P 231 [t18, (.val (.nilIface))] H fun t65 H =>
      wGet (extractA t65 0) H fun t66 H =>
      wGet (extractA t65 1) H fun t67 H =>
      wBool (eqA .iface t18 (.val (.nilIface))) H true fun t69 H =>
      wGuard t69 true H (fun k => k t24 H) fun t71 H =>
      wGuard t69 true H (fun k => wBool (eqA .iface t71 (.val (.nilIface))) H true k) fun t72 H =>
      wGet (pickA t69 t72 (.val (.bool false))) H fun t73 H =>
      wGuard t73 true H (fun k => k t62 H) fun t75 H =>
      wGuard t73 true H (fun k => wBool (eqA .iface t75 (.val (.nilIface))) H false k) fun t76 H =>
      wGet (pickA t73 t76 (.val (.bool false))) H fun t77 H =>
      wGuard t77 true H (fun k => k t67 H) fun t79 H =>
      wGuard t77 true H (fun k => wCall E P 89 [t79, (.val (.int .i64 7))] H k) fun t80 H =>
      wGet (pickA t77 t80 (.val (.bool false))) H fun t81 H =>
      wGuard t81 true H (fun k => k t61 H) fun t83 H =>
      wGuard t81 true H (fun k => k t19 H) fun t84 H =>
      wGuard t81 true H (fun k => k t25 H) fun t85 H =>
      wGuard t81 true H (fun k => wCall E P 243 [t84, t85] H k) fun t86 H =>
      wGuard t81 true H (fun k => wBool (eqA .bool t83 t86) H false k) fun t87 H =>
      wGet (pickA t81 t87 (.val (.bool false))) H fun t88 H =>
      R t88 H))

/-- signalbox/signalboxref.GateSame -/
def ref_GateSame (E : Env) (P : Program) (a0 a1 : AV) (H : AH) (R : Kt) : Prop :=
  wNew 1 (AV.cells? a0) H fun t2 H =>
  wNew 1 (AV.cells? a1) H fun t3 H =>
  wNew 1 (some [(.val (.bool false))]) H fun t5 H =>
  wPut (store1 t5 (.val (.bool true)) H) fun _u H =>
  wGet (load1 t2 H) H fun t6 H =>
  wGet (load1 t3 H) H fun t8 H =>
  wGet (load1 t2 H) H fun t11 H =>
  wGet (load1 t3 H) H fun t13 H =>
  wCall E P 182 [t6] H fun t7 H =>
  (wGet (load1 t3 H) H (fun y H2 => y = t8 ∧ H2 = H)) ∧
  (wGet (load1 t2 H) H (fun y H2 => y = t11 ∧ H2 = H)) ∧
  (wGet (load1 t3 H) H (fun y H2 => y = t13 ∧ H2 = H)) ∧
  wCall E P 182 [t8] H fun t9 H =>
  (wGet (load1 t2 H) H (fun y H2 => y = t11 ∧ H2 = H)) ∧
  (wGet (load1 t3 H) H (fun y H2 => y = t13 ∧ H2 = H)) ∧
  wCall E P 246 [t7, t9] H fun t10 H =>
  (wGet (load1 t2 H) H (fun y H2 => y = t11 ∧ H2 = H)) ∧
  (wGet (load1 t3 H) H (fun y H2 => y = t13 ∧ H2 = H)) ∧
  wCall E P 185 [t11] H fun t12 H =>
  (wGet (load1 t3 H) H (fun y H2 => y = t13 ∧ H2 = H)) ∧
  wCall E P 185 [t13] H fun t14 H =>
  wCall E P 246 [t12, t14] H fun t15 H =>
  wCall E P 247 [t10, t15, (.fn 245 [] [t5, t2, t3])] H fun t17 H =>
  wGet (load1 t5 H) H fun t18 H =>
  R t18 H

/-- signalbox/signalboxref.cases -/
def ref_cases (E : Env) (P : Program) (a0 a1 a2 : AV) (H : AH) (R : Kt) : Prop :=
  wGet (lenA a0) H fun t10 H =>
  wGet (lenA a1) H fun t12 H =>
  wGet (binA .add t10 t12) H fun t13 H =>
  wNew 1 (some [(.val (.int .i64 0))]) H fun t6 H =>
  wPut (store1 t6 t13 H) fun _u H =>
  wGet (load1 t6 H) H fun t14 H =>
  wGet (binA .shl (.val (.int .i64 1)) t14) H fun t15 H =>
  wGet (binA .sub t15 (.val (.int .i64 1))) H fun t16 H =>
  wNew 1 (some [(.val (.int .i64 0))]) H fun t7 H =>
  wPut (store1 t7 t16 H) fun _u H =>
  wLoop 1 (fun I1 => I1 t7 H) fun I1 t7_1 H =>
    wGet (load1 t7_1 H) H fun t17 H =>
    wGet (binA .geq t17 (.val (.int .i64 0))) H fun t18 H =>
    wIf t18 (
      wCallV E P (.fn 248 [] [t7_1, t6]) [a0, (.val (.int .i64 0))] H fun t25 H =>
      wGet (lenA a0) H fun t29 H =>
      wCallV E P (.fn 248 [] [t7_1, t6]) [a1, t29] H fun t30 H =>
      wCallV E P a2 [t25, t30] H fun t31 H =>
      wIf t31 (
        R (.tup []) H) (
        wGet (load1 t7_1 H) H fun t32 H =>
        wNew 1 (some [(.val (.int .i64 0))]) H fun t7_2 H =>
        wPut (store1 t7_2 t32 H) fun _u H =>
        wGet (load1 t7_2 H) H fun t19 H =>
        wGet (binA .sub t19 (.val (.int .i64 1))) H fun t20 H =>
        wPut (store1 t7_2 t20 H) fun _u H =>
        I1 t7_2 H)) (
      R (.tup []) H)

/-- signalbox/signalboxref.both -/
def ref_both (E : Env) (P : Program) (a0 a1 : AV) (H : AH) (R : Kt) : Prop :=
  wAgg (fillA [(.val (.string ⟨#[]⟩)), (.val (.string ⟨#[]⟩)), (.val (.slice none 0 0))] [(0, 1, (.val (.string ⟨#[38]⟩)))]) H fun t8 H =>
  wNew 3 (AV.cells? t8) H fun t9 H =>
  wNewS 1 0 (fillA (List.replicate 0 [(.val (.string ⟨#[]⟩))]).flatten []) H fun t10 H =>
  wApp 1 16 t10 a0 H fun t12 H =>
  wApp 1 16 t12 a1 H fun t14 H =>
  wGet (lenA t14) H fun t15 H =>
  wLoop 1 (fun I1 => I1 (.val (.int .i64 0)) H) fun I1 t16 H =>
    wGet (binA .lss t16 t15) H fun t17 H =>
    wIf t17 (
      wGet (iaddr 1 t14 t16) H fun t18 H =>
      wGet (load1 t18 H) H fun t19 H =>
      wGet (nilA t9) H fun t22 H =>
      wGet (faddr 2 t22) H fun t23 H =>
      wGet (load1 t23 H) H fun t24 H =>
      wAgg (fillA [(.val (.string ⟨#[]⟩)), (.val (.string ⟨#[]⟩)), (.val (.slice none 0 0))] [(0, 1, (.val (.string ⟨#[98, 105, 116]⟩))), (1, 1, t19)]) H fun t26 H =>
      wNew 3 (AV.cells? t26) H fun t27 H =>
      wNewS 1 1 (fillA (List.replicate 1 [(.val (.pointer none))]).flatten [(0, 1, t27)]) H fun t28 H =>
      wApp 1 8 t24 t28 H fun t29 H =>
      wGet (nilA t9) H fun t30 H =>
      wGet (faddr 2 t30) H fun t31 H =>
      wPut (store1 t31 t29 H) fun _u H =>
      wGet (binA .add t16 (.val (.int .i64 1))) H fun t32 H =>
      I1 t32 H) (
      wCall E P 182 [t9] H fun t34 H =>
      R t34 H)

/-- signalbox/signalboxref.GateSame$1 -/
def ref_GateSame_c1 (E : Env) (P : Program) (a0 a1 a2 a3 a4 : AV) (H : AH) (R : Kt) : Prop :=
  wGet (load1 a2 H) H fun t8 H =>
  wGuard t8 true H (fun k => wGet (load1 a3 H) H k) fun t10 H =>
  wGuard t8 true H (fun k => k a0 H) fun t11 H =>
  wGuard t8 true H (fun k => k a1 H) fun t12 H =>
  wGuard t8 true H (fun k => wGet (load1 a4 H) H k) fun t14 H =>
  wGuard t8 true H (fun k => k a0 H) fun t15 H =>
  wGuard t8 true H (fun k => k a1 H) fun t16 H =>
  wGuard t8 true H (fun k => wCall E P 180 [t10, t11, t12] H k) fun t13 H =>
  (wGuard t8 true H (fun k => wGet (load1 a4 H) H k) (fun y H2 => y = t14 ∧ H2 = H)) ∧
  wGuard t8 true H (fun k => wCall E P 180 [t14, t15, t16] H k) fun t17 H =>
  wGuard t8 true H (fun k => wBool (eqA .bool t13 t17) H false k) fun t18 H =>
  wGet (pickA t8 t18 (.val (.bool false))) H fun t19 H =>
  wPut (store1 a2 t19 H) fun _u H =>
  wGet (load1 a2 H) H fun t20 H =>
  wGet (unA .not t20) H fun t21 H =>
  R t21 H

/-- signalbox/signalboxref.cases$1 -/
def ref_cases_c1 (E : Env) (P : Program) (a0 a1 a2 a3 : AV) (H : AH) (R : Kt) : Prop :=
  wNew 1 (AV.cells? a0) H fun t4 H =>
  wNew 1 (AV.cells? a1) H fun t5 H =>
  R (.fn 249 [] [a2, a3, t5, t4]) H

/-- signalbox/signalboxref.cases$1$1 -/
def ref_cases_c1_c1 (E : Env) (P : Program) (a0 a1 a2 a3 a4 : AV) (H : AH) (R : Kt) : Prop :=
  wGet (load1 a1 H) H fun t7 H =>
  wGet (load1 a2 H) H fun t8 H =>
  wGet (binA .sub t8 (.val (.int .i64 1))) H fun t9 H =>
  wGet (load1 a3 H) H fun t10 H =>
  wGet (binA .sub t9 t10) H fun t11 H =>
  wGet (load1 a4 H) H fun t12 H =>
  wCall E P 98 [t12, a0] H fun t14 H =>
  (wGet (load1 a1 H) H (fun y H2 => y = t7 ∧ H2 = H)) ∧
  (wGet (load1 a2 H) H (fun y H2 => y = t8 ∧ H2 = H)) ∧
  (wGet (load1 a3 H) H (fun y H2 => y = t10 ∧ H2 = H)) ∧
  wGet (binA .sub t11 t14) H fun t15 H =>
  wGet (binA .shr t7 t15) H fun t16 H =>
  wGet (binA .and t16 (.val (.int .i64 1))) H fun t17 H =>
  wGet (binA .eql t17 (.val (.int .i64 1))) H fun t18 H =>
  R t18 H

end Go.Sc.F
namespace Go.Sc
open Go
set_option linter.unusedSimpArgs false
set_option linter.unusedVariables false
set_option linter.unnecessarySimpa false
structure RefSameBodies (E : Env) (P : Program) : Prop where
  r : RefSaysBodies E P
  index : Body2 E P 98 F.ref_index
  same : Body2 E P 243 F.ref_GateSame
  same1 : Body5 E P 245 F.ref_GateSame_c1
  both : Body2 E P 246 F.ref_both
  cases : Body3 E P 247 F.ref_cases
  get : Body4 E P 248 F.ref_cases_c1
  get1 : Body5 E P 249 F.ref_cases_c1_c1
def bitsE (L : List Str) : Ex := .and (L.map .bit)
theorem bitsE_raw {L : List Str} (h : ∀ s ∈ L, nameOk s = true) : (bitsE L).raw nf1 = L := by
  have key : ∀ L : List Str, (∀ s ∈ L, nameOk s = true) → Ex.rawL nf1 (L.map .bit) = L := by
    intro L
    induction L with
    | nil => intro _; rfl
    | cons s L ih =>
      intro h
      simp only [List.map_cons, Ex.rawL, ih fun t ht => h t (List.mem_cons_of_mem _ ht), Ex.raw, nmL, nf1, nameOk_ne (h s (by simp)), if_false]
      rfl
  simp only [bitsE, Ex.raw, nmL, nf1, if_true, List.nil_append]
  exact key L h
theorem bitsE_size (L : List Str) : (bitsE L).size = L.length + 1 := by
  have key : ∀ L : List Str, Ex.sizeL (L.map .bit) = L.length := by
    intro L
    induction L with
    | nil => rfl
    | cons s L ih => simp only [List.map_cons, Ex.sizeL, ih, Ex.size, List.length_cons]; omega
  simp only [bitsE, Ex.size, key]
section
variable {E : Env} {P : Program}
theorem nf1_ok {y : Ex} (hy : y.fine) : (decide (y.nm ≠ []) && Lib.contains [98, 105, 116, 94, 126] y.kind) = decide (nf1 y ≠ []) ∧ (nf1 y ≠ [] → nf1 y = y.nm) := by
  cases y with
  | k b => cases b <;> exact ⟨by decide, by simp [nf1]⟩
  | bit s => exact ⟨by simp [Ex.nm, Ex.kind, nf1, nameOk_ne hy, con1, con2, con3, con5, con6], by simp [nf1, Ex.nm]⟩
  | rise s => exact ⟨by simp [Ex.nm, Ex.kind, nf1, nameOk_ne hy, con1, con2, con3, con5, con6], by simp [nf1, Ex.nm]⟩
  | fall s => exact ⟨by simp [Ex.nm, Ex.kind, nf1, nameOk_ne hy, con1, con2, con3, con5, con6], by simp [nf1, Ex.nm]⟩
  | _ => exact ⟨by simp [Ex.nm, nf1], by simp [nf1]⟩
theorem bitsNamed (B : RefSaysBodies0 E P) {L : List Str} (hL : L.length ≤ 1000) (h : ∀ s ∈ L, nameOk s = true) : NamedOk E P [98, 105, 116, 94, 126] nf1 (bitsE L) := by
  intro g0 g1 l H hn hH
  have hsz := bitsE_size L
  refine B.named1 _ _ _ _ _ _ ?_
  unfold F.pref_Expr_named_c1
  obtain ⟨xs, ho, hs, hm, hraw⟩ : ∃ l : List Ex, ((bitsE L).of = .slN (Ex.refL l) l.length ∨ ((bitsE L).of = nilS ∧ l = [])) ∧ (bitsE L).size = Ex.sizeL l + 1 ∧ (∀ y ∈ l, y.wt < 100000 ∧ y.fine) ∧ ∀ nf : Ex → Str, (bitsE L).raw nf = nmL nf (bitsE L) ++ Ex.rawL nf l :=
    ⟨L.map .bit, .inl rfl, rfl, fun y hy => by
      obtain ⟨s, hs, rfl⟩ := List.mem_map.1 hy
      have := nameOk_len (h s hs)
      exact ⟨by simp only [Ex.wt]; omega, h s hs⟩, fun nf => rfl⟩
  refine put_spec B (by simp) (bitsE L) (by omega) hH false rfl _ fun H1 hH1 => ?_
  have hH1' : SN [98, 105, 116, 94, 126] g0 g1 (insAll l (nmL nf1 (bitsE L))) H1 := hH1
  have hll := sizeL_len xs
  rw [Ex.ref_eq]
  simp only [nd0, Y1n, Y1o, Y1p, Y1q, Y1w, Y1x, Y1y, Y1z, Y20, Y21, Y28, Y2a, AV.cells?, Nat.reduceAdd, Nat.reduceMul, of_length ho]
  refine namedL_spec (R := fun r H' => True ∧ SN [98, 105, 116, 94, 126] g0 g1 (insAll l ((bitsE L).raw nf1)) H') xs ho (fun y hy => named1_ok B (by simp) (fun z hz => nf1_ok hz) (y.wt + 1) y (by omega) (by have := (hm y hy).1; omega) (hm y hy).2) (by omega) _ (by simp [nmL, nf1, bitsE, insAll]; omega) hH1' fun H2 hH2 => ⟨trivial, ?_⟩
  rw [hraw nf1, insAll_append]
  exact hH2
theorem bitsNames_spec (B : RefSaysBodies0 E P) {L : List Str} (hL : L.length ≤ 1000) (h : ∀ s ∈ L, nameOk s = true) : FX E P 182 [(bitsE L).ref] (Lm S (onceS L)) := by
  refine FX.of ⟨Ex.ref_closed _, trivial⟩ (closed_S _) fun n R hR => B.names _ _ _ ?_
  unfold F.pref_Expr_Names
  have key : FX E P 191 [(bitsE L).ref, S [98, 105, 116, 94, 126]] (Lm S (onceS ((bitsE L).raw nf1))) := by
    refine FX.of ⟨Ex.ref_closed _, trivial, trivial⟩ (closed_S _) fun n R hR => B.named _ _ _ _ ?_
    unfold F.pref_Expr_named
    rw [cells?_scalar (show (S [98, 105, 116, 94, 126] : AV).scalar = true from rfl)]
    refine wNew.F' rfl ?_
    refine wNew.L (l := [nilS]) rfl ?_
    refine wNew.L (l := [.val .nilFunc]) rfl ?_
    simp only [nd0, Y1n, Y1o, Y1p, Y1q, Y1w, Y1x, Y1y, Y1z, Y20, Y21, Y28, Y2a, AV.cells?, Nat.reduceAdd, Nat.reduceMul]
    rw [store1_L rfl]
    simp only [nd0, Y1n, Y1o, Y1p, Y1q, Y1w, Y1x, Y1y, Y1z, Y20, Y21, Y28, Y2a, AV.cells?, Nat.reduceAdd, Nat.reduceMul, Nat.reduceLT]
    have hsz := bitsE_size L
    refine ⟨⟨196, [], _, rfl, _, bitsNamed B hL h n (n + 1) [] _ (by simp; omega) ⟨nilS, [], _, rfl, .inl ⟨rfl, rfl, rfl⟩⟩, ?_⟩⟩
    rintro r H' ⟨rfl, y, tb, c, rfl, ht⟩
    rw [insAll_once] at ht
    simp only [nd0, Y1n, Y1o, Y1p, Y1q, Y1w, Y1x, Y1y, Y1z, Y20, Y21, Y28, Y2a, AV.cells?, Nat.reduceAdd, Nat.reduceMul]
    rcases ht with ⟨rfl, hz, rfl⟩ | ⟨g2, rfl, rfl⟩
    · refine hR _ _ ?_
      rw [hz]
      exact .sub .nil
    · refine hR _ _ ?_
      refine Fk.then (Fk.slF (b := 2) (ys := (onceS ((bitsE L).raw nf1)).map fun s => S s) (onceS ((bitsE L).raw nf1)).length rfl rfl ?_) .F'
      rw [List.drop_zero, List.take_of_length_le (by simp)]
      exact FkL.same _
  rw [bitsE_raw h] at key
  exact wCall.fx key fun n1 => hR _ _ (.same _)
theorem both_spec (B : RefSameBodies E P) {l m : List Str} (hl : l.length ≤ 400) (hm : m.length ≤ 400) (h : ∀ s ∈ l ++ m, nameOk s = true) : FX E P 246 [Lm S l, Lm S m] (Lm S (onceS (l ++ m))) := by
  refine FX.of ⟨closed_S _, closed_S _, trivial⟩ (closed_S _) fun n R hR => B.both _ _ _ _ ?_
  unfold F.ref_both
  refine ⟨⟨[S [38], S [], nilS], rfl, ?_⟩⟩
  refine wNew.L (l := [S [38], S [], nilS]) rfl ?_
  simp only [nd0, Y1n, Y1o, Y1p, Y1q, Y1w, Y1x, Y1y, Y1z, Y20, Y21, Y28, Y2a, AV.cells?, Nat.reduceAdd, Nat.reduceMul]
  have hS : ∀ k : List Str, (k.map fun s => S s).all AV.scalar = true := fun k => by simp [AV.scalar]
  refine wNewS.T (l := []) (l' := []) rfl .nil rfl ?_
  simp only [nd0, Y1n, Y1o, Y1p, Y1q, Y1w, Y1x, Y1y, Y1z, Y20, Y21, Y28, Y2a, AV.cells?, Nat.reduceAdd, Nat.reduceMul]
  refine wApp.gr (sz := 1) (b := 1) (z := .tail (n + 1) 1) (n := 0) (cs := []) .mk rfl rfl (new := l.map fun s => S s) (m := l.length) (by simp [Lm, cellsOfA, subL, ← List.map_take]) (.refl _) (hS l) (by simp [mostBytes]; omega) fun z0 t0 c0 k0 => ?_
  simp only [nd0, Y1n, Y1o, Y1p, Y1q, Y1w, Y1x, Y1y, Y1z, Y20, Y21, Y28, Y2a, AV.cells?, Nat.reduceAdd, Nat.reduceMul]
  rw [List.nil_append, Nat.zero_add] at k0
  refine wApp.gr k0 rfl (by simp) (new := m.map fun s => S s) (m := m.length) (by simp [Lm, cellsOfA, subL, ← List.map_take]) (.refl _) (hS m) (by simp [mostBytes]; omega) fun z1 t1 c1 k1 => ?_
  simp only [nd0, Y1n, Y1o, Y1p, Y1q, Y1w, Y1x, Y1y, Y1z, Y20, Y21, Y28, Y2a, AV.cells?, Nat.reduceAdd, Nat.reduceMul]
  rw [← List.map_append] at k1
  generalize hL : l ++ m = L at *
  have hLn : l.length + m.length = L.length := by rw [← hL]; simp
  rw [hLn] at k1
  rw [show lenA t1 = some (Z L.length) from k1.len]
  simp only [nd0, Y1n, Y1o, Y1p, Y1q, Y1w, Y1x, Y1y, Y1z, Y20, Y21, Y28, Y2a, AV.cells?, Nat.reduceAdd, Nat.reduceMul]
  refine wLoop.one (fun M i H => ∃ pre rest z t c, L = pre ++ rest ∧ i = Z pre.length ∧ M = rest.length ∧ H = ⟨[.cells n 3 [S [38], S [], t], z1, z], c⟩ ∧ Gr 1 z 2 t (pre.map fun s => (Ex.bit s).ref) pre.length) L.length
    (gh1.of (ghost_room [.dead] (by simp)) ⟨[], L, .dead, nilS, _, rfl, rfl, rfl, rfl, .nil⟩) ?_
  rintro M i H ⟨pre, rest, z, t, c, hpr, rfl, rfl, rfl, hg⟩
  cases rest with
  | nil =>
    rw [List.append_nil] at hpr
    subst hpr
    simp only [nd0, Y1n, Y1o, Y1p, Y1q, Y1w, Y1x, Y1y, Y1z, Y20, Y21, Y28, Y2a, AV.cells?, Nat.reduceAdd, Nat.reduceMul, Int.lt_irrefl]
    have hx : (bitsE L).ref = .ptrF [S [38], S [], .slN (L.map fun s => (Ex.bit s).ref) L.length] 0 := by
      simp only [bitsE, Ex.ref, Ex.refL_map, List.map_map, List.length_map]; rfl
    have hb := bitsNames_spec B.r.toRefSaysBodies0 (L := L) (by omega) h
    rw [hx] at hb
    refine ⟨_, ACalls.args (ghost_all (.cons (Fk.ptrF 3 rfl rfl (.cons (.same _) (.cons (.same _) (.cons (.sub hg.sub) .nil)))) .nil)) (hb.ok _), fun r H' hr => ?_⟩
    exact hR _ _ (hr ▸ .same _)
  | cons s rest =>
    have hlt : pre.length < L.length := by rw [hpr]; simp
    simp only [nd0, Y1n, Y1o, Y1p, Y1q, Y1w, Y1x, Y1y, Y1z, Y20, Y21, Y28, Y2a, AV.cells?, Nat.reduceAdd, Nat.reduceMul, decide_eq_true (show (pre.length : Int) < (L.length : Int) by omega)]
    rw [k1.at (by omega)]
    simp only [nd0, Y1n, Y1o, Y1p, Y1q, Y1w, Y1x, Y1y, Y1z, Y20, Y21, Y28, Y2a, AV.cells?, Nat.reduceAdd, Nat.reduceMul, show ((pre.length : Int).toNat * 1) = pre.length by omega, show (L.map fun s => S s)[pre.length]? = some (S s) by rw [hpr]; simp]
    refine ⟨⟨[S [98, 105, 116], S s, nilS], rfl, ?_⟩⟩
    refine wNew.F' (l := [S [98, 105, 116], S s, nilS]) rfl ?_
    refine wNewS.F' (l := [(Ex.bit s).ref]) rfl rfl ?_
    refine wApp.one hg rfl (by simp) (.refl _) rfl (by simp [mostBytes]; omega) fun z' x' c' k' => ?_
    simp only [nd0, Y1n, Y1o, Y1p, Y1q, Y1w, Y1x, Y1y, Y1z, Y20, Y21, Y28, Y2a, AV.cells?, Nat.reduceAdd, Nat.reduceMul]
    rw [store1_L k'.scalar]
    simp only [nd0, Y1n, Y1o, Y1p, Y1q, Y1w, Y1x, Y1y, Y1z, Y20, Y21, Y28, Y2a, AV.cells?, Nat.reduceAdd, Nat.reduceMul, Nat.reduceLT]
    rw [binA_succ (by omega)]
    simp only [nd0, Y1n, Y1o, Y1p, Y1q, Y1w, Y1x, Y1y, Y1z, Y20, Y21, Y28, Y2a, AV.cells?, Nat.reduceAdd, Nat.reduceMul]
    exact back1.mk rest.length (by simp) ⟨pre ++ [s], rest, z', x', c', by rw [hpr]; simp, by simp, rfl, rfl, by simpa using k'⟩
end
end Go.Sc
