/- CONTRACTS: package gate: the solver. CONTRACTS: package gate: search, Check, Solve; the reference's GateCheck. CONTRACTS: bare. CONTRACTS: package gate: Check, Solve; the reference's GateCheck, GateSolve. THE LAW GateSolves, out of the contracts. THE LAW GateSolves: the body. CONTRACTS: package gate: an expression's clauses. THE LAW CoverShows, out of the contracts. CONTRACTS: package gate: an expression's clauses: Of. TSEITIN: an expression can hold just if its clauses can; what is made tidy asks of no new names. (of the seat YtnellomaabbpkaaGreatDoor) -/
import Derived.Test.YtnellomaabbpkaaGreatDoorCore8
namespace Go.Sc
open Go
set_option linter.unusedSimpArgs false
set_option linter.unusedVariables false
set_option linter.unnecessarySimpa false
def TR (tr : List Int) (x : AV) (tb : List Blk) : Prop := (x = nilS ∧ tr = [] ∧ tb = []) ∨ ∃ g2, x = .slL 2 0 tr.length g2 ∧ tb = [.cells g2 1 (tr.map fun z => Z z)]
def gH (ga gs V : Nat) (all : List (List Int)) (of : List Int) (x : AV) (st : Int) (tb : List Blk) (c : Nat) : AH := ⟨.cells ga 1 (of.map fun z => Z z) :: .cells gs 5 [Z V, LLI all, .slL 0 0 (V + 1) ga, x, Z st] :: tb, c⟩
def GH (ga gs V : Nat) (all : List (List Int)) (of tr : List Int) (st : Int) (H : AH) : Prop := ∃ x tb c, H = gH ga gs V all of x st tb c ∧ TR tr x tb
theorem TR.scalar {tr : List Int} {x : AV} {tb : List Blk} (h : TR tr x tb) : x.scalar = true := by
  rcases h with ⟨rfl, _, _⟩ | ⟨g, rfl, _⟩ <;> rfl
theorem TR.len {tr : List Int} {x : AV} {tb : List Blk} (h : TR tr x tb) : lenA x = some (Z tr.length) := by
  rcases h with ⟨rfl, rfl, _⟩ | ⟨g, rfl, _⟩ <;> rfl
structure SolverBodies (E : Env) (P : Program) : Prop where
  search : Body1 E P 105 F.pgate_solver_search
  spread : Body1 E P 108 F.pgate_solver_spread
  back : Body2 E P 109 F.pgate_solver_back
  index : Body2 E P 110 F.slices_Index_Lint_int
  set : Body2 E P 111 F.pgate_solver_set
  is : Body2 E P 112 F.pgate_solver_is
section
variable {E : Env} {P : Program} {ga gs V : Nat} {all : List (List Int)}
theorem neg_Z {x : Int} (h : -1000000 ≤ x ∧ x ≤ 1000000) : unA .neg (Z x) = some (Z (-x)) := by
  rw [unA_neg', wrap_i64 (by omega)]
  congr 3; omega
theorem is_spec (B : SolverBodies E P) {of : List Int} (hs : Sol V of) (hV : V ≤ 1000) {x : Int} (hx : okLit V x) (xx : AV) (st : Int) (tb : List Blk) (c : Nat) : ACalls E P 112 [.ptrL 1 0 gs, Z x] (gH ga gs V all of xx st tb c) fun r H' => r = Z (lv of x) ∧ H' = gH ga gs V all of xx st tb c := by
  refine B.is _ _ _ _ ?_
  unfold F.pgate_solver_is gH
  have hl := hs.len
  obtain ⟨h0, h1, h2⟩ := hx
  simp only [nd0, Y1n, Y1o, Y1p, Y1q, Y1w, Y1x, Y1y, Y1z, Y20, Y21, Y28, Y2a, AV.cells?, Nat.reduceAdd, Nat.reduceMul]
  by_cases hn : x < 0
  · simp only [nd0, Y1n, Y1o, Y1p, Y1q, Y1w, Y1x, Y1y, Y1z, Y20, Y21, Y28, Y2a, AV.cells?, Nat.reduceAdd, Nat.reduceMul, decide_eq_true hn]
    rw [neg_Z (by omega), show (-x) = (((-x).toNat : Nat) : Int) by omega]
    simp only [nd0, Y1n, Y1o, Y1p, Y1q, Y1w, Y1x, Y1y, Y1z, Y20, Y21, Y28, Y2a, AV.cells?, Nat.reduceAdd, Nat.reduceMul]
    rw [iaddr_Ln (by omega)]
    simp only [nd0, Y1n, Y1o, Y1p, Y1q, Y1w, Y1x, Y1y, Y1z, Y20, Y21, Y28, Y2a, AV.cells?, Nat.reduceAdd, Nat.reduceMul, cell_at (show (-x).toNat < of.length by omega)]
    have hv := hs.val (-x).toNat
    rw [neg_Z (by omega)]
    simp only [nd0, Y1n, Y1o, Y1p, Y1q, Y1w, Y1x, Y1y, Y1z, Y20, Y21, Y28, Y2a, AV.cells?, Nat.reduceAdd, Nat.reduceMul]
    exact ⟨by rw [lv, if_pos hn], trivial⟩
  · simp only [nd0, Y1n, Y1o, Y1p, Y1q, Y1w, Y1x, Y1y, Y1z, Y20, Y21, Y28, Y2a, AV.cells?, Nat.reduceAdd, Nat.reduceMul, decide_eq_false hn]
    obtain ⟨y, rfl⟩ : ∃ y : Nat, x = y := ⟨x.toNat, by omega⟩
    rw [iaddr_Ln (by omega)]
    simp only [nd0, Y1n, Y1o, Y1p, Y1q, Y1w, Y1x, Y1y, Y1z, Y20, Y21, Y28, Y2a, AV.cells?, Nat.reduceAdd, Nat.reduceMul, cell_at (show y < of.length by omega)]
    exact ⟨by rw [lv, if_neg (by omega)]; simp, trivial⟩
theorem set_spec (B : SolverBodies E P) {of tr : List Int} (hs : Sol V of) (hV : V ≤ 1000) {x : Int} (hx : okLit V x) (htr : tr.length < 100000) {st : Int} {H : AH} (hH : GH ga gs V all of tr st H) : ACalls E P 111 [.ptrL 1 0 gs, Z x] H fun r H' => r = .tup [] ∧ GH ga gs V all (litSet of x) (tr ++ [(vr x : Int)]) st H' := by
  obtain ⟨xx, tb, c, rfl, ht⟩ := hH
  refine B.set _ _ _ _ ?_
  unfold F.pgate_solver_set gH
  have hl := hs.len
  obtain ⟨h0, h1, h2⟩ := hx
  have hset : ∀ (v : Int) (i : Nat), (of.map fun z => Z z).set i (Z v) = (of.set i v).map fun z => Z z := fun v i => by rw [List.map_set]
  refine wJoin.zero (fun H => H = gH ga gs V all (litSet of x) xx st tb c) ?_ ?_
  · simp only [nd0, Y1n, Y1o, Y1p, Y1q, Y1w, Y1x, Y1y, Y1z, Y20, Y21, Y28, Y2a, AV.cells?, Nat.reduceAdd, Nat.reduceMul]
    by_cases hn : x < 0
    · simp only [nd0, Y1n, Y1o, Y1p, Y1q, Y1w, Y1x, Y1y, Y1z, Y20, Y21, Y28, Y2a, AV.cells?, Nat.reduceAdd, Nat.reduceMul, decide_eq_true hn]
      rw [neg_Z (by omega), show (-x) = (((-x).toNat : Nat) : Int) by omega]
      simp only [nd0, Y1n, Y1o, Y1p, Y1q, Y1w, Y1x, Y1y, Y1z, Y20, Y21, Y28, Y2a, AV.cells?, Nat.reduceAdd, Nat.reduceMul]
      rw [iaddr_Ln (by omega)]
      simp only [nd0, Y1n, Y1o, Y1p, Y1q, Y1w, Y1x, Y1y, Y1z, Y20, Y21, Y28, Y2a, AV.cells?, Nat.reduceAdd, Nat.reduceMul]
      rw [store1_L rfl]
      simp only [nd0, Y1n, Y1o, Y1p, Y1q, Y1w, Y1x, Y1y, Y1z, Y20, Y21, Y28, Y2a, AV.cells?, Nat.reduceAdd, Nat.reduceMul, List.length_map, show (-x).toNat < of.length by omega, hset]
      refine gh0.mk ?_
      unfold gH litSet
      rw [if_pos hn, show vr x = (-x).toNat by unfold vr; omega]
    · simp only [nd0, Y1n, Y1o, Y1p, Y1q, Y1w, Y1x, Y1y, Y1z, Y20, Y21, Y28, Y2a, AV.cells?, Nat.reduceAdd, Nat.reduceMul, decide_eq_false hn]
      rw [show x = ((x.toNat : Nat) : Int) by omega]
      rw [iaddr_Ln (by omega)]
      simp only [nd0, Y1n, Y1o, Y1p, Y1q, Y1w, Y1x, Y1y, Y1z, Y20, Y21, Y28, Y2a, AV.cells?, Nat.reduceAdd, Nat.reduceMul]
      rw [store1_L rfl]
      simp only [nd0, Y1n, Y1o, Y1p, Y1q, Y1w, Y1x, Y1y, Y1z, Y20, Y21, Y28, Y2a, AV.cells?, Nat.reduceAdd, Nat.reduceMul, List.length_map, show x.toNat < of.length by omega, hset]
      refine gh0.mk ?_
      unfold gH litSet
      rw [if_neg (by omega), show vr ((x.toNat : Nat) : Int) = x.toNat by unfold vr; omega]
  · rintro H rfl
    unfold gH
    simp only [nd0, Y1n, Y1o, Y1p, Y1q, Y1w, Y1x, Y1y, Y1z, Y20, Y21, Y28, Y2a, AV.cells?, Nat.reduceAdd, Nat.reduceMul]
    rw [neg_Z (by omega)]
    simp only [nd0, Y1n, Y1o, Y1p, Y1q, Y1w, Y1x, Y1y, Y1z, Y20, Y21, Y28, Y2a, AV.cells?, Nat.reduceAdd, Nat.reduceMul]
    have hmx : minA true (Z x) (Z (-x)) = some (Z (vr x : Int)) := by
      simp only [minA, if_true]
      unfold vr
      by_cases h : (-x : Int) > x
      · rw [if_pos h]; congr 3; omega
      · rw [if_neg h]; congr 3; omega
    rw [hmx]
    simp only [nd0, Y1n, Y1o, Y1p, Y1q, Y1w, Y1x, Y1y, Y1z, Y20, Y21, Y28, Y2a, AV.cells?, Nat.reduceAdd, Nat.reduceMul]
    refine wNewS.F' (l := [Z (vr x : Int)]) rfl rfl ?_
    rcases ht with ⟨rfl, rfl, rfl⟩ | ⟨g2, rfl, rfl⟩
    · refine ⟨_, _, .old (r := .slL 2 0 1 c) (H' := ⟨[.cells ga 1 ((litSet of x).map fun z => Z z), .cells gs 5 [Z V, LLI all, .slL 0 0 (V + 1) ga, nilS, Z st], .cells c 1 [Z (vr x : Int)]], c + 1⟩) rfl, ?_⟩
      simp only [nd0, Y1n, Y1o, Y1p, Y1q, Y1w, Y1x, Y1y, Y1z, Y20, Y21, Y28, Y2a, AV.cells?, Nat.reduceAdd, Nat.reduceMul]
      rw [store1_L rfl]
      simp only [nd0, Y1n, Y1o, Y1p, Y1q, Y1w, Y1x, Y1y, Y1z, Y20, Y21, Y28, Y2a, AV.cells?, Nat.reduceAdd, Nat.reduceMul, Nat.reduceLT]
      exact ⟨trivial, .slL 2 0 1 c, _, _, rfl, .inr ⟨c, rfl, rfl⟩⟩
    · have happ : appendA 1 8 (.slL 2 0 tr.length g2) (.slN [Z (vr x : Int)] 1) ⟨[.cells ga 1 ((litSet of x).map fun z => Z z), .cells gs 5 [Z V, LLI all, .slL 0 0 (V + 1) ga, .slL 2 0 tr.length g2, Z st], .cells g2 1 (tr.map fun z => Z z)], c⟩
          = some (.slL 2 0 (tr.length + 1) c, ⟨[.cells ga 1 ((litSet of x).map fun z => Z z), .cells gs 5 [Z V, LLI all, .slL 0 0 (V + 1) ga, .slL 2 0 tr.length g2, Z st], .cells c 1 ((tr ++ [(vr x : Int)]).map fun z => Z z)], c + 1⟩) := by
        have hb : (tr.length + 1) * 8 ≤ mostBytes ∧ tr.length + 1 ≤ mostBytes := by simp [mostBytes]; omega
        simp [appendA, cellsOfA, subL, AH.cells, AH.esz, hb, AV.scalar]
      refine ⟨_, _, .old happ, ?_⟩
      rw [store1_L rfl]
      simp only [nd0, Y1n, Y1o, Y1p, Y1q, Y1w, Y1x, Y1y, Y1z, Y20, Y21, Y28, Y2a, AV.cells?, Nat.reduceAdd, Nat.reduceMul, Nat.reduceLT]
      exact ⟨trivial, .slL 2 0 (tr.length + 1) c, _, _, rfl, .inr ⟨c, by simp, rfl⟩⟩
theorem back_spec (B : SolverBodies E P) {of tr : List Int} (hs : of.length = V + 1) (hV : V ≤ 1000) (htr : ∀ t ∈ tr, 1 ≤ t ∧ t ≤ V) (hlen : tr.length < 100000) {n : Nat} (hn : n ≤ tr.length) {st : Int} {H : AH} (hH : GH ga gs V all of tr st H) :
    ACalls E P 109 [.ptrL 1 0 gs, Z n] H fun r H' => r = .tup [] ∧ GH ga gs V all (reset of (tr.drop n)) (tr.take n) st H' := by
  obtain ⟨xx, tb, c, rfl, ht⟩ := hH
  have hset : ∀ (of : List Int) (v : Int) (i : Nat), (of.map fun z => Z z).set i (Z v) = (of.set i v).map fun z => Z z := fun of v i => by rw [List.map_set]
  rcases ht with ⟨rfl, rfl, rfl⟩ | ⟨g2, rfl, rfl⟩
  · have : n = 0 := by simpa using hn
    subst this
    refine B.back _ _ _ _ ?_
    unfold F.pgate_solver_back gH
    simp only [nd0, Y1n, Y1o, Y1p, Y1q, Y1w, Y1x, Y1y, Y1z, Y20, Y21, Y28, Y2a, AV.cells?, Nat.reduceAdd, Nat.reduceMul]
    have hsl : sliceA 1 nilS (some (.val (.int .i64 0))) none ⟨[.cells ga 1 (of.map fun z => Z z), .cells gs 5 [Z V, LLI all, .slL 0 0 (V + 1) ga, nilS, Z st]], c⟩ = some nilS := rfl
    rw [show ((0 : Nat) : Int) = 0 from rfl, hsl]
    simp only [nd0, Y1n, Y1o, Y1p, Y1q, Y1w, Y1x, Y1y, Y1z, Y20, Y21, Y28, Y2a, AV.cells?, Nat.reduceAdd, Nat.reduceMul]
    refine wLoop.one (fun m i H => H = gH ga gs V all of nilS st [] c ∧ i = Z 0) 0 (gh1.mk ⟨rfl, rfl⟩) ?_
    rintro m i H ⟨rfl, rfl⟩
    unfold gH
    simp only [nd0, Y1n, Y1o, Y1p, Y1q, Y1w, Y1x, Y1y, Y1z, Y20, Y21, Y28, Y2a, AV.cells?, Nat.reduceAdd, Nat.reduceMul, show ((0 : Nat) : Int) = 0 from rfl, Int.lt_irrefl]
    have hsl2 : sliceA 1 nilS none (some (.val (.int .i64 0))) ⟨[.cells ga 1 (of.map fun z => Z z), .cells gs 5 [Z V, LLI all, .slL 0 0 (V + 1) ga, nilS, Z st]], c⟩ = some nilS := rfl
    rw [hsl2]
    simp only [nd0, Y1n, Y1o, Y1p, Y1q, Y1w, Y1x, Y1y, Y1z, Y20, Y21, Y28, Y2a, AV.cells?, Nat.reduceAdd, Nat.reduceMul]
    rw [store1_L rfl]
    simp only [nd0, Y1n, Y1o, Y1p, Y1q, Y1w, Y1x, Y1y, Y1z, Y20, Y21, Y28, Y2a, AV.cells?, Nat.reduceAdd, Nat.reduceMul, Nat.reduceLT]
    exact ⟨trivial, nilS, [], c, rfl, .inl ⟨rfl, rfl, rfl⟩⟩
  · refine ACalls.mono (R := fun r H' => r = .tup [] ∧ H' = gH ga gs V all (reset of (tr.drop n)) (.slL 2 0 n g2) st [.cells g2 1 (tr.map fun z => Z z)] c) (B.back _ _ _ _ ?_) ?_
    case refine_2 =>
      rintro r H' ⟨rfl, rfl⟩
      refine ⟨.tup [], gH ga gs V all (reset of (tr.drop n)) (.slL 2 0 n g2) st [.cells g2 1 ((tr.map fun z => Z z).take n)] c, ?_, rfl, _, _, _, rfl, .inr ⟨g2, by rw [List.length_take, Nat.min_eq_left hn], by rw [List.map_take]⟩⟩
      exact ghost_kill (H := gH ga gs V all (reset of (tr.drop n)) (.slL 2 0 n g2) st [.cells g2 1 (tr.map fun z => Z z)] c) (H' := gH ga gs V all (reset of (tr.drop n)) (.slL 2 0 n g2) st [.cells g2 1 ((tr.map fun z => Z z).take n)] c) (S := fun _ => false) rfl (.keep rfl (KB.same _) (.keep rfl (KB.same _) (.keep rfl (KB.cut (n := n) (cs := tr.map fun z => Z z) (by simpa using hn)) .nil))) (FkL.same _)
    unfold F.pgate_solver_back gH
    simp only [nd0, Y1n, Y1o, Y1p, Y1q, Y1w, Y1x, Y1y, Y1z, Y20, Y21, Y28, Y2a, AV.cells?, Nat.reduceAdd, Nat.reduceMul]
    have hesz : ∀ (o : List Int) (x : AV) c, (⟨[.cells ga 1 (o.map fun z => Z z), .cells gs 5 [Z V, LLI all, .slL 0 0 (V + 1) ga, x, Z st], .cells g2 1 (tr.map fun z => Z z)], c⟩ : AH).esz 2 g2 = some 1 := fun o x c => by simp [AH.esz]
    have hsl : ∀ (o : List Int) (x : AV) c, sliceA 1 (.slL 2 0 tr.length g2) (some (Z (n : Int))) none ⟨[.cells ga 1 (o.map fun z => Z z), .cells gs 5 [Z V, LLI all, .slL 0 0 (V + 1) ga, x, Z st], .cells g2 1 (tr.map fun z => Z z)], c⟩ = some (.slL 2 n (tr.length - n) g2) := fun o x c => by
      simp only [sliceA, bnd, Option.bind_some, hesz, true_and]
      rw [if_pos (by omega)]
      simp
    rw [hsl]
    simp only [nd0, Y1n, Y1o, Y1p, Y1q, Y1w, Y1x, Y1y, Y1z, Y20, Y21, Y28, Y2a, AV.cells?, Nat.reduceAdd, Nat.reduceMul]
    have hsplit : ∀ i, i < tr.length - n → ((tr.drop n).take (i + 1)) = (tr.drop n).take i ++ [cell tr (n + i)] := fun i hi => by
      rw [List.take_succ_eq_append_getElem (by simp; omega)]
      congr 2
      simp [cell, List.getElem_drop, List.getElem?_eq_getElem (show n + i < tr.length by omega)]
    refine wLoop.one (fun m x H => ∃ i : Nat, i + m = tr.length - n ∧ x = Z i ∧ H = gH ga gs V all (reset of ((tr.drop n).take i)) (.slL 2 0 tr.length g2) st [.cells g2 1 (tr.map fun z => Z z)] c) (tr.length - n) (gh1.mk ⟨0, by omega, rfl, by simp [reset, gH]⟩) ?_
    rintro m x H ⟨i, him, rfl, rfl⟩
    unfold gH
    by_cases hi : i < tr.length - n
    · simp only [nd0, Y1n, Y1o, Y1p, Y1q, Y1w, Y1x, Y1y, Y1z, Y20, Y21, Y28, Y2a, AV.cells?, Nat.reduceAdd, Nat.reduceMul, decide_eq_true (show (i : Int) < ((tr.length - n : Nat) : Int) by omega)]
      rw [iaddr_L (by omega)]
      have hg : (tr.map fun z => Z z)[n + i]? = some (Z (cell tr (n + i))) := cell_at (by omega)
      simp only [nd0, Y1n, Y1o, Y1p, Y1q, Y1w, Y1x, Y1y, Y1z, Y20, Y21, Y28, Y2a, AV.cells?, Nat.reduceAdd, Nat.reduceMul, hg]
      have hmem : cell tr (n + i) ∈ tr := by
        unfold cell; rw [List.getElem?_eq_getElem (show n + i < tr.length by omega)]; exact List.getElem_mem _
      have hb := htr _ hmem
      have hrl : (reset of ((tr.drop n).take i)).length = V + 1 := by rw [reset_len]; exact hs
      rw [iaddr_L (by omega)]
      simp only [nd0, Y1n, Y1o, Y1p, Y1q, Y1w, Y1x, Y1y, Y1z, Y20, Y21, Y28, Y2a, AV.cells?, Nat.reduceAdd, Nat.reduceMul]
      rw [store1_L rfl]
      simp only [nd0, Y1n, Y1o, Y1p, Y1q, Y1w, Y1x, Y1y, Y1z, Y20, Y21, Y28, Y2a, AV.cells?, Nat.reduceAdd, Nat.reduceMul, List.length_map, show (cell tr (n + i)).toNat < (reset of ((tr.drop n).take i)).length by omega, hset]
      rw [binA_succ (by omega)]
      simp only [nd0, Y1n, Y1o, Y1p, Y1q, Y1w, Y1x, Y1y, Y1z, Y20, Y21, Y28, Y2a, AV.cells?, Nat.reduceAdd, Nat.reduceMul]
      refine back1.mk (m - 1) (by omega) ⟨i + 1, by omega, rfl, ?_⟩
      rw [hsplit i hi, reset_snoc]
    · have : i = tr.length - n := by omega
      subst this
      simp only [nd0, Y1n, Y1o, Y1p, Y1q, Y1w, Y1x, Y1y, Y1z, Y20, Y21, Y28, Y2a, AV.cells?, Nat.reduceAdd, Nat.reduceMul, Int.lt_irrefl]
      have hsl2 : ∀ (o : List Int) (x : AV) c, sliceA 1 (.slL 2 0 tr.length g2) none (some (Z (n : Int))) ⟨[.cells ga 1 (o.map fun z => Z z), .cells gs 5 [Z V, LLI all, .slL 0 0 (V + 1) ga, x, Z st], .cells g2 1 (tr.map fun z => Z z)], c⟩ = some (.slL 2 0 n g2) := fun o x c => by
        simp only [sliceA, bnd, Option.bind_some, hesz, true_and]
        rw [if_pos (by omega)]
        try simp
      rw [hsl2]
      simp only [nd0, Y1n, Y1o, Y1p, Y1q, Y1w, Y1x, Y1y, Y1z, Y20, Y21, Y28, Y2a, AV.cells?, Nat.reduceAdd, Nat.reduceMul]
      rw [store1_L rfl]
      simp only [nd0, Y1n, Y1o, Y1p, Y1q, Y1w, Y1x, Y1y, Y1z, Y20, Y21, Y28, Y2a, AV.cells?, Nat.reduceAdd, Nat.reduceMul, Nat.reduceLT]
      have e : (tr.drop n).take (tr.length - n) = tr.drop n := List.take_of_length_le (by simp)
      rw [e]
      exact ⟨trivial, rfl⟩
theorem tr_grow {of tr of' tr' : List Int} (hg : Grow V of tr of' tr') (h : ∀ t ∈ tr, 1 ≤ t ∧ t ≤ V) : ∀ t ∈ tr', 1 ≤ t ∧ t ≤ V := by
  obtain ⟨n, rfl, h2, _⟩ := hg
  intro t ht
  rcases List.mem_append.1 ht with ht | ht
  · exact h t ht
  · exact ⟨(h2 t ht).1, (h2 t ht).2.1⟩
set_option maxHeartbeats 1000000 in
theorem spread_spec (B : SolverBodies E P) (hV : V ≤ 1000) (hall : ∀ c ∈ all, ∀ x ∈ c, okLit V x) (hn1 : all.length ≤ 4000) (hn2 : ∀ c ∈ all, c.length ≤ 1000) {of tr : List Int} (hs : Sol V of) (hb : tr.length + opens V of ≤ V) {st : Int} {H : AH} (hH : GH ga gs V all of tr st H) :
    ACalls E P 108 [.ptrL 1 0 gs] H fun r H' => ∃ b of' tr', r = Bo b ∧ Sol V of' ∧ Grow V of tr of' tr' ∧ SpreadOk V all of of' b ∧ tr'.length + opens V of' ≤ V ∧ GH ga gs V all of' tr' st H' := by
  refine B.spread _ _ _ ?_
  unfold F.pgate_solver_spread
  refine wLoop.one (fun m t H => ∃ (b : Bool) (o u : List Int), t = Bo b ∧ m = opens V o + (if b then 1 else 0) ∧ Sol V o ∧ Grow V of tr o u ∧ (∀ a, Sats a all → Exts V a of → Exts V a o) ∧ u.length + opens V o ≤ V ∧ GH ga gs V all o u st H ∧ (b = false → ∀ c ∈ all, (∃ x ∈ c, lv o x = 1) ∨ ∃ x ∈ c, lv o x = 0 ∧ ∃ y ∈ c, lv o y = 0 ∧ x ≠ y)) (opens V of + 1)
    (gh1.mk ⟨true, of, tr, rfl, rfl, hs, .refl _ _ _, fun _ _ h => h, hb, hH, by simp⟩) ?_
  rintro m t H ⟨b, o, u, rfl, rfl, hso, hgo, himp, hbo, hHo, hdone⟩
  cases b with
  | false =>
    simp only [nd0, Y1n, Y1o, Y1p, Y1q, Y1w, Y1x, Y1y, Y1z, Y20, Y21, Y28, Y2a, AV.cells?, Nat.reduceAdd, Nat.reduceMul]
    exact ⟨true, o, u, rfl, hso, hgo, ⟨himp, by simp, fun _ => hdone rfl⟩, hbo, hHo⟩
  | true =>
  obtain ⟨xx, tb, c, hHe, ht⟩ := id hHo
  have hHe2 : H = gH ga gs V all o xx st tb c := hHe
  subst hHe
  simp only [nd0, Y1n, Y1o, Y1p, Y1q, Y1w, Y1x, Y1y, Y1z, Y20, Y21, Y28, Y2a, AV.cells?, Nat.reduceAdd, Nat.reduceMul]
  have hld : load1 (.ptrL 1 1 gs) (gH ga gs V all o xx st tb c) = some (LLI all) := by simp [gH, load1_L, blkCells_self]
  have hbs : (gH ga gs V all o xx st tb c).bs[1]? = some (.cells gs 5 [Z V, LLI all, .slL 0 0 (V + 1) ga, xx, Z st]) := rfl
  simp only [nd0, Y1n, Y1o, Y1p, Y1q, Y1w, Y1x, Y1y, Y1z, Y20, Y21, Y28, Y2a, AV.cells?, Nat.reduceAdd, Nat.reduceMul, hbs, lenA_LLI]
  refine wLoop.two (fun m t i H => ∃ (b : Bool) (o' u' : List Int) (pre rest : List (List Int)), t = Bo b ∧ all = pre ++ rest ∧ m = rest.length ∧ i = Z pre.length ∧ Sol V o' ∧ Grow V o u o' u' ∧ (∀ a, Sats a all → Exts V a of → Exts V a o') ∧ u'.length + opens V o' ≤ V ∧ GH ga gs V all o' u' st H ∧
      (b = true → opens V o' < opens V o) ∧ (b = false → o' = o ∧ ∀ c ∈ pre, (∃ x ∈ c, lv o x = 1) ∨ ∃ x ∈ c, lv o x = 0 ∧ ∃ y ∈ c, lv o y = 0 ∧ x ≠ y)) all.length
    (gh2.mk ⟨false, o, u, [], all, rfl, rfl, rfl, rfl, hso, .refl _ _ _, himp, hbo, hHo, by simp, fun _ => ⟨rfl, by simp⟩⟩) ?_
  rintro m2 t i H2 ⟨b, o', u', pre, rest, rfl, hpr, rfl, rfl, hso', hgo', himp', hbo', hH', hb1, hb0⟩
  cases rest with
  | nil =>
    rw [List.append_nil] at hpr
    rw [← hpr] at hb0
    simp only [nd0, Y1n, Y1o, Y1p, Y1q, Y1w, Y1x, Y1y, Y1z, Y20, Y21, Y28, Y2a, AV.cells?, Nat.reduceAdd, Nat.reduceMul, hpr, Int.lt_irrefl]
    rw [← hpr]
    refine back1.mk (opens V o' + (if b then 1 else 0)) ?_ ⟨b, o', u', rfl, rfl, hso', hgo.trans hgo', himp', hbo', hH', fun hbf => ?_⟩
    · cases b with
      | true => have := hb1 rfl; simp; omega
      | false => rw [(hb0 rfl).1]; simp
    · obtain ⟨q1, q2⟩ := hb0 hbf
      rw [q1]; exact q2
  | cons cl rest =>
  have hplt : pre.length < all.length := by rw [hpr]; simp
  have hcm : cl ∈ all := by rw [hpr]; simp
  have hcl := hall cl hcm
  have hcn := hn2 cl hcm
  simp only [nd0, Y1n, Y1o, Y1p, Y1q, Y1w, Y1x, Y1y, Y1z, Y20, Y21, Y28, Y2a, AV.cells?, Nat.reduceAdd, Nat.reduceMul, decide_eq_true (show (pre.length : Int) < (all.length : Int) by omega)]
  refine wJoin.one (fun t H => ∃ (b' : Bool) (o'' u'' : List Int), t = Bo b' ∧ Sol V o'' ∧ Grow V o u o'' u'' ∧ (∀ a, Sats a all → Exts V a of → Exts V a o'') ∧ u''.length + opens V o'' ≤ V ∧ GH ga gs V all o'' u'' st H ∧
      (b' = true → opens V o'' < opens V o) ∧ (b' = false → o'' = o ∧ ∀ c ∈ pre ++ [cl], (∃ x ∈ c, lv o x = 1) ∨ ∃ x ∈ c, lv o x = 0 ∧ ∃ y ∈ c, lv o y = 0 ∧ x ≠ y)) ?_ ?_
  case refine_2 =>
    rintro t H ⟨b', o'', u'', rfl, a1, a2, a3, a4, a5, a6, a7⟩
    rw [binA_succ (by omega)]
    simp only [nd0, Y1n, Y1o, Y1p, Y1q, Y1w, Y1x, Y1y, Y1z, Y20, Y21, Y28, Y2a, AV.cells?, Nat.reduceAdd, Nat.reduceMul]
    exact back2.mk rest.length (by simp) ⟨b', o'', u'', pre ++ [cl], rest, rfl, by rw [hpr]; simp, rfl, by simp, a1, a2, a3, a4, a5, a6, a7⟩
  rw [iaddr_LLI hplt]
  simp only [nd0, Y1n, Y1o, Y1p, Y1q, Y1w, Y1x, Y1y, Y1z, Y20, Y21, Y28, Y2a, AV.cells?, Nat.reduceAdd, Nat.reduceMul, row_get hplt, show row all pre.length = cl by unfold row; rw [hpr]; simp, lenA_LI]
  obtain ⟨xx2, tb2, c2, hHe2', ht2⟩ := id hH'
  subst hHe2'
  refine wLoop.four (fun m l n h i H => ∃ (p r : List Int) (left many : Int) (hbn : Bool), cl = p ++ r ∧ m = r.length ∧ i = Z p.length ∧ l = Z left ∧ n = Z many ∧ h = Bo hbn ∧ H = gH ga gs V all o' xx2 st tb2 c2 ∧ Scan o' p left many hbn) cl.length
    (gh4.mk ⟨[], cl, 0, 0, false, rfl, rfl, rfl, rfl, rfl, rfl, rfl, .nil _⟩) ?_
  rintro m3 l n h i H3 ⟨p, r, left, many, hbn, hcp, rfl, rfl, rfl, rfl, rfl, rfl, hsc⟩
  cases r with
  | nil =>
    rw [List.append_nil] at hcp
    subst hcp
    simp only [nd0, Y1n, Y1o, Y1p, Y1q, Y1w, Y1x, Y1y, Y1z, Y20, Y21, Y28, Y2a, AV.cells?, Nat.reduceAdd, Nat.reduceMul, Int.lt_irrefl]
    have hkeep : (∃ x ∈ cl, lv o' x = 1) ∨ (∃ x ∈ cl, lv o' x = 0 ∧ ∃ y ∈ cl, lv o' y = 0 ∧ x ≠ y) → gh1 (fun t H => ∃ (b' : Bool) (o'' u'' : List Int), t = Bo b' ∧ Sol V o'' ∧ Grow V o u o'' u'' ∧ (∀ a, Sats a all → Exts V a of → Exts V a o'') ∧ u''.length + opens V o'' ≤ V ∧ GH ga gs V all o'' u'' st H ∧
      (b' = true → opens V o'' < opens V o) ∧ (b' = false → o'' = o ∧ ∀ c ∈ pre ++ [cl], (∃ x ∈ c, lv o x = 1) ∨ ∃ x ∈ c, lv o x = 0 ∧ ∃ y ∈ c, lv o y = 0 ∧ x ≠ y)) (Bo b) (gH ga gs V all o' xx2 st tb2 c2) := fun hk =>
      gh1.mk ⟨b, o', u', rfl, hso', hgo', himp', hbo', hH', hb1, fun hbf => by
        obtain ⟨q1, q2⟩ := hb0 hbf
        refine ⟨q1, fun c hc => ?_⟩
        rcases List.mem_append.1 hc with hc | hc
        · exact q2 c hc
        · simp at hc; subst hc; rw [← q1]; exact hk⟩
    cases hbn with
    | true =>
      simp only [nd0, Y1n, Y1o, Y1p, Y1q, Y1w, Y1x, Y1y, Y1z, Y20, Y21, Y28, Y2a, AV.cells?, Nat.reduceAdd, Nat.reduceMul]
      exact hkeep (.inl (hsc.h.1 rfl))
    | false =>
    by_cases h1 : 1 < many
    · simp only [nd0, Y1n, Y1o, Y1p, Y1q, Y1w, Y1x, Y1y, Y1z, Y20, Y21, Y28, Y2a, AV.cells?, Nat.reduceAdd, Nat.reduceMul, decide_eq_true h1]
      exact hkeep (.inr (hsc.more h1).2.2)
    simp only [nd0, Y1n, Y1o, Y1p, Y1q, Y1w, Y1x, Y1y, Y1z, Y20, Y21, Y28, Y2a, AV.cells?, Nat.reduceAdd, Nat.reduceMul, decide_eq_false h1]
    have hpos := hsc.pos
    by_cases h0 : many = 0
    · simp only [nd0, Y1n, Y1o, Y1p, Y1q, Y1w, Y1x, Y1y, Y1z, Y20, Y21, Y28, Y2a, AV.cells?, Nat.reduceAdd, Nat.reduceMul, decide_eq_true h0]
      subst h0
      refine ⟨false, o', u', rfl, hso', hgo.trans hgo', ⟨himp', fun _ a ha he => ?_, by simp⟩, hbo', hH'⟩
      exact clause_none hso' hcl hsc (himp' a ha he) (ha cl hcm)
    · simp only [nd0, Y1n, Y1o, Y1p, Y1q, Y1w, Y1x, Y1y, Y1z, Y20, Y21, Y28, Y2a, AV.cells?, Nat.reduceAdd, Nat.reduceMul, decide_eq_false h0]
      have h11 : many = 1 := by omega
      subst h11
      obtain ⟨k1, k2, k3, k4⟩ := hsc.one rfl
      have hll := hcl left k2
      refine ⟨_, set_spec B hso' hV hll (by omega) hH', ?_⟩
      rintro r' H4 ⟨rfl, hH4⟩
      refine gh1.mk ⟨true, litSet o' left, u' ++ [(vr left : Int)], rfl, hso'.set hll, hgo'.trans (Grow.set hso' hll k3), fun a ha he => ?_, ?_, hH4, fun _ => ?_, by simp⟩
      · have he' := himp' a ha he
        exact Exts.set hso' hll he' (clause_unit hso' hcl hsc he' (ha cl hcm))
      · have := opens_lt hso' hll k3; simp; omega
      · have := opens_lt hso' hll k3
        have := opens_le_grow hgo'
        omega
  | cons x r =>
    have hxm : x ∈ cl := by rw [hcp]; simp
    have hxo := hcl x hxm
    have hpl : p.length < cl.length := by rw [hcp]; simp
    have hmle := hsc.le
    have hmpos := hsc.pos
    simp only [nd0, Y1n, Y1o, Y1p, Y1q, Y1w, Y1x, Y1y, Y1z, Y20, Y21, Y28, Y2a, AV.cells?, Nat.reduceAdd, Nat.reduceMul, decide_eq_true (show (p.length : Int) < (cl.length : Int) by omega)]
    refine wJoin.three (fun l n h H => ∃ (left many : Int) (hbn : Bool), l = Z left ∧ n = Z many ∧ h = Bo hbn ∧ H = gH ga gs V all o' xx2 st tb2 c2 ∧ Scan o' (p ++ [x]) left many hbn) ?_ ?_
    case refine_2 =>
      rintro l n h H ⟨left, many, hbn, rfl, rfl, rfl, rfl, hsc'⟩
      rw [binA_succ (by omega)]
      simp only [nd0, Y1n, Y1o, Y1p, Y1q, Y1w, Y1x, Y1y, Y1z, Y20, Y21, Y28, Y2a, AV.cells?, Nat.reduceAdd, Nat.reduceMul]
      exact back4.mk r.length (by simp) ⟨p ++ [x], r, left, many, hbn, by rw [hcp]; simp, rfl, by simp, rfl, rfl, rfl, rfl, hsc'⟩
    have hg : (cl.map fun z => Z z)[p.length]? = some (Z x) := by rw [hcp]; exact at_mid
    rw [iaddr_LI hpl]
    simp only [nd0, Y1n, Y1o, Y1p, Y1q, Y1w, Y1x, Y1y, Y1z, Y20, Y21, Y28, Y2a, AV.cells?, Nat.reduceAdd, Nat.reduceMul, hg]
    refine ⟨_, is_spec B hso' hV hxo xx2 st tb2 c2, ?_⟩
    rintro r' H4 ⟨rfl, rfl⟩
    by_cases e1 : lv o' x = 1
    · simp only [nd0, Y1n, Y1o, Y1p, Y1q, Y1w, Y1x, Y1y, Y1z, Y20, Y21, Y28, Y2a, AV.cells?, Nat.reduceAdd, Nat.reduceMul, decide_eq_true e1]
      exact gh3.mk ⟨left, many, true, rfl, rfl, rfl, rfl, hsc.hit e1⟩
    simp only [nd0, Y1n, Y1o, Y1p, Y1q, Y1w, Y1x, Y1y, Y1z, Y20, Y21, Y28, Y2a, AV.cells?, Nat.reduceAdd, Nat.reduceMul, decide_eq_false e1]
    by_cases e0 : lv o' x = 0
    · simp only [nd0, Y1n, Y1o, Y1p, Y1q, Y1w, Y1x, Y1y, Y1z, Y20, Y21, Y28, Y2a, AV.cells?, Nat.reduceAdd, Nat.reduceMul, decide_eq_true e0]
      have hop := hsc.open_ e0 hxo.1
      refine wJoin.one (fun n H => n = Z (if x = left then many else many + 1) ∧ H = gH ga gs V all o' xx2 st tb2 c2) ?_ ?_
      case refine_2 =>
        rintro n H ⟨rfl, rfl⟩
        exact gh3.mk ⟨x, _, hbn, rfl, rfl, rfl, rfl, hop⟩
      by_cases el : x = left
      · simp only [nd0, Y1n, Y1o, Y1p, Y1q, Y1w, Y1x, Y1y, Y1z, Y20, Y21, Y28, Y2a, AV.cells?, Nat.reduceAdd, Nat.reduceMul, decide_eq_true el]
        exact gh1.mk ⟨by rw [if_pos el], rfl⟩
      · simp only [nd0, Y1n, Y1o, Y1p, Y1q, Y1w, Y1x, Y1y, Y1z, Y20, Y21, Y28, Y2a, AV.cells?, Nat.reduceAdd, Nat.reduceMul, decide_eq_false el]
        rw [binA_add (by omega)]
        simp only [nd0, Y1n, Y1o, Y1p, Y1q, Y1w, Y1x, Y1y, Y1z, Y20, Y21, Y28, Y2a, AV.cells?, Nat.reduceAdd, Nat.reduceMul]
        exact gh1.mk ⟨by rw [if_neg el], rfl⟩
    · simp only [nd0, Y1n, Y1o, Y1p, Y1q, Y1w, Y1x, Y1y, Y1z, Y20, Y21, Y28, Y2a, AV.cells?, Nat.reduceAdd, Nat.reduceMul, decide_eq_false e0]
      exact gh3.mk ⟨left, many, hbn, rfl, rfl, rfl, rfl, hsc.miss e1 e0⟩
end
end Go.Sc
namespace Go.Sc
open Go
set_option linter.unusedSimpArgs false
set_option linter.unusedVariables false
set_option linter.unnecessarySimpa false
section
variable {E : Env} {P : Program} {ga gs V : Nat} {all : List (List Int)}
theorem IndexI_spec (hB : Body2 E P 110 F.slices_Index_Lint_int) (l : List Int) (s : Int) (hl : l.length < 1099511627776) : FX E P 110 [LI l, Z s] (Z (idx l s)) := by
  refine FX.of' ⟨LI_closed l, trivial, trivial⟩ trivial fun n R hR => hB _ _ _ _ ?_
  unfold F.slices_Index_Lint_int LI Lm
  simp only [nd0, Y1n, Y1o, Y1p, Y1q, Y1w, Y1x, Y1y, Y1z, Y20, Y21, Y28, Y2a, AV.cells?, Nat.reduceAdd, Nat.reduceMul]
  refine wLoop.one (fun m t H => ∃ pre rest, l = pre ++ rest ∧ m = rest.length ∧ t = Z pre.length ∧ s ∉ pre) l.length (gh1.mk ⟨[], l, rfl, rfl, rfl, by simp⟩) ?_
  rintro m t H ⟨pre, rest, rfl, rfl, rfl, hs⟩
  cases rest with
  | nil =>
    simp only [nd0, Y1n, Y1o, Y1p, Y1q, Y1w, Y1x, Y1y, Y1z, Y20, Y21, Y28, Y2a, AV.cells?, Nat.reduceAdd, Nat.reduceMul, List.append_nil, Int.lt_irrefl]
    exact hR _ _ (by rw [idx, if_neg (by simpa using hs)])
  | cons x rest =>
    simp only [nd0, Y1n, Y1o, Y1p, Y1q, Y1w, Y1x, Y1y, Y1z, Y20, Y21, Y28, Y2a, AV.cells?, Nat.reduceAdd, Nat.reduceMul, decide_eq_true (show ((pre.length : Int) < ((pre ++ x :: rest).length : Int)) by simp; omega)]
    rw [iaddr_Nn (by simp)]
    simp only [nd0, Y1n, Y1o, Y1p, Y1q, Y1w, Y1x, Y1y, Y1z, Y20, Y21, Y28, Y2a, AV.cells?, Nat.reduceAdd, Nat.reduceMul, at_mid]
    by_cases hx : s = x
    · subst hx
      simp only [nd0, Y1n, Y1o, Y1p, Y1q, Y1w, Y1x, Y1y, Y1z, Y20, Y21, Y28, Y2a, AV.cells?, Nat.reduceAdd, Nat.reduceMul, decide_eq_true (rfl : s = s)]
      exact hR _ _ (by rw [idx_app hs])
    · simp only [nd0, Y1n, Y1o, Y1p, Y1q, Y1w, Y1x, Y1y, Y1z, Y20, Y21, Y28, Y2a, AV.cells?, Nat.reduceAdd, Nat.reduceMul, decide_eq_false hx]
      rw [binA_succ (by simp at hl; omega)]
      simp only [nd0, Y1n, Y1o, Y1p, Y1q, Y1w, Y1x, Y1y, Y1z, Y20, Y21, Y28, Y2a, AV.cells?, Nat.reduceAdd, Nat.reduceMul]
      exact back1.mk rest.length (by simp) ⟨pre ++ [x], rest, by simp, rfl, by simp, by simp [hs, hx]⟩
theorem idxOf_first (x : Int) : ∀ (l : List Int) (i : Nat), i < l.idxOf x → l[i]? ≠ some x
  | [], i, h => by simp
  | y :: l, i, h => by
    by_cases hy : y = x
    · subst hy; simp at h
    · rw [List.idxOf_cons] at h
      have hyb : (y == x) = false := by simpa using hy
      rw [hyb] at h
      cases i with
      | zero => simpa using hy
      | succ i => simpa using idxOf_first x l i (by simpa using h)
theorem first_open {o : List Int} (hs : Sol V o) : (∃ v : Nat, 1 ≤ v ∧ v ≤ V ∧ idx (o.drop 1) 0 + 1 = (v : Int) ∧ cell o v = 0 ∧ ∀ i, 1 ≤ i → i < v → cell o i ≠ 0) ∨ (idx (o.drop 1) 0 + 1 = 0 ∧ ∀ i, 1 ≤ i → i ≤ V → cell o i ≠ 0) := by
  have hl := hs.len
  have hd : ∀ i, i < V → (o.drop 1)[i]? = some (cell o (i + 1)) := fun i hi => by
    rw [List.getElem?_drop]; simp [cell, List.getElem?_eq_getElem (show 1 + i < o.length by omega), show i + 1 = 1 + i by omega]
  by_cases h : (0 : Int) ∈ o.drop 1
  · have hlt := List.idxOf_lt_length_of_mem h
    have hlt' : (o.drop 1).idxOf 0 < V := by simpa [hl] using hlt
    refine .inl ⟨(o.drop 1).idxOf 0 + 1, by omega, by omega, by rw [idx, if_pos h]; omega, ?_, fun i h1 h2 => ?_⟩
    · have := hd _ hlt'
      rw [List.getElem?_eq_getElem hlt, List.getElem_idxOf] at this
      simpa using this.symm
    · intro h0
      have := hd (i - 1) (by omega)
      rw [show i - 1 + 1 = i by omega, h0] at this
      exact idxOf_first 0 _ (i - 1) (by omega) this
  · refine .inr ⟨by rw [idx, if_neg h]; rfl, fun i h1 h2 h0 => h ?_⟩
    have := hd (i - 1) (by omega)
    rw [show i - 1 + 1 = i by omega, h0] at this
    exact List.mem_of_getElem? this
set_option maxHeartbeats 2000000 in
theorem search_specN (B : SolverBodies E P) (μ : List Int → Nat) (m1 : ∀ {of tr of' tr' : List Int}, Grow V of tr of' tr' → μ of' ≤ μ of)
    (m2 : ∀ {of o : List Int} (x : Int), Sol V o → SpreadOk V all of o true → okLit V x → cell o (vr x) = 0 → (∀ i, 1 ≤ i → i < vr x → cell o i ≠ 0) → μ (litSet o x) < μ o) (hV : V ≤ 1000) (hall : ∀ c ∈ all, ∀ x ∈ c, okLit V x) (hn1 : all.length ≤ 4000) (hn2 : ∀ c ∈ all, c.length ≤ 1000) : ∀ (k : Nat) (of tr : List Int) (st : Int) (H : AH), Sol V of → (∀ t ∈ tr, 1 ≤ t ∧ t ≤ V) → tr.length + opens V of ≤ V → μ of ≤ k → 0 ≤ st → st + 2 ^ (k + 1) ≤ 20001 → GH ga gs V all of tr st H →
    ACalls E P 105 [.ptrL 1 0 gs] H fun r H' => ∃ st' : Int, st ≤ st' ∧ st' + 1 ≤ st + 2 ^ (k + 1) ∧ ((∃ of' tr', r = .tup [Bo true, nilE] ∧ Sol V of' ∧ SearchT V all of of' ∧ GH ga gs V all of' tr' st' H') ∨ (r = .tup [Bo false, nilE] ∧ SearchF V all of ∧ GH ga gs V all of tr st' H')) := by
  intro k
  induction k using Nat.strongRecOn with
  | ind k ih =>
  intro of tr st H hs htr hb hk hst0 hst hH
  have hp2 : (2 : Int) ^ (k + 1) = 2 ^ k * 2 := Int.pow_succ ..
  have hp : (1 : Int) ≤ 2 ^ k := Int.pow_pos (by decide)
  obtain ⟨xx, tb, c, rfl, ht⟩ := hH
  refine B.search _ _ _ ?_
  unfold F.pgate_solver_search gH
  simp only [nd0, Y1n, Y1o, Y1p, Y1q, Y1w, Y1x, Y1y, Y1z, Y20, Y21, Y28, Y2a, AV.cells?, Nat.reduceAdd, Nat.reduceMul]
  rw [binA_add (by omega)]
  simp only [nd0, Y1n, Y1o, Y1p, Y1q, Y1w, Y1x, Y1y, Y1z, Y20, Y21, Y28, Y2a, AV.cells?, Nat.reduceAdd, Nat.reduceMul]
  rw [store1_L rfl]
  simp only [nd0, Y1n, Y1o, Y1p, Y1q, Y1w, Y1x, Y1y, Y1z, Y20, Y21, Y28, Y2a, AV.cells?, Nat.reduceAdd, Nat.reduceMul, Nat.reduceLT, decide_eq_false (show ¬ (20000 : Int) < st + 1 by omega), ht.len]
  refine ⟨_, spread_spec (ga := ga) (gs := gs) B hV hall hn1 hn2 hs hb ⟨xx, tb, c, rfl, ht⟩, ?_⟩
  rintro r H1 ⟨b, o, u, rfl, hso, hgo, hsp, hbo, hH1⟩
  have htu := tr_grow hgo htr
  have hlu : tr.length ≤ u.length := by obtain ⟨n, rfl, _⟩ := hgo; simp
  have restore : ∀ (st1 : Int) (H : AH) (K : Kt), GH ga gs V all o u st1 H → (∀ H', GH ga gs V all of tr st1 H' → K (.tup []) H') → wCall E P 109 [.ptrL 1 0 gs, Z (tr.length : Int)] H K := by
    intro st1 H K h hK
    refine ⟨_, back_spec B hso.len hV htu (by omega) hlu h, ?_⟩
    rintro r H' ⟨rfl, h'⟩
    obtain ⟨e1, e2⟩ := hgo.back hs hso
    rw [e1, e2] at h'
    exact hK H' h'
  cases b with
  | false =>
    simp only [nd0, Y1n, Y1o, Y1p, Y1q, Y1w, Y1x, Y1y, Y1z, Y20, Y21, Y28, Y2a, AV.cells?, Nat.reduceAdd, Nat.reduceMul]
    refine restore _ _ _ hH1 fun H' h' => ?_
    exact ⟨st + 1, by omega, by omega, .inr ⟨trivial, hsp.2.1 rfl, h'⟩⟩
  | true =>
  have hol := hso.len
  obtain ⟨xx2, tb2, c2, rfl, ht2⟩ := hH1
  unfold gH
  simp only [nd0, Y1n, Y1o, Y1p, Y1q, Y1w, Y1x, Y1y, Y1z, Y20, Y21, Y28, Y2a, AV.cells?, Nat.reduceAdd, Nat.reduceMul]
  have hsl : ∀ H : AH, H.esz 0 ga = some 1 → sliceA 1 (.slL 0 0 (V + 1) ga) (some (.val (.int .i64 1))) none H = some (.slL 0 1 V ga) := fun H hH => by
    simp only [sliceA, bnd, Option.bind_some, hH, true_and]
    rw [if_pos (by omega)]
    simp
  rw [hsl _ (by simp [AH.esz])]
  simp only [nd0, Y1n, Y1o, Y1p, Y1q, Y1w, Y1x, Y1y, Y1z, Y20, Y21, Y28, Y2a, AV.cells?, Nat.reduceAdd, Nat.reduceMul]
  have hfk : FkL ⟨.cells ga 1 (o.map fun z => Z z) :: .cells gs 5 [Z V, LLI all, .slL 0 0 (V + 1) ga, xx2, Z (st + 1)] :: tb2, c2⟩ S0 [.slL 0 1 V ga, .val (.int .i64 0)] [LI (o.drop 1), Z 0] := by
    refine .cons ((Fk.slF (ys := (o.drop 1).map fun z => Z z) V rfl rfl ?_).then ?_) (.cons (.same _) .nil)
    · rw [← List.map_drop, ← List.map_take, List.take_of_length_le (by simp; omega)]
      exact FkL.same _
    · have : V = (o.drop 1).length := by simp; omega
      unfold LI Lm
      rw [← this]
      exact .F (.refl _)
  refine wCall.bo (IndexI_spec B.index (o.drop 1) 0 (by simp; omega)) (by simp [AV.flat]) hfk fun n2 => ?_
  rcases first_open hso with ⟨v, hv1, hv2, hv3, hv0, hvf⟩ | ⟨hv3, htot⟩
  case inr =>
    rw [binA_add (by omega), hv3]
    simp only [nd0, Y1n, Y1o, Y1p, Y1q, Y1w, Y1x, Y1y, Y1z, Y20, Y21, Y28, Y2a, AV.cells?, Nat.reduceAdd, Nat.reduceMul, show decide ((0 : Int) = 0) = true from rfl]
    exact ⟨st + 1, by omega, by omega, .inl ⟨o, u, trivial, hso, search_leaf hso hall hgo hsp htot, xx2, tb2, n2, rfl, ht2⟩⟩
  rw [binA_add (by omega), hv3]
  simp only [nd0, Y1n, Y1o, Y1p, Y1q, Y1w, Y1x, Y1y, Y1z, Y20, Y21, Y28, Y2a, AV.cells?, Nat.reduceAdd, Nat.reduceMul, decide_eq_false (show ¬ (v : Int) = 0 by omega)]
  rw [neg_Z (by omega)]
  simp only [nd0, Y1n, Y1o, Y1p, Y1q, Y1w, Y1x, Y1y, Y1z, Y20, Y21, Y28, Y2a, AV.cells?, Nat.reduceAdd, Nat.reduceMul]
  refine wNewS.F' (l := [Z (v : Int), Z (-(v : Int))]) rfl rfl ?_
  simp only [nd0, Y1n, Y1o, Y1p, Y1q, Y1w, Y1x, Y1y, Y1z, Y20, Y21, Y28, Y2a, AV.cells?, Nat.reduceAdd, Nat.reduceMul]
  have hx1 : okLit V (v : Int) := by unfold okLit; omega
  have hx2 : okLit V (-(v : Int)) := by unfold okLit; omega
  have hz1 : lv o (v : Int) = 0 := by rw [lv_vr (by omega)]; simpa [vr] using hv0
  have hz2 : lv o (-(v : Int)) = 0 := by rw [lv_vr (by omega)]; simpa [vr] using hv0
  have hog := m1 hgo
  have hop := m2 (v : Int) hso hsp hx1 (by simpa [vr] using hv0) (by simpa [vr] using hvf)
  obtain ⟨k', rfl⟩ : ∃ k', k = k' + 1 := ⟨k - 1, by omega⟩
  have hq2 : (2 : Int) ^ (k' + 1) = 2 ^ k' * 2 := Int.pow_succ ..
  have hq : (1 : Int) ≤ 2 ^ k' := Int.pow_pos (by decide)
  -- one of the two ways
  have way : ∀ (x : Int) (st1 : Int) (H : AH) (K : Kt), okLit V x → vr x = v → lv o x = 0 → 0 ≤ st1 → st1 + 2 ^ (k' + 1) ≤ 20001 → GH ga gs V all o u st1 H →
      (∀ (st2 : Int) of' tr' H', st1 ≤ st2 → st2 + 1 ≤ st1 + 2 ^ (k' + 1) → Sol V of' → SearchT V all (litSet o x) of' → GH ga gs V all of' tr' st2 H' → K (.tup [Bo true, nilE]) H') →
      (∀ (st2 : Int) H', st1 ≤ st2 → st2 + 1 ≤ st1 + 2 ^ (k' + 1) → SearchF V all (litSet o x) → (∀ K : Kt, (∀ H'', GH ga gs V all o u st2 H'' → K (.tup []) H'') → wCall E P 109 [.ptrL 1 0 gs, Z (u.length : Int)] H' K) → K (.tup [Bo false, nilE]) H') →
      wCall E P 111 [.ptrL 1 0 gs, Z x] H fun t60 H => wCall E P 105 [.ptrL 1 0 gs] H K := by
    intro x st1 H K hx hvx hz h0 h1 hH hT hF
    refine ⟨_, set_spec B hso hV hx (by omega) hH, ?_⟩
    rintro r H2 ⟨rfl, hH2⟩
    have hol := opens_lt hso hx hz
    have hmu := m2 x hso hsp hx (by rw [hvx]; exact hv0) (by rw [hvx]; exact hvf)
    have hgx := Grow.set (tr := u) hso hx hz
    refine ⟨_, ih k' (by omega) (litSet o x) (u ++ [(vr x : Int)]) st1 H2 (hso.set hx) (tr_grow hgx htu) (by simp; omega) (by omega) h0 h1 hH2, ?_⟩
    rintro r H3 ⟨st2, s1, s2, ⟨of', tr', rfl, t1, t2, t3⟩ | ⟨rfl, t1, t2⟩⟩
    · exact hT st2 of' tr' H3 s1 s2 t1 t2 t3
    · refine hF st2 H3 s1 s2 t1 fun K hK => ?_
      refine ⟨_, back_spec B (hso.set hx).len hV (tr_grow hgx htu) (by simp; omega) (show u.length ≤ (u ++ [(vr x : Int)]).length by simp) t2, ?_⟩
      rintro r H' ⟨rfl, h'⟩
      obtain ⟨e1, e2⟩ := hgx.back hso (hso.set hx)
      rw [e1, e2] at h'
      exact hK H' h'
  refine wLoop.one (fun m i H => ∃ (q : Nat) (st1 : Int), q + m = 2 ∧ i = Z q ∧ st + 1 ≤ st1 ∧ st1 + q ≤ st + 1 + q * 2 ^ (k' + 1) ∧ GH ga gs V all o u st1 H ∧ (0 < q → SearchF V all (litSet o (v : Int))) ∧ (1 < q → SearchF V all (litSet o (-(v : Int))))) 2
    (gh1.mk ⟨0, st + 1, by omega, rfl, by omega, by omega, ⟨xx2, tb2, n2, rfl, ht2⟩, by simp, by simp⟩) ?_
  rintro m i H ⟨q, st1, hqm, rfl, hs1, hs2, hH, hF1, hF2⟩
  have hcase : q = 0 ∨ q = 1 ∨ q = 2 := by omega
  rcases hcase with rfl | rfl | rfl
  case inr.inr =>
    simp only [nd0, Y1n, Y1o, Y1p, Y1q, Y1w, Y1x, Y1y, Y1z, Y20, Y21, Y28, Y2a, AV.cells?, Nat.reduceAdd, Nat.reduceMul, show decide (((2 : Nat) : Int) < ((2 : Nat) : Int)) = false from rfl]
    refine restore _ _ _ hH fun H' h' => ?_
    exact ⟨st1, by omega, by omega, .inr ⟨trivial, search_none hso hsp hv1 hv2 (hF1 (by omega)) (hF2 (by omega)), h'⟩⟩
  · simp only [nd0, Y1n, Y1o, Y1p, Y1q, Y1w, Y1x, Y1y, Y1z, Y20, Y21, Y28, Y2a, AV.cells?, Nat.reduceAdd, Nat.reduceMul, show decide (((0 : Nat) : Int) < ((2 : Nat) : Int)) = true from rfl]
    rw [iaddr_Nn (by omega)]
    obtain ⟨xx3, tb3, c3, hHe, ht3⟩ := id hH
    have hbs : H.bs[1]? = some (.cells gs 5 [Z V, LLI all, .slL 0 0 (V + 1) ga, xx3, Z st1]) := by rw [hHe]; rfl
    simp only [nd0, Y1n, Y1o, Y1p, Y1q, Y1w, Y1x, Y1y, Y1z, Y20, Y21, Y28, Y2a, AV.cells?, Nat.reduceAdd, Nat.reduceMul, hbs, ht3.len]
    refine way _ st1 H _ hx1 (by simp [vr]) hz1 (by omega) (by omega) hH (fun st2 of' tr' H' a1 a2 a3 a4 a5 => ?_) (fun st2 H' a1 a2 a3 a4 => ?_)
    · simp only [nd0, Y1n, Y1o, Y1p, Y1q, Y1w, Y1x, Y1y, Y1z, Y20, Y21, Y28, Y2a, AV.cells?, Nat.reduceAdd, Nat.reduceMul]
      exact ⟨st2, by omega, by omega, .inl ⟨of', tr', trivial, a3, search_yes hso hgo hsp hv1 hv2 hv0 hvf a4, a5⟩⟩
    · simp only [nd0, Y1n, Y1o, Y1p, Y1q, Y1w, Y1x, Y1y, Y1z, Y20, Y21, Y28, Y2a, AV.cells?, Nat.reduceAdd, Nat.reduceMul]
      refine a4 _ fun H'' h'' => ?_
      rw [binA_succ (by omega)]
      simp only [nd0, Y1n, Y1o, Y1p, Y1q, Y1w, Y1x, Y1y, Y1z, Y20, Y21, Y28, Y2a, AV.cells?, Nat.reduceAdd, Nat.reduceMul]
      exact back1.mk 1 (by omega) ⟨1, st2, by omega, rfl, by omega, by omega, h'', fun _ => a3, by omega⟩
  · simp only [nd0, Y1n, Y1o, Y1p, Y1q, Y1w, Y1x, Y1y, Y1z, Y20, Y21, Y28, Y2a, AV.cells?, Nat.reduceAdd, Nat.reduceMul, show decide (((1 : Nat) : Int) < ((2 : Nat) : Int)) = true from rfl]
    rw [iaddr_Nn (by omega)]
    obtain ⟨xx3, tb3, c3, hHe, ht3⟩ := id hH
    have hbs : H.bs[1]? = some (.cells gs 5 [Z V, LLI all, .slL 0 0 (V + 1) ga, xx3, Z st1]) := by rw [hHe]; rfl
    simp only [nd0, Y1n, Y1o, Y1p, Y1q, Y1w, Y1x, Y1y, Y1z, Y20, Y21, Y28, Y2a, AV.cells?, Nat.reduceAdd, Nat.reduceMul, hbs, ht3.len]
    refine way _ st1 H _ hx2 (by simp [vr]) hz2 (by omega) (by omega) hH (fun st2 of' tr' H' a1 a2 a3 a4 a5 => ?_) (fun st2 H' a1 a2 a3 a4 => ?_)
    · simp only [nd0, Y1n, Y1o, Y1p, Y1q, Y1w, Y1x, Y1y, Y1z, Y20, Y21, Y28, Y2a, AV.cells?, Nat.reduceAdd, Nat.reduceMul]
      exact ⟨st2, by omega, by omega, .inl ⟨of', tr', trivial, a3, search_no hso hgo hsp hv1 hv2 hv0 (hF1 (by omega)) a4, a5⟩⟩
    · simp only [nd0, Y1n, Y1o, Y1p, Y1q, Y1w, Y1x, Y1y, Y1z, Y20, Y21, Y28, Y2a, AV.cells?, Nat.reduceAdd, Nat.reduceMul]
      refine a4 _ fun H'' h'' => ?_
      rw [binA_succ (by omega)]
      simp only [nd0, Y1n, Y1o, Y1p, Y1q, Y1w, Y1x, Y1y, Y1z, Y20, Y21, Y28, Y2a, AV.cells?, Nat.reduceAdd, Nat.reduceMul]
      exact back1.mk 0 (by omega) ⟨2, st2, by omega, rfl, by omega, by omega, h'', fun _ => hF1 (by omega), fun _ => a3⟩
end
end Go.Sc
namespace Go.Sc
open Go
set_option linter.unusedSimpArgs false
set_option linter.unusedVariables false
set_option linter.unnecessarySimpa false
def badL (v x : Int) : Bool := decide (x = 0) || (decide (v < x) || decide (x < -v))
def gcheckAt (v : Int) (all : List (List Int)) (i : Nat) : Err := if (row all i).any (badL v) then some (2, some i) else none
def gcheck (v : Int) (all : List (List Int)) : Err := if v < 0 ∨ 1000 < v ∨ 3000 < all.length then some (4, none) else (List.range all.length).findSome? (gcheckAt v all)
def Cl (v : Int) (all : List (List Int)) : AV := .agg [Z v, LLI all]
theorem Cl_closed (v : Int) (all : List (List Int)) : (Cl v all).closed := by simp [Cl, AV.closed, AV.closedL, LLI_closed]
theorem gcheck_ok {v : Int} {all : List (List Int)} (h : gcheck v all = none) : 0 ≤ v ∧ v ≤ 1000 ∧ all.length ≤ 3000 ∧ ∀ c ∈ all, ∀ x ∈ c, okLit v.toNat x := by
  unfold gcheck at h
  split at h
  · cases h
  · rename_i hn
    refine ⟨by omega, by omega, by omega, fun c hc x hx => ?_⟩
    rw [List.findSome?_eq_none_iff] at h
    obtain ⟨i, hi, rfl⟩ := List.getElem_of_mem hc
    have := h i (List.mem_range.2 hi)
    unfold gcheckAt at this
    split at this
    · cases this
    · rename_i ha
      have hr : row all i = all[i] := by simp [row, List.getElem?_eq_getElem hi]
      rw [hr, Bool.not_eq_true, List.any_eq_false] at ha
      have hb := ha x hx
      simp only [badL, Bool.or_eq_true, decide_eq_true_eq, not_or] at hb
      unfold okLit
      omega
structure GateBodies0 (E : Env) (P : Program) : Prop where
  s : SolverBodies E P
  con : Body2 E P 59 F.slices_ContainsFunc_Lint_int
  ixi : Body2 E P 66 F.slices_IndexFunc_Lint_int
  check : Body1 E P 101 F.gate_Check
  check1 : Body2 E P 106 F.gate_Check_c1
  solve : Body1 E P 100 F.gate_Solve
section
variable {E : Env} {P : Program}
theorem gCheck1_spec (B : GateBodies0 E P) {v : Int} (hv : 0 ≤ v ∧ v ≤ 1000) (all : List (List Int)) (x : Int) : FX E P 106 [Z x, .ptrF [Z v, LLI all] 0] (Bo (badL v x)) := by
  refine FX.of' (by simp [AV.closedL, AV.closed, LLI_closed]) (by simp [AV.closed]) fun n R hR => B.check1 _ _ _ _ ?_
  unfold F.gate_Check_c1
  simp only [nd0, Y1n, Y1o, Y1p, Y1q, Y1w, Y1x, Y1y, Y1z, Y20, Y21, Y28, Y2a, AV.cells?, Nat.reduceAdd, Nat.reduceMul]
  by_cases h1 : x = 0
  · simp only [nd0, Y1n, Y1o, Y1p, Y1q, Y1w, Y1x, Y1y, Y1z, Y20, Y21, Y28, Y2a, AV.cells?, Nat.reduceAdd, Nat.reduceMul, decide_eq_true h1]
    exact hR _ _ (by simp [badL, h1])
  simp only [nd0, Y1n, Y1o, Y1p, Y1q, Y1w, Y1x, Y1y, Y1z, Y20, Y21, Y28, Y2a, AV.cells?, Nat.reduceAdd, Nat.reduceMul, decide_eq_false h1]
  by_cases h2 : v < x
  · simp only [nd0, Y1n, Y1o, Y1p, Y1q, Y1w, Y1x, Y1y, Y1z, Y20, Y21, Y28, Y2a, AV.cells?, Nat.reduceAdd, Nat.reduceMul, decide_eq_true h2]
    exact hR _ _ (by simp [badL, h2])
  simp only [nd0, Y1n, Y1o, Y1p, Y1q, Y1w, Y1x, Y1y, Y1z, Y20, Y21, Y28, Y2a, AV.cells?, Nat.reduceAdd, Nat.reduceMul, decide_eq_false h2]
  rw [neg_Z (by omega)]
  simp only [nd0, Y1n, Y1o, Y1p, Y1q, Y1w, Y1x, Y1y, Y1z, Y20, Y21, Y28, Y2a, AV.cells?, Nat.reduceAdd, Nat.reduceMul]
  exact hR _ _ (by simp [badL, h1, h2])
theorem gCheck_spec (B : GateBodies0 E P) (v : Int) (all : List (List Int)) (hl : all.length < 140737488355328) (hw : ∀ c ∈ all, c.length < 140737488355328) : FX E P 101 [Cl v all] (errA (gcheck v all)) := by
  refine FX.of' (by simp [AV.closedL, Cl_closed]) (errA_closed _) fun n R hR => B.check _ _ _ ?_
  unfold F.gate_Check Cl
  refine wNew.F' (l := [Z v, LLI all]) rfl ?_
  simp only [nd0, Y1n, Y1o, Y1p, Y1q, Y1w, Y1x, Y1y, Y1z, Y20, Y21, Y28, Y2a, AV.cells?, Nat.reduceAdd, Nat.reduceMul]
  have out4 : ∀ H, (v < 0 ∨ 1000 < v ∨ 3000 < all.length) → R (.ifc 1 (Z 4)) H := fun H h => hR _ _ (by unfold gcheck; rw [if_pos h]; rfl)
  by_cases h1 : v < 0
  · simp only [nd0, Y1n, Y1o, Y1p, Y1q, Y1w, Y1x, Y1y, Y1z, Y20, Y21, Y28, Y2a, AV.cells?, Nat.reduceAdd, Nat.reduceMul, decide_eq_true h1]
    exact out4 _ (.inl h1)
  simp only [nd0, Y1n, Y1o, Y1p, Y1q, Y1w, Y1x, Y1y, Y1z, Y20, Y21, Y28, Y2a, AV.cells?, Nat.reduceAdd, Nat.reduceMul, decide_eq_false h1]
  by_cases h2 : 1000 < v
  · simp only [nd0, Y1n, Y1o, Y1p, Y1q, Y1w, Y1x, Y1y, Y1z, Y20, Y21, Y28, Y2a, AV.cells?, Nat.reduceAdd, Nat.reduceMul, decide_eq_true h2]
    exact out4 _ (.inr (.inl h2))
  simp only [nd0, Y1n, Y1o, Y1p, Y1q, Y1w, Y1x, Y1y, Y1z, Y20, Y21, Y28, Y2a, AV.cells?, Nat.reduceAdd, Nat.reduceMul, decide_eq_false h2, lenA_LLI]
  by_cases h3 : (3000 : Int) < all.length
  · simp only [nd0, Y1n, Y1o, Y1p, Y1q, Y1w, Y1x, Y1y, Y1z, Y20, Y21, Y28, Y2a, AV.cells?, Nat.reduceAdd, Nat.reduceMul, decide_eq_true h3]
    exact out4 _ (by omega)
  simp only [nd0, Y1n, Y1o, Y1p, Y1q, Y1w, Y1x, Y1y, Y1z, Y20, Y21, Y28, Y2a, AV.cells?, Nat.reduceAdd, Nat.reduceMul, decide_eq_false h3, lenA_LLI]
  have hchk : gcheck v all = (List.range all.length).findSome? (gcheckAt v all) := by unfold gcheck; rw [if_neg (by omega)]
  refine wLoop.one (fun m x H => ∃ i : Nat, i + m = all.length ∧ x = Z i ∧ ∀ j, j < i → gcheckAt v all j = none) all.length (gh1.mk ⟨0, by omega, rfl, by simp⟩) ?_
  rintro m x H ⟨i, him, rfl, hpre⟩
  by_cases hi : i < all.length
  case neg =>
    have : i = all.length := by omega
    subst this
    simp only [nd0, Y1n, Y1o, Y1p, Y1q, Y1w, Y1x, Y1y, Y1z, Y20, Y21, Y28, Y2a, AV.cells?, Nat.reduceAdd, Nat.reduceMul, Int.lt_irrefl]
    refine hR _ _ ?_
    rw [hchk, findSome_none_of]
    · rfl
    · intro j hj; exact hpre j (List.mem_range.1 hj)
  simp only [nd0, Y1n, Y1o, Y1p, Y1q, Y1w, Y1x, Y1y, Y1z, Y20, Y21, Y28, Y2a, AV.cells?, Nat.reduceAdd, Nat.reduceMul, decide_eq_true (show (i : Int) < (all.length : Int) by omega)]
  rw [iaddr_LLI hi]
  simp only [nd0, Y1n, Y1o, Y1p, Y1q, Y1w, Y1x, Y1y, Y1z, Y20, Y21, Y28, Y2a, AV.cells?, Nat.reduceAdd, Nat.reduceMul, row_get hi]
  have hri : row all i ∈ all := by unfold row; rw [List.getElem?_eq_getElem hi]; exact List.getElem_mem hi
  have hrl : (row all i).length < 1099511627776000 := by have := hw _ hri; omega
  refine wCall.fx (ContainsFunc_spec B.con B.ixi (k := 106) (cs := [.ptrF [Z v, LLI all] 0]) (p := badL v) (row all i) (by have := hw _ hri; omega) (by simp [AV.closedL, AV.closed, LLI_closed]) fun x _ => gCheck1_spec B (by omega) all x) fun n2 => ?_
  cases hany : (row all i).any (badL v) with
  | true =>
    simp only [nd0, Y1n, Y1o, Y1p, Y1q, Y1w, Y1x, Y1y, Y1z, Y20, Y21, Y28, Y2a, AV.cells?, Nat.reduceAdd, Nat.reduceMul]
    refine ⟨⟨[Z 2, Z i], rfl, ?_⟩⟩
    refine wNew.F' (l := [Z 2, Z i]) rfl ?_
    refine hR _ _ ?_
    rw [hchk, findSome_range hi hpre (show gcheckAt v all i = some (2, some i) by simp [gcheckAt, hany])]
    rfl
  | false =>
    simp only [nd0, Y1n, Y1o, Y1p, Y1q, Y1w, Y1x, Y1y, Y1z, Y20, Y21, Y28, Y2a, AV.cells?, Nat.reduceAdd, Nat.reduceMul]
    rw [binA_succ (by omega)]
    simp only [nd0, Y1n, Y1o, Y1p, Y1q, Y1w, Y1x, Y1y, Y1z, Y20, Y21, Y28, Y2a, AV.cells?, Nat.reduceAdd, Nat.reduceMul]
    refine back1.mk (m - 1) (by omega) ⟨i + 1, by omega, rfl, fun j hj => ?_⟩
    by_cases hji : j < i
    · exact hpre j hji
    · have : j = i := by omega
      subst this
      simp [gcheckAt, hany]
end
end Go.Sc
namespace Go.Sc
open Go
set_option linter.unusedSimpArgs false
set_option linter.unusedVariables false
set_option linter.unnecessarySimpa false
theorem cell_rep (n i : Nat) : cell (List.replicate n 0) i = 0 := by
  unfold cell; rw [List.getElem?_replicate]; split <;> rfl
theorem rep_Z (n : Nat) : (List.replicate n [Z 0]).flatten = (List.replicate n (0 : Int)).map fun z => Z z := by
  refine List.ext_getElem? fun j => ?_
  by_cases hj : j < n <;> simp [hj]
theorem sol0 (V : Nat) : Sol V (List.replicate (V + 1) 0) := ⟨by simp, fun i => .inl (cell_rep _ i)⟩
theorem opens_le (V : Nat) (of : List Int) : opens V of ≤ V := by
  unfold opens
  refine Nat.le_trans List.countP_le_length ?_
  simp
theorem pow9 {V : Nat} (h : V ≤ 8) : (2 : Int) ^ (V + 1) ≤ 512 := by
  have : V = 0 ∨ V = 1 ∨ V = 2 ∨ V = 3 ∨ V = 4 ∨ V = 5 ∨ V = 6 ∨ V = 7 ∨ V = 8 := by omega
  rcases this with rfl | rfl | rfl | rfl | rfl | rfl | rfl | rfl | rfl <;> decide
def outB (V : Nat) (a : Nat → Bool) : List Bool := (List.range V).map fun i => a (i + 1)
theorem outB_len (V : Nat) (a : Nat → Bool) : (outB V a).length = V := by simp [outB]
def SolveR (V : Nat) (all : List (List Int)) (r : AV) : Prop :=
  (∃ of', SearchT V all (List.replicate (V + 1) 0) of' ∧ r = .tup [LB (outB V (asg of')), nilE]) ∨ (SearchF V all (List.replicate (V + 1) 0) ∧ r = .tup [LB [], .ifc 1 (Z 8)])
section
variable {E : Env} {P : Program}
set_option maxHeartbeats 1000000 in
theorem Solve_specN (B : GateBodies0 E P) (V : Nat) (all : List (List Int)) (μ : List Int → Nat) (m1 : ∀ {of tr of' tr' : List Int}, Grow V of tr of' tr' → μ of' ≤ μ of)
    (m2 : ∀ {of o : List Int} (x : Int), Sol V o → SpreadOk V all of o true → okLit V x → cell o (vr x) = 0 → (∀ i, 1 ≤ i → i < vr x → cell o i ≠ 0) → μ (litSet o x) < μ o)
    {N : Nat} (hN : N ≤ 8) (hmu : μ (List.replicate (V + 1) 0) ≤ N) (hV : V ≤ 1000) (hc : gcheck V all = none) (hn1 : all.length ≤ 4000) (hn2 : ∀ c ∈ all, c.length ≤ 1000) : FR E P 100 [Cl V all] (SolveR V all) := by
  obtain ⟨_, _, _, hall⟩ := gcheck_ok hc
  rw [Int.toNat_natCast] at hall
  refine FR.of (by simp [AV.closedL, Cl_closed]) (fun r hr => ?_) fun n R hR => B.solve _ _ _ ?_
  · rcases hr with ⟨o, _, rfl⟩ | ⟨_, rfl⟩ <;> simp [AV.closed, AV.closedL, LB_closed]
  have hck := gCheck_spec B (V : Int) all (by omega) (fun c h => by have := hn2 c h; omega)
  unfold F.gate_Solve
  rw [show AV.cells? (Cl V all) = some [Z V, LLI all] from rfl]
  refine wNew.F' (l := [Z V, LLI all]) rfl ?_
  simp only [nd0, Y1n, Y1o, Y1p, Y1q, Y1w, Y1x, Y1y, Y1z, Y20, Y21, Y28, Y2a, AV.cells?, Nat.reduceAdd, Nat.reduceMul]
  rw [hc] at hck
  refine wCall.fx hck fun n1 => ?_
  simp only [errA]
  simp only [nd0, Y1n, Y1o, Y1p, Y1q, Y1w, Y1x, Y1y, Y1z, Y20, Y21, Y28, Y2a, AV.cells?, Nat.reduceAdd, Nat.reduceMul]
  rw [binA_succ (by omega)]
  simp only [nd0, Y1n, Y1o, Y1p, Y1q, Y1w, Y1x, Y1y, Y1z, Y20, Y21, Y28, Y2a, AV.cells?, Nat.reduceAdd, Nat.reduceMul]
  refine wMake.L (makeA_n (n := V + 1) (by simp [mostBytes]; omega)) ?_
  simp only [nd0, Y1n, Y1o, Y1p, Y1q, Y1w, Y1x, Y1y, Y1z, Y20, Y21, Y28, Y2a, AV.cells?, Nat.reduceAdd, Nat.reduceMul, and_self, true_and]
  refine ⟨⟨[Z V, LLI all, .slL 0 0 (V + 1) n1, nilS, Z 0], rfl, ?_⟩⟩
  refine wNew.L (l := [Z V, LLI all, .slL 0 0 (V + 1) n1, nilS, Z 0]) rfl ?_
  simp only [nd0, Y1n, Y1o, Y1p, Y1q, Y1w, Y1x, Y1y, Y1z, Y20, Y21, Y28, Y2a, AV.cells?, Nat.reduceAdd, Nat.reduceMul, rep_Z]
  have h9 := pow9 hN
  have hsp := search_specN (ga := n1) (gs := n1 + 1) (V := V) (all := all) B.s μ m1 m2 (by omega) hall hn1 hn2 N (List.replicate (V + 1) 0) [] 0 (gH n1 (n1 + 1) V all (List.replicate (V + 1) 0) nilS 0 [] (n1 + 1 + 1)) (sol0 V) (by simp) (by have := opens_le V (List.replicate (V + 1) 0); simpa using this) hmu (by omega) (by omega) ⟨_, _, _, rfl, .inl ⟨rfl, rfl, rfl⟩⟩
  refine ⟨_, hsp, ?_⟩
  rintro r H ⟨st, s1, s2, ⟨of', tr', rfl, hso, hT, hH⟩ | ⟨rfl, hF, hH⟩⟩
  case inr =>
    simp only [nd0, Y1n, Y1o, Y1p, Y1q, Y1w, Y1x, Y1y, Y1z, Y20, Y21, Y28, Y2a, AV.cells?, Nat.reduceAdd, Nat.reduceMul]
    exact hR _ _ _ (.sub (.tup (.cons .nil (.one (.refl _))))) (.inr ⟨hF, rfl⟩)
  simp only [nd0, Y1n, Y1o, Y1p, Y1q, Y1w, Y1x, Y1y, Y1z, Y20, Y21, Y28, Y2a, AV.cells?, Nat.reduceAdd, Nat.reduceMul]
  obtain ⟨xx, tb, c, rfl, ht⟩ := hH
  have hl := hso.len
  unfold gH
  simp only [nd0, Y1n, Y1o, Y1p, Y1q, Y1w, Y1x, Y1y, Y1z, Y20, Y21, Y28, Y2a, AV.cells?, Nat.reduceAdd, Nat.reduceMul]
  have hsl : ∀ H : AH, H.esz 0 n1 = some 1 → sliceA 1 (.slL 0 0 (V + 1) n1) (some (.val (.int .i64 1))) none H = some (.slL 0 1 V n1) := fun H hH => by
    simp only [sliceA, bnd, Option.bind_some, hH, true_and]
    rw [if_pos (by omega)]
    simp
  rw [hsl _ (by simp [AH.esz])]
  simp only [nd0, Y1n, Y1o, Y1p, Y1q, Y1w, Y1x, Y1y, Y1z, Y20, Y21, Y28, Y2a, AV.cells?, Nat.reduceAdd, Nat.reduceMul]
  have hg1 : Ghost [.val (.slice none 0 0), .val (.int .i64 0)] ⟨.cells n1 1 (of'.map fun z => Z z) :: .cells (n1 + 1) 5 [Z V, LLI all, .slL 0 0 (V + 1) n1, xx, Z st] :: tb, c⟩ [.val (.slice none 0 0), .val (.int .i64 0)] ⟨[.cells n1 1 (of'.map fun z => Z z)], c⟩ :=
    ghost_kill (H := ⟨.cells n1 1 (of'.map fun z => Z z) :: .cells (n1 + 1) 5 [Z V, LLI all, .slL 0 0 (V + 1) n1, xx, Z st] :: tb, c⟩) (H' := ⟨[.cells n1 1 (of'.map fun z => Z z)], c⟩) (S := fun i => decide (1 ≤ i)) rfl (.keep rfl (KB.same _) (.cut fun j x _ => .inl (by simp))) (FkL.same _)
  refine wLoop.two (fun m t i H => ∃ (q : Nat) (z : Blk) (c : Nat), q + m = V ∧ i = Z q ∧ H = ⟨[.cells n1 1 (of'.map fun z => Z z), z], c⟩ ∧ Gr 1 z 1 t (((outB V (asg of')).take q).map fun b => Bo b) q) V
    (gh2.of (hg1.trans (ghost_room [.dead] (by simp))) ⟨0, .dead, _, by omega, rfl, rfl, .nil⟩) ?_
  rintro m t i H ⟨q, z, c2, hqm, rfl, rfl, hg⟩
  by_cases hq : q < V
  · simp only [nd0, Y1n, Y1o, Y1p, Y1q, Y1w, Y1x, Y1y, Y1z, Y20, Y21, Y28, Y2a, AV.cells?, Nat.reduceAdd, Nat.reduceMul, decide_eq_true (show (q : Int) < (V : Int) by omega)]
    rw [iaddr_L (by omega)]
    have hgt : (of'.map fun z => Z z)[1 + q]? = some (Z (cell of' (1 + q))) := cell_at (by omega)
    simp only [nd0, Y1n, Y1o, Y1p, Y1q, Y1w, Y1x, Y1y, Y1z, Y20, Y21, Y28, Y2a, AV.cells?, Nat.reduceAdd, Nat.reduceMul, hgt]
    refine wNewS.F' (l := [Bo (decide (cell of' (1 + q) = 1))]) rfl rfl ?_
    refine wApp.one (bytes := 1) hg rfl (by simp [outB_len]; omega) (.refl _) rfl (by simp [mostBytes]; omega) fun z' x' c' hg' => ?_
    simp only [nd0, Y1n, Y1o, Y1p, Y1q, Y1w, Y1x, Y1y, Y1z, Y20, Y21, Y28, Y2a, AV.cells?, Nat.reduceAdd, Nat.reduceMul]
    rw [binA_succ (by omega)]
    simp only [nd0, Y1n, Y1o, Y1p, Y1q, Y1w, Y1x, Y1y, Y1z, Y20, Y21, Y28, Y2a, AV.cells?, Nat.reduceAdd, Nat.reduceMul]
    refine back2.mk (m - 1) (by omega) ⟨q + 1, z', c', by omega, rfl, rfl, ?_⟩
    rw [List.take_succ_eq_append_getElem (by rw [outB_len]; exact hq)]
    simpa [outB, asg, Nat.add_comm] using hg'
  · have : q = V := by omega
    subst this
    simp only [nd0, Y1n, Y1o, Y1p, Y1q, Y1w, Y1x, Y1y, Y1z, Y20, Y21, Y28, Y2a, AV.cells?, Nat.reduceAdd, Nat.reduceMul, Int.lt_irrefl]
    refine hR _ (.tup [LB (outB q (asg of')), nilE]) _ (.sub (.tup (.cons ?_ (.one (.refl _))))) (.inl ⟨of', hT, rfl⟩)
    have := hg.sub
    rw [List.take_of_length_le (by rw [outB_len]; omega)] at this
    unfold LB Lm
    rw [outB_len]
    exact this
end
end Go.Sc
namespace Go.Sc
open Go
set_option linter.unusedSimpArgs false
set_option linter.unusedVariables false
set_option linter.unnecessarySimpa false
theorem nameOk_len {s : Str} (h : nameOk s = true) : s.length ≤ 8 := by
  cases s with
  | nil => simp
  | cons c r => simp only [nameOk, Bool.and_eq_true, decide_eq_true_eq] at h; exact h.1.2
/-! ### the map of names: numbers from 1 on, in order -/
theorem keyEq_S (a b : Str) : keyEq (S a) (S b) = some (decide (a = b)) := by
  simp only [keyEq]
  congr 1
  rw [Bool.eq_iff_iff, MapKept.bytes_beq, decide_eq_true_iff]
  constructor
  · intro h
    have := congrArg (fun x : ByteArray => x.data.toList) h
    simpa using this
  · rintro rfl; rfl
theorem findK_S (k : Str) : ∀ (ks : List Str) (i : Nat), findK (S k) (ks.map fun s => S s) i = some (if k ∈ ks then some (i + ixN ks k) else none)
  | [], i => by simp [findK]
  | x :: ks, i => by
    simp only [List.map_cons, findK, keyEq_S]
    by_cases h : k = x
    · subst h
      simp only [decide_eq_true rfl]
      have := ixN_app (pre := []) (rest := ks) (s := k) (by simp)
      simp at this
      simp [this]
    · rw [decide_eq_false h]
      simp only [findK_S k ks (i + 1), List.mem_cons, h, false_or]
      by_cases hm : k ∈ ks
      · obtain ⟨pre, rest, rfl, hn⟩ := mem_split hm
        have e1 := ixN_app (rest := rest) hn
        have e2 := ixN_app (pre := x :: pre) (rest := rest) (s := k) (by simp [h, hn])
        simp only [List.cons_append, List.length_cons] at e2
        rw [if_pos hm, if_pos hm, e1, e2]
        congr 2; omega
      · rw [if_neg hm, if_neg hm]
def nums (n : Nat) : List AV := (List.range n).map fun i => Z ((i + 1 : Nat) : Int)
def nmv (ks : List Str) (s : Str) : Int := if s ∈ ks then ((ixN ks s + 1 : Nat) : Int) else 0
theorem get_nm (ks : List Str) (s : Str) : mapGet (Z 0) false (S s) (ks.map fun s => S s) (nums ks.length) = some (Z (nmv ks s)) := by
  simp only [mapGet, findK_S, nmv]
  by_cases h : s ∈ ks
  · rw [if_pos h, if_pos h]
    simp only [Nat.zero_add]
    have := ixN_lt h
    rw [show (nums ks.length)[ixN ks s]? = some (Z ((ixN ks s + 1 : Nat) : Int)) by unfold nums; rw [List.getElem?_map, List.getElem?_range this]; rfl]
    rfl
  · rw [if_neg h, if_neg h]; rfl
/-! ### the builder: its block, the clauses' block, the map's -/
def SG (r0 : Blk) (ks : List Str) (b : Bd) (g0 g2 : Nat) (tb : List Blk) (H : AH) : Prop := ∃ z t c, H = ⟨r0 :: .map g2 (ks.map fun s => S s) (nums ks.length) :: .cells g0 3 [Z b.vars, t, .mapL 1 g2] :: z :: tb, c⟩ ∧ Gr 1 z 3 t (b.cl.map LI) b.cl.length
structure MakeBodies (E : Env) (P : Program) : Prop where
  add : Body2 E P 237 F.pgate_builder_add
  and : Body2 E P 236 F.pgate_builder_and
  fresh : Body1 E P 234 F.pgate_builder_fresh
  lit : Body2 E P 235 F.pgate_builder_lit
  of : Body1 E P 233 F.gate_Of
section
variable {E : Env} {P : Program} {ks : List Str} {g0 g2 : Nat} {r0 : Blk}
theorem gFresh_spec (B : MakeBodies E P) {b : Bd} {tb : List Blk} (hv : b.vars < 100000) {H : AH} (hH : SG r0 ks b g0 g2 tb H) : ACalls E P 234 [.ptrL 2 0 g0] H fun r H' => r = Z ((b.vars + 1 : Nat) : Int) ∧ SG r0 ks ⟨b.vars + 1, b.cl⟩ g0 g2 tb H' := by
  obtain ⟨z, t, c, rfl, hg⟩ := hH
  refine B.fresh _ _ _ ?_
  unfold F.pgate_builder_fresh
  simp only [nd0, Y1n, Y1o, Y1p, Y1q, Y1w, Y1x, Y1y, Y1z, Y20, Y21, Y28, Y2a, AV.cells?, Nat.reduceAdd, Nat.reduceMul]
  rw [binA_succ (by omega)]
  simp only [nd0, Y1n, Y1o, Y1p, Y1q, Y1w, Y1x, Y1y, Y1z, Y20, Y21, Y28, Y2a, AV.cells?, Nat.reduceAdd, Nat.reduceMul]
  rw [store1_L rfl]
  simp only [nd0, Y1n, Y1o, Y1p, Y1q, Y1w, Y1x, Y1y, Y1z, Y20, Y21, Y28, Y2a, AV.cells?, Nat.reduceAdd, Nat.reduceMul, Nat.reduceLT]
  exact ⟨trivial, z, t, c, rfl, hg⟩
theorem gAdd_spec (B : MakeBodies E P) {b : Bd} {tb : List Blk} (hn : b.cl.length < 100000) {H : AH} (hH : SG r0 ks b g0 g2 tb H) (l : List Int) : ACalls E P 237 [.ptrL 2 0 g0, LI l] H fun r H' => r = .tup [] ∧ SG r0 ks ⟨b.vars, b.cl ++ [l]⟩ g0 g2 tb H' := by
  obtain ⟨z, t, c, rfl, hg⟩ := hH
  refine B.add _ _ _ _ ?_
  unfold F.pgate_builder_add
  simp only [nd0, Y1n, Y1o, Y1p, Y1q, Y1w, Y1x, Y1y, Y1z, Y20, Y21, Y28, Y2a, AV.cells?, Nat.reduceAdd, Nat.reduceMul]
  refine wNewS.F' (l := [LI l]) rfl rfl ?_
  refine wApp.one hg rfl (by simp) (.refl _) rfl (by simp [mostBytes]; omega) fun z' x' c' k' => ?_
  simp only [nd0, Y1n, Y1o, Y1p, Y1q, Y1w, Y1x, Y1y, Y1z, Y20, Y21, Y28, Y2a, AV.cells?, Nat.reduceAdd, Nat.reduceMul]
  rw [store1_L k'.scalar]
  simp only [nd0, Y1n, Y1o, Y1p, Y1q, Y1w, Y1x, Y1y, Y1z, Y20, Y21, Y28, Y2a, AV.cells?, Nat.reduceAdd, Nat.reduceMul, Nat.reduceLT]
  refine ⟨trivial, z', x', c', rfl, ?_⟩
  simpa using k'
theorem set_tail {a b c d w w' : Blk} {tb : List Blk} : (a :: b :: c :: d :: (tb ++ [w])).set (4 + tb.length) w' = a :: b :: c :: d :: (tb ++ [w']) := by
  rw [Nat.add_comm]; simp [List.set_append_right]
theorem get_tail {a b c d w : Blk} {tb : List Blk} : (a :: b :: c :: d :: (tb ++ [w]))[4 + tb.length]? = some w := by
  rw [Nat.add_comm]; simp
theorem SG.drop {b : Bd} {tb : List Blk} {w : Blk} {H : AH} {r : AV} (h : SG r0 ks b g0 g2 (tb ++ [w]) H) : ∃ H', Ghost [r] H [r] H' ∧ SG r0 ks b g0 g2 tb H' := by
  obtain ⟨z, t, c, rfl, hg⟩ := h
  exact ⟨_, ghost_drop (bs := r0 :: .map g2 (ks.map fun s => S s) (nums ks.length) :: .cells g0 3 [Z b.vars, t, .mapL 1 g2] :: z :: tb) w, z, t, c, rfl, hg⟩
/-- one more is put behind a slice of the caller's -/
theorem wApp.tl {b : Bd} {tb : List Blk} {w : Blk} {t : AV} {l : List Int} {x : Int} {H : AH} {K : Kt} (hg : Gr 1 w (4 + tb.length) t (l.map fun z => Z z) l.length) (hH : SG r0 ks b g0 g2 (tb ++ [w]) H) (hl : l.length < 100000)
    (hK : ∀ w' t' H', Gr 1 w' (4 + tb.length) t' ((l ++ [x]).map fun z => Z z) (l ++ [x]).length → SG r0 ks b g0 g2 (tb ++ [w']) H' → K t' H') : wApp 1 8 t (.slN [Z x] 1) H K := by
  obtain ⟨z, t0, c, rfl, hg0⟩ := hH
  refine wApp.one hg get_tail (by simp) (.refl _) rfl (by simp [mostBytes]; omega) fun z' x' c' k' => ?_
  rw [set_tail]
  exact hK z' x' _ (by simpa using k') ⟨z, t0, c', rfl, hg0⟩
theorem gAnd_spec (B : MakeBodies E P) {b : Bd} {tb : List Blk} {l : List Int} (hv : b.vars < 10000) (hn : b.cl.length + l.length < 10000) (hl : ∀ x ∈ l, -1000000 ≤ x ∧ x ≤ 1000000) {H : AH} (hH : SG r0 ks b g0 g2 tb H) :
    ACalls E P 236 [.ptrL 2 0 g0, LI l] H fun r H' => r = Z (andP l b).1 ∧ SG r0 ks (andP l b).2 g0 g2 tb H' := by
  refine ACalls.mono (R := fun r H' => r = Z (andP l b).1 ∧ ∃ w, SG r0 ks (andP l b).2 g0 g2 (tb ++ [w]) H') ?_ (fun r H' ⟨h1, w, h2⟩ => by
    obtain ⟨H2, q1, q2⟩ := h2.drop (r := r)
    exact ⟨r, H2, q1, h1, q2⟩)
  refine B.and _ _ _ _ ?_
  unfold F.pgate_builder_and
  refine ⟨_, gFresh_spec B (by omega) hH, ?_⟩
  rintro r H1 ⟨rfl, z, t, c, rfl, hg⟩
  refine wNewS.T (l := [Z ((b.vars + 1 : Nat) : Int)]) (l' := [Z ((b.vars + 1 : Nat) : Int)]) rfl (.refl _) rfl ?_
  simp only [nd0, Y1n, Y1o, Y1p, Y1q, Y1w, Y1x, Y1y, Y1z, Y20, Y21, Y28, Y2a, AV.cells?, Nat.reduceAdd, Nat.reduceMul]
  rw [show lenA (LI l) = some (Z l.length) from rfl]
  simp only [nd0, Y1n, Y1o, Y1p, Y1q, Y1w, Y1x, Y1y, Y1z, Y20, Y21, Y28, Y2a, AV.cells?, Nat.reduceAdd, Nat.reduceMul]
  refine wLoop.two (fun m t i H => ∃ pre rest w, l = pre ++ rest ∧ i = Z pre.length ∧ m = rest.length ∧ Gr 1 w (4 + tb.length) t ((((b.vars + 1 : Nat) : Int) :: negL pre).map fun z => Z z) (((b.vars + 1 : Nat) : Int) :: negL pre).length ∧ SG r0 ks ⟨b.vars + 1, b.cl ++ pre.map fun x => [-((b.vars + 1 : Nat) : Int), x]⟩ g0 g2 (tb ++ [w]) H) l.length
    (gh2.mk ⟨[], l, .tail c 1, rfl, rfl, rfl, by simp only [List.length_append, List.length_cons, List.length_nil, negL, List.map_nil, List.map_cons]; rw [Nat.add_comm 4]; exact .mk, z, t, c + 1, by simp, by simpa using hg⟩) ?_
  rintro m t i H ⟨pre, rest, w, hpr, rfl, rfl, hg, hH⟩
  have hpl : pre.length ≤ l.length := by rw [hpr]; simp
  cases rest with
  | nil =>
    rw [List.append_nil] at hpr
    subst hpr
    simp only [nd0, Y1n, Y1o, Y1p, Y1q, Y1w, Y1x, Y1y, Y1z, Y20, Y21, Y28, Y2a, AV.cells?, Nat.reduceAdd, Nat.reduceMul, Int.lt_irrefl]
    refine ⟨_, ACalls.args (ghost_sub (.cons (.refl _) (.one hg.sub))) (gAdd_spec B (by simp; omega) hH (((b.vars + 1 : Nat) : Int) :: negL l)), ?_⟩
    rintro r H2 ⟨rfl, h2⟩
    exact ⟨rfl, w, by simpa [andP] using h2⟩
  | cons x rest =>
    have hxm : x ∈ l := by rw [hpr]; simp
    have hlt : pre.length < l.length := by rw [hpr]; simp
    have hx := hl x hxm
    simp only [nd0, Y1n, Y1o, Y1p, Y1q, Y1w, Y1x, Y1y, Y1z, Y20, Y21, Y28, Y2a, AV.cells?, Nat.reduceAdd, Nat.reduceMul, decide_eq_true (show (pre.length : Int) < (l.length : Int) by omega)]
    unfold LI Lm
    rw [iaddr_Nn hlt]
    simp only [nd0, Y1n, Y1o, Y1p, Y1q, Y1w, Y1x, Y1y, Y1z, Y20, Y21, Y28, Y2a, AV.cells?, Nat.reduceAdd, Nat.reduceMul, show (l.map fun z => Z z)[pre.length]? = some (Z x) by rw [hpr]; simp]
    rw [neg_Z (by omega)]
    simp only [nd0, Y1n, Y1o, Y1p, Y1q, Y1w, Y1x, Y1y, Y1z, Y20, Y21, Y28, Y2a, AV.cells?, Nat.reduceAdd, Nat.reduceMul]
    refine wNewS.F' (l := [Z (-((b.vars + 1 : Nat) : Int)), Z x]) rfl rfl ?_
    refine ⟨_, gAdd_spec B (by simp; omega) hH [-((b.vars + 1 : Nat) : Int), x], ?_⟩
    rintro r H2 ⟨rfl, h2⟩
    rw [neg_Z (by omega)]
    simp only [nd0, Y1n, Y1o, Y1p, Y1q, Y1w, Y1x, Y1y, Y1z, Y20, Y21, Y28, Y2a, AV.cells?, Nat.reduceAdd, Nat.reduceMul]
    refine wNewS.F' (l := [Z (-x)]) rfl rfl ?_
    refine wApp.tl (l := ((b.vars + 1 : Nat) : Int) :: negL pre) (x := -x) hg h2 (by simp [negL]; omega) fun w' t' H' hg' hH' => ?_
    rw [binA_succ (by omega)]
    simp only [nd0, Y1n, Y1o, Y1p, Y1q, Y1w, Y1x, Y1y, Y1z, Y20, Y21, Y28, Y2a, AV.cells?, Nat.reduceAdd, Nat.reduceMul]
    refine back2.mk rest.length (by simp) ⟨pre ++ [x], rest, w', by rw [hpr]; simp, by simp, rfl, ?_, ?_⟩
    · simpa [negL] using hg'
    · simpa [List.append_assoc] using hH'
theorem look_nm {b : Bd} {tb : List Blk} {z : Blk} {t : AV} {c : Nat} (s : Str) : lookupA .string (.val (.int .i64 0)) false (.mapL 1 g2) (S s) ⟨r0 :: .map g2 (ks.map fun s => S s) (nums ks.length) :: .cells g0 3 [Z b.vars, t, .mapL 1 g2] :: z :: tb, c⟩ = some (Z (nmv ks s)) := by
  rw [lookupA_L (ks := ks.map fun s => S s) (vs := nums ks.length) rfl rfl]
  exact get_nm ks s
theorem nmv_le (ks : List Str) (s : Str) : 0 ≤ nmv ks s ∧ nmv ks s ≤ ks.length := by
  unfold nmv
  split
  · rename_i h; have := ixN_lt h; omega
  · omega
def LitOk (E : Env) (P : Program) (r0 : Blk) (ks : List Str) (x : Ex) : Prop := ∀ (g0 g2 : Nat) (b : Bd) (tb : List Blk) (H : AH), b.vars + x.size < 5000 → b.cl.length + 4 * x.size < 5000 → nmOk (nmv ks) b.vars x → (∀ c ∈ b.cl, okB b.vars c) → SG r0 ks b g0 g2 tb H →
  ACalls E P 235 [.ptrL 2 0 g0, x.enc] H fun r H' => r = Z (litP (nmv ks) x b).1 ∧ SG r0 ks (litP (nmv ks) x b).2 g0 g2 tb H'
theorem okLit_big {V : Nat} {x : Int} (h : okLit V x) (hv : V ≤ 10000) : -1000000 ≤ x ∧ x ≤ 1000000 := by unfold okLit at h; omega
theorem onL_split {Q Q' : Str → Prop} {x : Ex} {rest : List Ex} : ∀ {pre : List Ex}, Ex.onL Q Q' (pre ++ x :: rest) → Ex.onL Q Q' pre ∧ x.on Q Q'
  | [], h => ⟨trivial, h.1⟩
  | y :: pre, h => ⟨⟨h.1, (onL_split h.2).1⟩, (onL_split h.2).2⟩
/-- the parts of 'and' (of 'or': each turned) -/
theorem litL_loop (B : MakeBodies E P) (mode : Bool) (xs : List Ex) (hx : ∀ x ∈ xs, LitOk E P r0 ks x) {b : Bd} {tb : List Blk} (hv : b.vars + Ex.sizeL xs < 5000) (hn : b.cl.length + 4 * Ex.sizeL xs < 5000) (hnm : nmOkL (nmv ks) b.vars xs) (hb : ∀ c ∈ b.cl, okB b.vars c) {H0 : AH} (hH0 : SG r0 ks b g0 g2 tb H0) {R : Kt}
    (hR : ∀ t w H, SG r0 ks (litsP (nmv ks) xs b).2 g0 g2 (tb ++ [w]) H → Gr 1 w (4 + tb.length) t ((if mode then (litsP (nmv ks) xs b).1 else negL (litsP (nmv ks) xs b).1).map fun z => Z z) xs.length → R t H) :
    wLoop 2 (fun I1 => I1 (.val (.slice none 0 0)) (.val (.int .i64 0)) H0) fun I1 t10 t83 H =>
      wGet (binA .lss t83 (Z xs.length)) H fun t84 H =>
      wIf t84 (
        wGet (iaddr 1 (.slN (Ex.encL xs) xs.length) t83) H fun t85 H =>
        wGet (load1 t85 H) H fun t86 H =>
        wCall E P 235 [.ptrL 2 0 g0, t86] H fun t90 H =>
        wGet (if mode then some t90 else unA .neg t90) H fun t110 H =>
        wNewS 1 1 (fillA (List.replicate 1 [(.val (.int .i64 0))]).flatten [(0, 1, t110)]) H fun t91 H =>
        wApp 1 8 t10 t91 H fun t92 H =>
        wGet (binA .add t83 (.val (.int .i64 1))) H fun t93 H =>
        I1 t92 t93 H) (R t10 H) := by
  obtain ⟨z, t, c, rfl, hg⟩ := hH0
  refine wLoop.two (fun m t i H => ∃ pre rest w, xs = pre ++ rest ∧ i = Z pre.length ∧ m = rest.length ∧ Gr 1 w (4 + tb.length) t ((if mode then (litsP (nmv ks) pre b).1 else negL (litsP (nmv ks) pre b).1).map fun z => Z z) pre.length ∧ SG r0 ks (litsP (nmv ks) pre b).2 g0 g2 (tb ++ [w]) H) xs.length
    (gh2.of (ghost_room [.dead] (by simp)) ⟨[], xs, .dead, rfl, rfl, rfl, by cases mode <;> exact .nil, z, t, c, by simp [litsP], hg⟩) ?_
  rintro m t i H ⟨pre, rest, w, hpr, rfl, rfl, hg, hH⟩
  cases rest with
  | nil =>
    rw [List.append_nil] at hpr
    subst hpr
    simp only [nd0, Y1n, Y1o, Y1p, Y1q, Y1w, Y1x, Y1y, Y1z, Y20, Y21, Y28, Y2a, AV.cells?, Nat.reduceAdd, Nat.reduceMul, Int.lt_irrefl]
    exact hR _ _ _ hH hg
  | cons x rest =>
    have hxm : x ∈ xs := by rw [hpr]; simp
    have hlt : pre.length < xs.length := by rw [hpr]; simp
    have hsum : Ex.sizeL xs = Ex.sizeL pre + (x.size + Ex.sizeL rest) := by rw [hpr, sizeL_app]; rfl
    have hon : nmOkL (nmv ks) b.vars pre ∧ nmOk (nmv ks) b.vars x := by rw [hpr] at hnm; exact onL_split hnm
    have hv1 := litsP_vars (nmv ks) pre b
    have hc1 := litsP_cl (nmv ks) pre b
    have hl1 := litsP_len (nmv ks) pre b
    obtain ⟨ho1, ho2⟩ := litsP_ok (nmv ks) pre b hon.1 hb
    obtain ⟨ho3, ho4⟩ := litP_ok (nmv ks) x _ (nmOk_mono hon.2 hv1.1) ho2
    have hv2 := litP_vars (nmv ks) x (litsP (nmv ks) pre b).2
    have hlen := sizeL_len pre
    simp only [nd0, Y1n, Y1o, Y1p, Y1q, Y1w, Y1x, Y1y, Y1z, Y20, Y21, Y28, Y2a, AV.cells?, Nat.reduceAdd, Nat.reduceMul, decide_eq_true (show (pre.length : Int) < (xs.length : Int) by omega)]
    rw [iaddr_Nn hlt]
    simp only [nd0, Y1n, Y1o, Y1p, Y1q, Y1w, Y1x, Y1y, Y1z, Y20, Y21, Y28, Y2a, AV.cells?, Nat.reduceAdd, Nat.reduceMul, show (Ex.encL xs)[pre.length]? = some x.enc by rw [Ex.encL_map, hpr]; simp]
    refine ⟨_, hx x hxm g0 g2 _ _ _ (by omega) (by omega) (nmOk_mono hon.2 hv1.1) ho2 hH, ?_⟩
    rintro r H2 ⟨rfl, h2⟩
    have hbig := okLit_big ho3 (by omega)
    generalize hl : (litP (nmv ks) x (litsP (nmv ks) pre b).2).1 = y at hbig
    have happ : litsP (nmv ks) (pre ++ [x]) b = ((litsP (nmv ks) pre b).1 ++ [y], (litP (nmv ks) x (litsP (nmv ks) pre b).2).2) := by rw [litsP_app]; simp [litsP, hl]
    have stepR : wGet (if mode then some (Z y) else unA .neg (Z y)) H2 = wGet (some (Z (if mode then y else -y))) H2 := by cases mode <;> simp [neg_Z hbig]
    rw [stepR]
    simp only [nd0, Y1n, Y1o, Y1p, Y1q, Y1w, Y1x, Y1y, Y1z, Y20, Y21, Y28, Y2a, AV.cells?, Nat.reduceAdd, Nat.reduceMul]
    refine wNewS.F' (l := [Z (if mode then y else -y)]) rfl rfl ?_
    have hlm : (if mode then (litsP (nmv ks) pre b).1 else negL (litsP (nmv ks) pre b).1).length = pre.length := by cases mode <;> simp [negL, hl1]
    rw [← hlm] at hg
    refine wApp.tl (x := if mode then y else -y) hg h2 (by omega) fun w' t' H' hg' hH' => ?_
    rw [binA_succ (by omega)]
    simp only [nd0, Y1n, Y1o, Y1p, Y1q, Y1w, Y1x, Y1y, Y1z, Y20, Y21, Y28, Y2a, AV.cells?, Nat.reduceAdd, Nat.reduceMul]
    refine back2.mk rest.length (by simp) ⟨pre ++ [x], rest, w', by rw [hpr]; simp, by simp, rfl, ?_, ?_⟩
    · rw [happ]
      rw [List.length_append, hlm] at hg'
      cases mode
      · simpa [negL] using hg'
      · simpa using hg'
    · rw [happ]; exact hH'
set_option maxHeartbeats 2000000 in
theorem lit_spec (B : MakeBodies E P) (hks : ks.length < 1000) : ∀ (n : Nat) (x : Ex), x.wt < n → x.fine → LitOk E P r0 ks x := by
  intro n
  induction n with
  | zero => intro x hx; omega
  | succ n ih =>
    intro x hx hf g0 g2 b tb H hv hn hnm hb hH
    cases x with
    | bit s =>
      obtain ⟨z, t, c, rfl, hg⟩ := hH
      refine B.lit _ _ _ _ ?_
      unfold F.pgate_builder_lit
      simp only [Ex.enc]
      simp only [nd0, Y1n, Y1o, Y1p, Y1q, Y1w, Y1x, Y1y, Y1z, Y20, Y21, Y28, Y2a, AV.cells?, Nat.reduceAdd, Nat.reduceMul, asA, show (14 : Nat) = 14 ↔ True by decide]
      rw [look_nm]
      simp only [nd0, Y1n, Y1o, Y1p, Y1q, Y1w, Y1x, Y1y, Y1z, Y20, Y21, Y28, Y2a, AV.cells?, Nat.reduceAdd, Nat.reduceMul]
      exact ⟨rfl, z, t, c, rfl, hg⟩
    | rise s =>
      obtain ⟨z, t, c, rfl, hg⟩ := hH
      refine B.lit _ _ _ _ ?_
      unfold F.pgate_builder_lit
      simp only [Ex.enc]
      have h1 := nmv_le ks s
      have h2 := nmv_le ks (94 :: s)
      have hbig : ∀ y ∈ [nmv ks s, -nmv ks (94 :: s)], -1000000 ≤ y ∧ y ≤ 1000000 := two_mem (by omega) (by omega)
      have fin : ACalls E P 236 [.ptrL 2 0 g0, LI [nmv ks s, -nmv ks (94 :: s)]] ⟨r0 :: .map g2 (ks.map fun s => S s) (nums ks.length) :: .cells g0 3 [Z b.vars, t, .mapL 1 g2] :: z :: tb, c⟩ _ := gAnd_spec B (b := b) (tb := tb) (by omega) (by simp; omega) hbig ⟨z, t, c, rfl, hg⟩
      simp only [nd0, Y1n, Y1o, Y1p, Y1q, Y1w, Y1x, Y1y, Y1z, Y20, Y21, Y28, Y2a, AV.cells?, Nat.reduceAdd, Nat.reduceMul, asA, show (12 : Nat) = 14 ↔ False by decide, show (12 : Nat) = 12 ↔ True by decide]
      rw [show (AV.val (.string ⟨#[94]⟩)) = S [94] from rfl, binA_cat (s := [94]) (t := s) (by have := nameOk_len hf; simp; omega)]
      simp only [nd0, Y1n, Y1o, Y1p, Y1q, Y1w, Y1x, Y1y, Y1z, Y20, Y21, Y28, Y2a, AV.cells?, Nat.reduceAdd, Nat.reduceMul]
      have hrun : ∀ t48, t48 = LI [nmv ks s, -nmv ks (94 :: s)] → wCall E P 236 [.ptrL 2 0 g0, t48] ⟨r0 :: .map g2 (ks.map fun s => S s) (nums ks.length) :: .cells g0 3 [Z b.vars, t, .mapL 1 g2] :: z :: tb, c⟩ (fun r H' => r = Z (litP (nmv ks) (.rise s) b).1 ∧ SG r0 ks (litP (nmv ks) (.rise s) b).2 g0 g2 tb H') := fun t48 h => by
        subst h
        exact ⟨_, fin, fun r H' h => h⟩
      refine ⟨?_, ?_⟩
      · rw [look_nm]
        simp only [nd0, Y1n, Y1o, Y1p, Y1q, Y1w, Y1x, Y1y, Y1z, Y20, Y21, Y28, Y2a, AV.cells?, Nat.reduceAdd, Nat.reduceMul, and_self, true_and]
        rw [look_nm]
        simp only [nd0, Y1n, Y1o, Y1p, Y1q, Y1w, Y1x, Y1y, Y1z, Y20, Y21, Y28, Y2a, AV.cells?, Nat.reduceAdd, Nat.reduceMul, and_self, true_and]
        rw [neg_Z (by omega)]
        simp only [nd0, Y1n, Y1o, Y1p, Y1q, Y1w, Y1x, Y1y, Y1z, Y20, Y21, Y28, Y2a, AV.cells?, Nat.reduceAdd, Nat.reduceMul]
        refine wNewS.F' (l := [Z (nmv ks s), Z (-nmv ks (94 :: s))]) rfl rfl ?_
        exact hrun _ rfl
      · rw [look_nm]
        simp only [nd0, Y1n, Y1o, Y1p, Y1q, Y1w, Y1x, Y1y, Y1z, Y20, Y21, Y28, Y2a, AV.cells?, Nat.reduceAdd, Nat.reduceMul, and_self, true_and]
        rw [neg_Z (by omega)]
        simp only [nd0, Y1n, Y1o, Y1p, Y1q, Y1w, Y1x, Y1y, Y1z, Y20, Y21, Y28, Y2a, AV.cells?, Nat.reduceAdd, Nat.reduceMul]
        rw [look_nm]
        simp only [nd0, Y1n, Y1o, Y1p, Y1q, Y1w, Y1x, Y1y, Y1z, Y20, Y21, Y28, Y2a, AV.cells?, Nat.reduceAdd, Nat.reduceMul, and_self, true_and]
        refine wNewS.F' (l := [Z (nmv ks s), Z (-nmv ks (94 :: s))]) rfl rfl ?_
        exact hrun _ rfl
    | fall s =>
      obtain ⟨z, t, c, rfl, hg⟩ := hH
      refine B.lit _ _ _ _ ?_
      unfold F.pgate_builder_lit
      simp only [Ex.enc]
      have h1 := nmv_le ks s
      have h2 := nmv_le ks (94 :: s)
      have hbig : ∀ y ∈ [-nmv ks s, nmv ks (94 :: s)], -1000000 ≤ y ∧ y ≤ 1000000 := two_mem (by omega) (by omega)
      have fin : ACalls E P 236 [.ptrL 2 0 g0, LI [-nmv ks s, nmv ks (94 :: s)]] ⟨r0 :: .map g2 (ks.map fun s => S s) (nums ks.length) :: .cells g0 3 [Z b.vars, t, .mapL 1 g2] :: z :: tb, c⟩ _ := gAnd_spec B (b := b) (tb := tb) (by omega) (by simp; omega) hbig ⟨z, t, c, rfl, hg⟩
      simp only [nd0, Y1n, Y1o, Y1p, Y1q, Y1w, Y1x, Y1y, Y1z, Y20, Y21, Y28, Y2a, AV.cells?, Nat.reduceAdd, Nat.reduceMul, asA, show (13 : Nat) = 14 ↔ False by decide, show (13 : Nat) = 12 ↔ False by decide, show (13 : Nat) = 13 ↔ True by decide]
      rw [show (AV.val (.string ⟨#[94]⟩)) = S [94] from rfl, binA_cat (s := [94]) (t := s) (by have := nameOk_len hf; simp; omega)]
      simp only [nd0, Y1n, Y1o, Y1p, Y1q, Y1w, Y1x, Y1y, Y1z, Y20, Y21, Y28, Y2a, AV.cells?, Nat.reduceAdd, Nat.reduceMul]
      have hrun : ∀ t48, t48 = LI [-nmv ks s, nmv ks (94 :: s)] → wCall E P 236 [.ptrL 2 0 g0, t48] ⟨r0 :: .map g2 (ks.map fun s => S s) (nums ks.length) :: .cells g0 3 [Z b.vars, t, .mapL 1 g2] :: z :: tb, c⟩ (fun r H' => r = Z (litP (nmv ks) (.fall s) b).1 ∧ SG r0 ks (litP (nmv ks) (.fall s) b).2 g0 g2 tb H') := fun t48 h => by
        subst h
        exact ⟨_, fin, fun r H' h => h⟩
      refine ⟨?_, ?_⟩
      · rw [look_nm]
        simp only [nd0, Y1n, Y1o, Y1p, Y1q, Y1w, Y1x, Y1y, Y1z, Y20, Y21, Y28, Y2a, AV.cells?, Nat.reduceAdd, Nat.reduceMul, and_self, true_and]
        rw [neg_Z (by omega)]
        simp only [nd0, Y1n, Y1o, Y1p, Y1q, Y1w, Y1x, Y1y, Y1z, Y20, Y21, Y28, Y2a, AV.cells?, Nat.reduceAdd, Nat.reduceMul]
        rw [look_nm]
        simp only [nd0, Y1n, Y1o, Y1p, Y1q, Y1w, Y1x, Y1y, Y1z, Y20, Y21, Y28, Y2a, AV.cells?, Nat.reduceAdd, Nat.reduceMul, and_self, true_and]
        refine wNewS.F' (l := [Z (-nmv ks s), Z (nmv ks (94 :: s))]) rfl rfl ?_
        exact hrun _ rfl
      · rw [look_nm]
        simp only [nd0, Y1n, Y1o, Y1p, Y1q, Y1w, Y1x, Y1y, Y1z, Y20, Y21, Y28, Y2a, AV.cells?, Nat.reduceAdd, Nat.reduceMul, and_self, true_and]
        rw [look_nm]
        simp only [nd0, Y1n, Y1o, Y1p, Y1q, Y1w, Y1x, Y1y, Y1z, Y20, Y21, Y28, Y2a, AV.cells?, Nat.reduceAdd, Nat.reduceMul, and_self, true_and]
        rw [neg_Z (by omega)]
        simp only [nd0, Y1n, Y1o, Y1p, Y1q, Y1w, Y1x, Y1y, Y1z, Y20, Y21, Y28, Y2a, AV.cells?, Nat.reduceAdd, Nat.reduceMul]
        refine wNewS.F' (l := [Z (-nmv ks s), Z (nmv ks (94 :: s))]) rfl rfl ?_
        exact hrun _ rfl
    | k v =>
      simp only [Ex.size] at hv hn
      refine B.lit _ _ _ _ ?_
      unfold F.pgate_builder_lit
      simp only [Ex.enc]
      simp only [nd0, Y1n, Y1o, Y1p, Y1q, Y1w, Y1x, Y1y, Y1z, Y20, Y21, Y28, Y2a, AV.cells?, Nat.reduceAdd, Nat.reduceMul, asA, show (11 : Nat) = 14 ↔ False by decide, show (11 : Nat) = 12 ↔ False by decide, show (11 : Nat) = 13 ↔ False by decide, show (11 : Nat) = 10 ↔ False by decide, show (11 : Nat) = 9 ↔ False by decide, show (11 : Nat) = 8 ↔ False by decide]
      refine ⟨_, gFresh_spec B (by omega) hH, ?_⟩
      rintro r H1 ⟨rfl, h1⟩
      refine wJoin.zero (SG r0 ks (constP v b).2 g0 g2 tb) ?_ fun H hH => ⟨rfl, hH⟩
      cases v with
      | true =>
        simp only [nd0, Y1n, Y1o, Y1p, Y1q, Y1w, Y1x, Y1y, Y1z, Y20, Y21, Y28, Y2a, AV.cells?, Nat.reduceAdd, Nat.reduceMul]
        refine wNewS.F' (l := [Z ((b.vars + 1 : Nat) : Int)]) rfl rfl ?_
        refine ⟨_, gAdd_spec B (by simp; omega) h1 [((b.vars + 1 : Nat) : Int)], ?_⟩
        rintro r H2 ⟨rfl, h2⟩
        exact gh0.mk h2
      | false =>
        simp only [nd0, Y1n, Y1o, Y1p, Y1q, Y1w, Y1x, Y1y, Y1z, Y20, Y21, Y28, Y2a, AV.cells?, Nat.reduceAdd, Nat.reduceMul]
        rw [neg_Z (by omega)]
        simp only [nd0, Y1n, Y1o, Y1p, Y1q, Y1w, Y1x, Y1y, Y1z, Y20, Y21, Y28, Y2a, AV.cells?, Nat.reduceAdd, Nat.reduceMul]
        refine wNewS.F' (l := [Z (-((b.vars + 1 : Nat) : Int))]) rfl rfl ?_
        refine ⟨_, gAdd_spec B (by simp; omega) h1 [-((b.vars + 1 : Nat) : Int)], ?_⟩
        rintro r H2 ⟨rfl, h2⟩
        exact gh0.mk h2
    | not y =>
      simp only [Ex.size] at hv hn
      simp only [Ex.wt] at hx
      refine ACalls.mono (R := fun r H' => r = Z (litP (nmv ks) (.not y) b).1 ∧ ∃ w, SG r0 ks (litP (nmv ks) (.not y) b).2 g0 g2 (tb ++ [w]) H') ?_ (fun r H' ⟨h1, w, h2⟩ => by
        obtain ⟨H2, q1, q2⟩ := h2.drop (r := r)
        exact ⟨r, H2, q1, h1, q2⟩)
      refine B.lit _ _ _ _ ?_
      unfold F.pgate_builder_lit
      simp only [Ex.enc]
      obtain ⟨z, t, c, rfl, hg⟩ := hH
      simp only [nd0, Y1n, Y1o, Y1p, Y1q, Y1w, Y1x, Y1y, Y1z, Y20, Y21, Y28, Y2a, AV.cells?, Nat.reduceAdd, Nat.reduceMul, asA, show (10 : Nat) = 14 ↔ False by decide, show (10 : Nat) = 12 ↔ False by decide, show (10 : Nat) = 13 ↔ False by decide, show (10 : Nat) = 10 ↔ True by decide]
      refine wNew.L (l := [nilE]) rfl ?_
      simp only [nd0, Y1n, Y1o, Y1p, Y1q, Y1w, Y1x, Y1y, Y1z, Y20, Y21, Y28, Y2a, AV.cells?, Nat.reduceAdd, Nat.reduceMul]
      have hb3 : (r0 :: .map g2 (ks.map fun s => S s) (nums ks.length) :: .cells g0 3 [Z b.vars, t, .mapL 1 g2] :: z :: (tb ++ [.cells c 1 [nilE]]))[tb.length + 1 + 1 + 1 + 1]? = some (.cells c 1 [nilE]) := by simp
      have hst : storeN 1 (.ptrL (tb.length + 1 + 1 + 1 + 1) 0 c) (.agg [y.enc]) ⟨r0 :: .map g2 (ks.map fun s => S s) (nums ks.length) :: .cells g0 3 [Z b.vars, t, .mapL 1 g2] :: z :: (tb ++ [.cells c 1 [nilE]]), c + 1⟩ = some ⟨r0 :: .map g2 (ks.map fun s => S s) (nums ks.length) :: .cells g0 3 [Z b.vars, t, .mapL 1 g2] :: z :: (tb ++ [.cells c 1 [y.enc]]), c + 1⟩ := by
        rw [storeN_L (n := 1) (xs := [y.enc]) rfl (by simp [Ex.enc_scalar]), hb3, blkDo_self]
        simp [putL]
      refine ⟨⟨_, hst, ?_⟩⟩
      refine ⟨y.enc, ?_, ?_⟩
      · simp [blkCells]
      have hon : nmOk (nmv ks) b.vars y := hnm
      obtain ⟨ho1, ho2⟩ := litP_ok (nmv ks) y b hon hb
      have hv1 := litP_vars (nmv ks) y b
      refine ⟨_, ih y (by omega) hf g0 g2 b (tb ++ [.cells c 1 [y.enc]]) _ (by omega) (by omega) hon hb ⟨z, t, c + 1, rfl, hg⟩, ?_⟩
      rintro r H2 ⟨rfl, h2⟩
      rw [neg_Z (okLit_big ho1 (by omega))]
      simp only [nd0, Y1n, Y1o, Y1p, Y1q, Y1w, Y1x, Y1y, Y1z, Y20, Y21, Y28, Y2a, AV.cells?, Nat.reduceAdd, Nat.reduceMul]
      exact ⟨rfl, _, h2⟩
    | and xs =>
      simp only [Ex.size] at hv hn
      simp only [Ex.wt] at hx
      refine ACalls.mono (R := fun r H' => r = Z (litP (nmv ks) (.and xs) b).1 ∧ ∃ w, SG r0 ks (litP (nmv ks) (.and xs) b).2 g0 g2 (tb ++ [w]) H') ?_ (fun r H' ⟨h1, w, h2⟩ => by
        obtain ⟨H2, q1, q2⟩ := h2.drop (r := r)
        exact ⟨r, H2, q1, h1, q2⟩)
      refine B.lit _ _ _ _ ?_
      unfold F.pgate_builder_lit
      simp only [Ex.enc]
      simp only [nd0, Y1n, Y1o, Y1p, Y1q, Y1w, Y1x, Y1y, Y1z, Y20, Y21, Y28, Y2a, AV.cells?, Nat.reduceAdd, Nat.reduceMul, asA, show (9 : Nat) = 14 ↔ False by decide, show (9 : Nat) = 12 ↔ False by decide, show (9 : Nat) = 13 ↔ False by decide, show (9 : Nat) = 10 ↔ False by decide, show (9 : Nat) = 9 ↔ True by decide]
      obtain ⟨ho1, ho2⟩ := litsP_ok (nmv ks) xs b hnm hb
      have hv1 := litsP_vars (nmv ks) xs b
      have hc1 := litsP_cl (nmv ks) xs b
      have hl1 := litsP_len (nmv ks) xs b
      have := litL_loop (ks := ks) (g0 := g0) (g2 := g2) (r0 := r0) B true xs (fun y hy => ih y (by have := Ex.wt_mem hy; omega) (Ex.fine_mem hf.2 hy)) (b := b) (tb := tb) (by omega) (by omega) hnm hb hH (R := fun t10 H => wCall E P 236 [.ptrL 2 0 g0, t10] H fun t96 H => t96 = Z (litP (nmv ks) (.and xs) b).1 ∧ ∃ w, SG r0 ks (litP (nmv ks) (.and xs) b).2 g0 g2 (tb ++ [w]) H) fun t w H hH hg => ?_
      · simp only [if_true, wGet_some] at this
        exact this
      · have hg' : Gr 1 w (4 + tb.length) t ((litsP (nmv ks) xs b).1.map fun z => Z z) (litsP (nmv ks) xs b).1.length := by rw [hl1]; exact hg
        refine ⟨_, ACalls.args (ghost_sub (.cons (.refl _) (.one hg'.sub))) (gAnd_spec B (l := (litsP (nmv ks) xs b).1) (by omega) (by omega) (fun y hy => okLit_big (ho1 y hy) (by omega)) hH), fun r H' h => ⟨h.1, w, h.2⟩⟩
    | or xs =>
      simp only [Ex.size] at hv hn
      simp only [Ex.wt] at hx
      refine ACalls.mono (R := fun r H' => r = Z (litP (nmv ks) (.or xs) b).1 ∧ ∃ w, SG r0 ks (litP (nmv ks) (.or xs) b).2 g0 g2 (tb ++ [w]) H') ?_ (fun r H' ⟨h1, w, h2⟩ => by
        obtain ⟨H2, q1, q2⟩ := h2.drop (r := r)
        exact ⟨r, H2, q1, h1, q2⟩)
      refine B.lit _ _ _ _ ?_
      unfold F.pgate_builder_lit
      simp only [Ex.enc]
      simp only [nd0, Y1n, Y1o, Y1p, Y1q, Y1w, Y1x, Y1y, Y1z, Y20, Y21, Y28, Y2a, AV.cells?, Nat.reduceAdd, Nat.reduceMul, asA, show (8 : Nat) = 14 ↔ False by decide, show (8 : Nat) = 12 ↔ False by decide, show (8 : Nat) = 13 ↔ False by decide, show (8 : Nat) = 10 ↔ False by decide, show (8 : Nat) = 9 ↔ False by decide, show (8 : Nat) = 8 ↔ True by decide]
      obtain ⟨ho1, ho2⟩ := litsP_ok (nmv ks) xs b hnm hb
      have hv1 := litsP_vars (nmv ks) xs b
      have hc1 := litsP_cl (nmv ks) xs b
      have hl1 := litsP_len (nmv ks) xs b
      have := litL_loop (ks := ks) (g0 := g0) (g2 := g2) (r0 := r0) B false xs (fun y hy => ih y (by have := Ex.wt_mem hy; omega) (Ex.fine_mem hf.2 hy)) (b := b) (tb := tb) (by omega) (by omega) hnm hb hH (R := fun t10 H => wCall E P 236 [.ptrL 2 0 g0, t10] H fun t96 H => wGet (unA .neg t96) H fun t97 H => t97 = Z (litP (nmv ks) (.or xs) b).1 ∧ ∃ w, SG r0 ks (litP (nmv ks) (.or xs) b).2 g0 g2 (tb ++ [w]) H) fun t w H hH hg => ?_
      · simp only [Bool.false_eq_true, if_false] at this
        exact this
      · have hg' : Gr 1 w (4 + tb.length) t ((negL (litsP (nmv ks) xs b).1).map fun z => Z z) (negL (litsP (nmv ks) xs b).1).length := by rw [negL_len, hl1]; exact hg
        refine ⟨_, ACalls.args (ghost_sub (.cons (.refl _) (.one hg'.sub))) (gAnd_spec B (l := negL (litsP (nmv ks) xs b).1) (by omega) (by rw [negL_len]; omega) (fun y hy => okLit_big (okB_neg ho1 y hy) (by omega)) hH), fun r H' h => ?_⟩
        obtain ⟨rfl, h2⟩ := h
        rw [neg_Z (by simp only [andP]; omega)]
        simp only [nd0, Y1n, Y1o, Y1p, Y1q, Y1w, Y1x, Y1y, Y1z, Y20, Y21, Y28, Y2a, AV.cells?, Nat.reduceAdd, Nat.reduceMul]
        exact ⟨rfl, w, h2⟩
end
end Go.Sc
namespace Go.Sc
open Go
set_option linter.unusedSimpArgs false
set_option linter.unusedVariables false
set_option linter.unnecessarySimpa false
theorem ltnodup {l : List Str} (h : l.Pairwise (· < ·)) : l.Nodup := h.imp fun {a b} h (e : a = b) => List.lt_irrefl b (e ▸ h)
theorem names_nodup (x : Ex) : x.names.Nodup := ltnodup (onceS_strict _)
section
variable {E : Env} {P : Program}
end
end Go.Sc
namespace Go.Sc
open Go
set_option linter.unusedSimpArgs false
set_option linter.unusedVariables false
set_option linter.unnecessarySimpa false
mutual
theorem Ex.raw_ok : ∀ x : Ex, x.fine → ∀ s ∈ x.raw nf1, nameOk s = true
  | .k _, _, s, h => by simp [Ex.raw, nmL, nf1] at h
  | .bit t, hf, s, h => by
    simp [Ex.raw, nmL, nf1, nameOk_ne hf] at h
    subst h; exact hf
  | .rise t, hf, s, h => by
    simp [Ex.raw, nmL, nf1, nameOk_ne hf] at h
    subst h; exact hf
  | .fall t, hf, s, h => by
    simp [Ex.raw, nmL, nf1, nameOk_ne hf] at h
    subst h; exact hf
  | .not y, hf, s, h => by
    simp [Ex.raw, nmL, nf1] at h
    exact Ex.raw_ok y hf s h
  | .and l, hf, s, h => by
    simp [Ex.raw, nmL, nf1] at h
    exact Ex.rawL_ok l hf.2 s h
  | .or l, hf, s, h => by
    simp [Ex.raw, nmL, nf1] at h
    exact Ex.rawL_ok l hf.2 s h
theorem Ex.rawL_ok : ∀ l : List Ex, Ex.fineL l → ∀ s ∈ Ex.rawL nf1 l, nameOk s = true
  | [], _, s, h => by simp [Ex.rawL] at h
  | x :: l, hf, s, h => by
    simp only [Ex.rawL, List.mem_append] at h
    rcases h with h | h
    · exact Ex.raw_ok x hf.1 s h
    · exact Ex.rawL_ok l hf.2 s h
end
theorem names_ok {x : Ex} (hf : x.fine) {s : Str} (h : s ∈ x.names) : nameOk s = true := Ex.raw_ok x hf s (onceS_mem.1 h)
theorem edges_ok {x : Ex} (hf : x.fine) {s : Str} (h : s ∈ x.edges) : nameOk s = true := Ex.raw_ok x hf s (Ex.edge_name x s (onceS_mem.1 h))
theorem not_hat {s t : Str} (h : nameOk s = true) : s ≠ 94 :: t := by
  rintro rfl
  simp only [nameOk, Bool.and_eq_true] at h
  exact absurd h.1.1.1 (by decide)
theorem edges_nodup (x : Ex) : x.edges.Nodup := ltnodup (onceS_strict _)
def hats (l : List Str) : List Str := l.map fun s => 94 :: s
theorem hats_mem {l : List Str} {s : Str} : 94 :: s ∈ hats l ↔ s ∈ l := by simp [hats]
def gks (x : Ex) : List Str := x.names ++ hats x.edges
def gateP (x : Ex) : Int × Bd := litP (nmv (gks x)) x ⟨(gks x).length, []⟩
def OfA (x : Ex) : AV := .tup [Cl (gateP x).2.vars (gateP x).2.cl, Z (gateP x).1, nilE]
theorem names_len (x : Ex) : x.names.length ≤ x.size := by have := onceS_length (x.raw nf1); have := Ex.raw_len nf1 x; unfold Ex.names; omega
theorem edges_len (x : Ex) : x.edges.length ≤ x.size := by have := onceS_length (x.raw nf2); have := Ex.raw_len nf2 x; unfold Ex.edges; omega
theorem gks_len (x : Ex) : (gks x).length = x.names.length + x.edges.length := by simp [gks, hats]
theorem gks_name {x : Ex} {s : Str} (h : s ∈ x.names) : nmv (gks x) s = ((ixN x.names s + 1 : Nat) : Int) := by
  obtain ⟨pre, rest, e, hn⟩ := mem_split h
  unfold nmv gks
  rw [if_pos (List.mem_append_left _ h), e, List.append_assoc, List.cons_append, ixN_app hn, ixN_app hn]
theorem gks_edge {x : Ex} (hf : x.fine) {s : Str} (h : s ∈ x.edges) : nmv (gks x) (94 :: s) = ((x.names.length + ixN x.edges s + 1 : Nat) : Int) := by
  obtain ⟨pre, rest, e, hn⟩ := mem_split h
  have hno : 94 :: s ∉ x.names ++ hats pre := by
    rw [List.mem_append, hats_mem]
    rintro (k | k)
    · exact not_hat (names_ok hf k) rfl
    · exact hn k
  have hg : gks x = (x.names ++ hats pre) ++ (94 :: s) :: hats rest := by unfold gks; rw [e]; simp [hats]
  have hix : ixN x.edges s = pre.length := by rw [e, ixN_app hn]
  unfold nmv
  rw [hix, hg, if_pos (by simp), ixN_app hno]
  simp [hats]
theorem gks_ok {x : Ex} (hf : x.fine) : nmOk (nmv (gks x)) (gks x).length x := by
  refine Ex.on_of x hf (fun s h => ?_) (fun s h => ?_)
  · have h' : s ∈ x.names := onceS_mem.2 h
    have := ixN_lt h'
    rw [gks_name h', gks_len]
    unfold okLit; omega
  · have h' : s ∈ x.edges := onceS_mem.2 h
    have := ixN_lt h'
    rw [gks_edge hf h', gks_len]
    unfold okLit; omega
theorem gateP_ok {x : Ex} (hf : x.fine) : okLit (gateP x).2.vars (gateP x).1 ∧ ∀ c ∈ (gateP x).2.cl, okB (gateP x).2.vars c := litP_ok _ x _ (gks_ok hf) (by simp)
theorem gateP_vars (x : Ex) : (gks x).length ≤ (gateP x).2.vars ∧ (gateP x).2.vars ≤ 3 * x.size := by
  have h1 := litP_vars (nmv (gks x)) x ⟨(gks x).length, []⟩
  have h2 := names_len x
  have h3 := edges_len x
  have h4 := gks_len x
  unfold gateP
  simp only at h1 ⊢
  omega
theorem gateP_cl (x : Ex) : (gateP x).2.cl.length + 1 ≤ 4 * x.size := by
  have h1 := litP_cl (nmv (gks x)) x ⟨(gks x).length, []⟩
  unfold gateP
  simp only [List.length_nil] at h1 ⊢
  omega
theorem nums_succ (n : Nat) : nums n ++ [Z ((n + 1 : Nat) : Int)] = nums (n + 1) := by simp [nums, List.range_succ]
structure OfBodies (E : Env) (P : Program) : Prop extends MakeBodies E P where
  d : SortedBodies E P
  z : SizeBodies E P
section
variable {E : Env} {P : Program}
theorem Of_big (B : OfBodies E P) (x : Ex) (hw : x.wt ≤ 1000000) (hf : x.fine) (hs : 300 < x.size) : FX E P 233 [x.enc] (.tup [.agg [Z 0, nilS], Z 0, .ifc 1 (Z 4)]) := by
  refine FX.of' ⟨Ex.enc_closed x, trivial⟩ (by simp [AV.closed, AV.closedL]) fun n R hR => B.of _ _ _ ?_
  unfold F.gate_Of
  refine wNew.L (l := [Z 0, nilS]) rfl ?_
  simp only [nd0, Y1n, Y1o, Y1p, Y1q, Y1w, Y1x, Y1y, Y1z, Y20, Y21, Y28, Y2a, AV.cells?, Nat.reduceAdd, Nat.reduceMul, Ex.enc_nil]
  refine wCall.fx (Size_spec B.z x hw hf) fun n => ?_
  simp only [nd0, Y1n, Y1o, Y1p, Y1q, Y1w, Y1x, Y1y, Y1z, Y20, Y21, Y28, Y2a, AV.cells?, Nat.reduceAdd, Nat.reduceMul, decide_eq_true (show (300 : Int) < (x.size : Int) by omega)]
  refine ⟨⟨[Z 0, nilS], rfl, ?_⟩⟩
  rw [storeN_L (n := 2) (xs := [Z 0, nilS]) rfl rfl]
  simp only [nd0, Y1n, Y1o, Y1p, Y1q, Y1w, Y1x, Y1y, Y1z, Y20, Y21, Y28, Y2a, AV.cells?, Nat.reduceAdd, Nat.reduceMul, put_two]
  exact ⟨_, rfl, hR _ _ rfl⟩
/-- its clauses may still grow -/
def OfG (x : Ex) (r : AV) (H : AH) : Prop := ∃ t b0 b1 b2 z c, r = .tup [.agg [Z (gateP x).2.vars, t], Z (gateP x).1, nilE] ∧ Gr 1 z 3 t ((gateP x).2.cl.map LI) (gateP x).2.cl.length ∧ H = ⟨[b0, b1, b2, z], c⟩
theorem Of_grow (B : OfBodies E P) (x : Ex) (hw : x.wt ≤ 1000000) (hf : x.fine) (hs : x.size ≤ 300) (n : Nat) : ACalls E P 233 [x.enc] ⟨[], n⟩ (OfG x) := by
  refine B.of _ _ _ ?_
  unfold F.gate_Of
  refine wNew.L (l := [Z 0, nilS]) rfl ?_
  simp only [nd0, Y1n, Y1o, Y1p, Y1q, Y1w, Y1x, Y1y, Y1z, Y20, Y21, Y28, Y2a, AV.cells?, Nat.reduceAdd, Nat.reduceMul, Ex.enc_nil]
  refine wCall.fx (Size_spec B.z x hw hf) fun n1 => ?_
  simp only [nd0, Y1n, Y1o, Y1p, Y1q, Y1w, Y1x, Y1y, Y1z, Y20, Y21, Y28, Y2a, AV.cells?, Nat.reduceAdd, Nat.reduceMul, decide_eq_false (show ¬ (300 : Int) < (x.size : Int) by omega)]
  refine wMapN.L ?_
  simp only [nd0, Y1n, Y1o, Y1p, Y1q, Y1w, Y1x, Y1y, Y1z, Y20, Y21, Y28, Y2a, AV.cells?, Nat.reduceAdd, Nat.reduceMul]
  refine ⟨⟨[Z 0, nilS, .mapL 1 n1], rfl, ?_⟩⟩
  refine wNew.L (l := [Z 0, nilS, .mapL 1 n1]) rfl ?_
  simp only [nd0, Y1n, Y1o, Y1p, Y1q, Y1w, Y1x, Y1y, Y1z, Y20, Y21, Y28, Y2a, AV.cells?, Nat.reduceAdd, Nat.reduceMul]
  refine wCall.fx (Names_spec B.d x hw hf) fun n2 => ?_
  have hnl := names_len x
  have hel := edges_len x
  rw [Lm_S]
  simp only [nd0, Y1n, Y1o, Y1p, Y1q, Y1w, Y1x, Y1y, Y1z, Y20, Y21, Y28, Y2a, AV.cells?, Nat.reduceAdd, Nat.reduceMul]
  refine wLoop.one (fun m i H => ∃ pre rest, x.names = pre ++ rest ∧ i = Z pre.length ∧ m = rest.length ∧ SG (.cells n 2 [Z 0, nilS]) pre ⟨pre.length, []⟩ (n1 + 1) n1 [] H) x.names.length
    (gh1.of (ghost_room [.dead] (by simp)) ⟨[], x.names, rfl, rfl, rfl, .dead, nilS, _, rfl, .nil⟩) ?_
  rintro m i H ⟨pre, rest, hpr, rfl, rfl, hH⟩
  have hpl : pre.length + rest.length = x.names.length := by rw [hpr]; simp
  cases rest with
  | cons s rest =>
    have hlt : pre.length < x.names.length := by rw [hpr]; simp
    have hns : s ∉ pre := by
      have := names_nodup x
      rw [hpr, List.nodup_append] at this
      exact fun h => this.2.2 s h s (by simp) rfl
    obtain ⟨z, t, c, rfl, hg⟩ := hH
    simp only [nd0, Y1n, Y1o, Y1p, Y1q, Y1w, Y1x, Y1y, Y1z, Y20, Y21, Y28, Y2a, AV.cells?, Nat.reduceAdd, Nat.reduceMul, decide_eq_true (show (pre.length : Int) < (x.names.length : Int) by omega)]
    rw [iaddr_Nn hlt]
    simp only [nd0, Y1n, Y1o, Y1p, Y1q, Y1w, Y1x, Y1y, Y1z, Y20, Y21, Y28, Y2a, AV.cells?, Nat.reduceAdd, Nat.reduceMul, show (x.names.map fun s => S s)[pre.length]? = some (S s) by rw [hpr]; simp]
    refine ⟨_, gFresh_spec B.toMakeBodies (b := ⟨pre.length, []⟩) (by simp only; omega) ⟨z, t, c, rfl, hg⟩, ?_⟩
    rintro r H1 ⟨rfl, z, t, c, rfl, hg⟩
    simp only [nd0, Y1n, Y1o, Y1p, Y1q, Y1w, Y1x, Y1y, Y1z, Y20, Y21, Y28, Y2a, AV.cells?, Nat.reduceAdd, Nat.reduceMul, and_self, true_and]
    rw [insertA_new rfl rfl (by rw [findK_S, if_neg hns])]
    simp only [nd0, Y1n, Y1o, Y1p, Y1q, Y1w, Y1x, Y1y, Y1z, Y20, Y21, Y28, Y2a, AV.cells?, Nat.reduceAdd, Nat.reduceMul]
    rw [binA_succ (by omega)]
    simp only [nd0, Y1n, Y1o, Y1p, Y1q, Y1w, Y1x, Y1y, Y1z, Y20, Y21, Y28, Y2a, AV.cells?, Nat.reduceAdd, Nat.reduceMul]
    refine back1.mk rest.length (by simp) ⟨pre ++ [s], rest, by rw [hpr]; simp, by simp, rfl, z, t, c, ?_, by simpa using hg⟩
    have := nums_succ pre.length
    simpa using this
  | nil =>
  rw [List.append_nil] at hpr
  subst hpr
  simp only [nd0, Y1n, Y1o, Y1p, Y1q, Y1w, Y1x, Y1y, Y1z, Y20, Y21, Y28, Y2a, AV.cells?, Nat.reduceAdd, Nat.reduceMul, Int.lt_irrefl]
  obtain ⟨z, t, c, rfl, hg⟩ := hH
  refine wCall.fx (Edges_spec B.d x hw hf) fun n2 => ?_
  rw [Lm_S]
  simp only [nd0, Y1n, Y1o, Y1p, Y1q, Y1w, Y1x, Y1y, Y1z, Y20, Y21, Y28, Y2a, AV.cells?, Nat.reduceAdd, Nat.reduceMul]
  refine wLoop.one (fun m i H => ∃ pre rest, x.edges = pre ++ rest ∧ i = Z pre.length ∧ m = rest.length ∧ SG (.cells n 2 [Z 0, nilS]) (x.names ++ hats pre) ⟨x.names.length + pre.length, []⟩ (n1 + 1) n1 [] H) x.edges.length
    (gh1.mk ⟨[], x.edges, rfl, rfl, rfl, z, t, n2, by simp [hats], hg⟩) ?_
  rintro m i H ⟨pre, rest, hpr, rfl, rfl, hH⟩
  have hpl : pre.length + rest.length = x.edges.length := by rw [hpr]; simp
  cases rest with
  | cons s rest =>
    have hlt : pre.length < x.edges.length := by rw [hpr]; simp
    have hok : nameOk s = true := edges_ok hf (by rw [hpr]; simp)
    have hlen := nameOk_len hok
    have hns : 94 :: s ∉ x.names ++ hats pre := by
      rw [List.mem_append, hats_mem]
      rintro (k | k)
      · exact not_hat (names_ok hf k) rfl
      · have := edges_nodup x
        rw [hpr, List.nodup_append] at this
        exact this.2.2 s k s (by simp) rfl
    obtain ⟨z, t, c, rfl, hg⟩ := hH
    simp only [nd0, Y1n, Y1o, Y1p, Y1q, Y1w, Y1x, Y1y, Y1z, Y20, Y21, Y28, Y2a, AV.cells?, Nat.reduceAdd, Nat.reduceMul, decide_eq_true (show (pre.length : Int) < (x.edges.length : Int) by omega)]
    rw [iaddr_Nn hlt]
    simp only [nd0, Y1n, Y1o, Y1p, Y1q, Y1w, Y1x, Y1y, Y1z, Y20, Y21, Y28, Y2a, AV.cells?, Nat.reduceAdd, Nat.reduceMul, show (x.edges.map fun s => S s)[pre.length]? = some (S s) by rw [hpr]; simp]
    rw [show (AV.val (.string ⟨#[94]⟩)) = S [94] from rfl, binA_cat (s := [94]) (t := s) (by simp; omega)]
    simp only [nd0, Y1n, Y1o, Y1p, Y1q, Y1w, Y1x, Y1y, Y1z, Y20, Y21, Y28, Y2a, AV.cells?, Nat.reduceAdd, Nat.reduceMul]
    refine ⟨_, gFresh_spec B.toMakeBodies (b := ⟨x.names.length + pre.length, []⟩) (by simp only; omega) ⟨z, t, c, rfl, hg⟩, ?_⟩
    rintro r H1 ⟨rfl, z, t, c, rfl, hg⟩
    simp only [nd0, Y1n, Y1o, Y1p, Y1q, Y1w, Y1x, Y1y, Y1z, Y20, Y21, Y28, Y2a, AV.cells?, Nat.reduceAdd, Nat.reduceMul, and_self, true_and]
    rw [insertA_new rfl rfl (by rw [findK_S, if_neg hns])]
    simp only [nd0, Y1n, Y1o, Y1p, Y1q, Y1w, Y1x, Y1y, Y1z, Y20, Y21, Y28, Y2a, AV.cells?, Nat.reduceAdd, Nat.reduceMul]
    rw [binA_succ (by omega)]
    simp only [nd0, Y1n, Y1o, Y1p, Y1q, Y1w, Y1x, Y1y, Y1z, Y20, Y21, Y28, Y2a, AV.cells?, Nat.reduceAdd, Nat.reduceMul]
    refine back1.mk rest.length (by simp) ⟨pre ++ [s], rest, by rw [hpr]; simp, by simp, rfl, z, t, c, ?_, by simpa using hg⟩
    have e : x.names ++ hats (pre ++ [s]) = (x.names ++ hats pre) ++ [94 :: s] := by simp [hats]
    have e2 : (x.names ++ hats pre).length = x.names.length + pre.length := by simp [hats]
    have e3 : (x.names ++ hats (pre ++ [s])).length = x.names.length + pre.length + 1 := by simp [hats]; omega
    rw [e3, ← nums_succ, e, List.map_append]
    rw [e2]
    simp [Nat.add_assoc]
  | nil =>
  rw [List.append_nil] at hpr
  subst hpr
  simp only [nd0, Y1n, Y1o, Y1p, Y1q, Y1w, Y1x, Y1y, Y1z, Y20, Y21, Y28, Y2a, AV.cells?, Nat.reduceAdd, Nat.reduceMul, Int.lt_irrefl]
  have hv := gateP_vars x
  have hcl := gateP_cl x
  have hH' : SG (.cells n 2 [Z 0, nilS]) (gks x) ⟨(gks x).length, []⟩ (n1 + 1) n1 [] H := by rw [gks_len]; exact hH
  have hgl := gks_len x
  refine ⟨_, lit_spec B.toMakeBodies (by omega) (x.wt + 1) x (by omega) hf _ _ ⟨(gks x).length, []⟩ [] H (by simp only; omega) (by simp only [List.length_nil]; omega) (gks_ok hf) (by simp) hH', ?_⟩
  rintro r H1 ⟨rfl, z, t, c, rfl, hg⟩
  simp only [nd0, Y1n, Y1o, Y1p, Y1q, Y1w, Y1x, Y1y, Y1z, Y20, Y21, Y28, Y2a, AV.cells?, Nat.reduceAdd, Nat.reduceMul]
  rw [show ∀ v : Nat, Option.map AV.agg (subL [Z v, t, .mapL 1 n1] 0 2) = some (.agg [Z v, t]) from fun _ => rfl]
  simp only [nd0, Y1n, Y1o, Y1p, Y1q, Y1w, Y1x, Y1y, Y1z, Y20, Y21, Y28, Y2a, AV.cells?, Nat.reduceAdd, Nat.reduceMul]
  rw [storeN_L (n := 2) (xs := [Z (litP (nmv (gks x)) x ⟨(gks x).length, []⟩).2.vars, t]) rfl (show (true && (t.scalar && true)) = true by rw [hg.scalar]; rfl)]
  simp only [nd0, Y1n, Y1o, Y1p, Y1q, Y1w, Y1x, Y1y, Y1z, Y20, Y21, Y28, Y2a, AV.cells?, Nat.reduceAdd, Nat.reduceMul, put_two]
  exact ⟨_, rfl, t, _, _, _, z, c, rfl, hg, rfl⟩
theorem Of_spec (B : OfBodies E P) (x : Ex) (hw : x.wt ≤ 1000000) (hf : x.fine) (hs : x.size ≤ 300) : FX E P 233 [x.enc] (OfA x) := by
  refine FX.of ⟨Ex.enc_closed x, trivial⟩ (by simp [OfA, AV.closed, AV.closedL, Cl_closed]) fun n R hR => (Of_grow B x hw hf hs n).mono ?_
  rintro r H ⟨t, b0, b1, b2, z, c, rfl, hg, rfl⟩
  exact ⟨_, _, .refl _ _, hR _ _ (.sub (.tup (.cons (.agg (.cons (.refl _) (.one hg.sub))) (.refl _))))⟩
end
end Go.Sc
namespace Go.Sc
open Go
set_option linter.unusedSimpArgs false
set_option linter.unusedVariables false
set_option linter.unnecessarySimpa false
/-! ### names of what is made tidy -/
section
variable {Q Q' : Str → Prop}
end
/-! ### clauses are short, and may be -/
theorem andP_short {l : List Int} {b : Bd} {M : Nat} (hM : l.length + 2 ≤ M) (hb : ∀ c ∈ b.cl, c.length ≤ M) : ∀ c ∈ (andP l b).2.cl, c.length ≤ M := by
  intro c hc
  simp only [andP, List.mem_append, List.mem_map, List.mem_singleton] at hc
  rcases hc with (hc | ⟨x, hx, rfl⟩) | rfl
  · exact hb c hc
  · simp; omega
  · simp [negL]; omega
mutual
theorem litP_short (nm : Str → Int) {M : Nat} : ∀ (x : Ex) (b : Bd), x.size + 4 ≤ M → (∀ c ∈ b.cl, c.length ≤ M) → ∀ c ∈ (litP nm x b).2.cl, c.length ≤ M
  | .bit s, b, hM, hb => hb
  | .rise s, b, hM, hb => andP_short (by simp; omega) hb
  | .fall s, b, hM, hb => andP_short (by simp; omega) hb
  | .k k, b, hM, hb => by
    intro c hc
    simp only [litP, constP, List.mem_append, List.mem_singleton] at hc
    rcases hc with hc | rfl
    · exact hb c hc
    · simp; omega
  | .not x, b, hM, hb => litP_short nm x b (by simp only [Ex.size] at hM; omega) hb
  | .and l, b, hM, hb => by
    have h1 := litsP_len nm l b
    have h2 := sizeL_len l
    simp only [Ex.size] at hM
    exact andP_short (by omega) (litsP_short nm l b (by omega) hb)
  | .or l, b, hM, hb => by
    have h1 := litsP_len nm l b
    have h2 := sizeL_len l
    simp only [Ex.size] at hM
    exact andP_short (by rw [negL_len]; omega) (litsP_short nm l b (by omega) hb)
theorem litsP_short (nm : Str → Int) {M : Nat} : ∀ (l : List Ex) (b : Bd), Ex.sizeL l + 4 ≤ M → (∀ c ∈ b.cl, c.length ≤ M) → ∀ c ∈ (litsP nm l b).2.cl, c.length ≤ M
  | [], b, hM, hb => hb
  | x :: l, b, hM, hb => by
    simp only [Ex.sizeL] at hM
    exact litsP_short nm l _ (by omega) (litP_short nm x b (by omega) hb)
end
theorem gcheck_fine {V : Nat} {all : List (List Int)} (hV : V ≤ 1000) (hl : all.length ≤ 3000) (h : ∀ c ∈ all, okB V c) : gcheck V all = none := by
  unfold gcheck
  rw [if_neg (by omega), List.findSome?_eq_none_iff]
  intro i hi
  rw [List.mem_range] at hi
  unfold gcheckAt
  rw [if_neg]
  have hr : row all i = all[i] := by simp [row, List.getElem?_eq_getElem hi]
  rw [hr, Bool.not_eq_true, List.any_eq_false]
  intro x hx
  have := h _ (List.getElem_mem hi) x hx
  unfold okLit at this
  simp only [badL, Bool.or_eq_true, decide_eq_true_eq, not_or]
  omega
/-- its clauses, and that it holds -/
def gall (x : Ex) : List (List Int) := (gateP x).2.cl ++ [[(gateP x).1]]
theorem gall_ok {x : Ex} (hf : x.fine) : ∀ c ∈ gall x, okB (gateP x).2.vars c := by
  obtain ⟨h1, h2⟩ := gateP_ok hf
  intro c hc
  rcases List.mem_append.1 hc with hc | hc
  · exact h2 c hc
  · simp at hc; subst hc; exact fun y hy => by simp at hy; subst hy; exact h1
theorem gall_len (x : Ex) : (gall x).length ≤ 4 * x.size := by have := gateP_cl x; simp only [gall, List.length_append, List.length_singleton]; omega
theorem gall_short (x : Ex) : ∀ c ∈ gall x, c.length ≤ x.size + 4 := by
  intro c hc
  rcases List.mem_append.1 hc with hc | hc
  · exact litP_short _ x _ (Nat.le_refl _) (by simp) c hc
  · simp at hc; subst hc; simp
theorem gall_defs {x : Ex} (hf : x.fine) : ∀ v, (gks x).length < v → v ≤ (gateP x).2.vars → DefAt v (gall x) := fun v h1 h2 =>
  (litP_defs _ x _ (gks_ok hf) (by simp) (fun v h1 h2 => by simp only at h2; omega) v h1 h2).mono fun c hc => List.mem_append_left _ hc
/-- what is told by values of variables -/
def isA (x : Ex) (a : Nat → Bool) : Str → Bool := fun s => lh a (nmv (gks x) s)
def wasA (x : Ex) (a : Nat → Bool) : Str → Bool := fun s => lh a (nmv (gks x) (94 :: s))
theorem sat_says {x : Ex} (hf : x.fine) {a : Nat → Bool} (h : Sats a (gall x)) : x.says (isA x a) (wasA x a) = true := by
  obtain ⟨h1, h2⟩ := Sats_app.1 h
  have := (litP_says (nmv (gks x)) (a := a) (p := isA x a) (q := wasA x a) x ⟨(gks x).length, []⟩ (gks_ok hf) (by simp) (Ex.on_of x hf (fun _ _ => rfl) (fun _ _ => rfl)) h1).2
  rw [← this]
  obtain ⟨y, hy, hy2⟩ := h2 [(gateP x).1] (by simp)
  simp at hy; subst hy; exact hy2
theorem says_sat {x : Ex} (hf : x.fine) {p q : Str → Bool} (h : x.says p q = true) : ∃ a, Sats a (gall x) := by
  let a0 : Nat → Bool := fun i => if i ≤ x.names.length then (match x.names[i - 1]? with | some s => p s | none => false) else (match x.edges[i - 1 - x.names.length]? with | some s => q s | none => false)
  obtain ⟨a', h1, h2⟩ := litP_ext (nmv (gks x)) x ⟨(gks x).length, []⟩ a0 (gks_ok hf) (by simp) (by intro c hc; simp at hc)
  refine ⟨a', Sats_app.2 ⟨h2, fun c hc => ?_⟩⟩
  simp at hc; subst hc
  refine ⟨_, List.mem_singleton.2 rfl, ?_⟩
  have hl := gks_len x
  have := (litP_says (nmv (gks x)) (a := a') (p := p) (q := q) x ⟨(gks x).length, []⟩ (gks_ok hf) (by simp) (Ex.on_of x hf (fun s hs => ?_) (fun s hs => ?_)) h2).2
  · exact this.trans h
  · have hs' : s ∈ x.names := onceS_mem.2 hs
    have hlt := ixN_lt hs'
    rw [gks_name hs', lh_new, h1 _ (by simp only; omega)]
    show a0 _ = _
    simp only [a0]
    rw [if_pos (by omega), Nat.add_sub_cancel, ixN_get hs']
  · have hs' : s ∈ x.edges := onceS_mem.2 hs
    have hlt := ixN_lt hs'
    rw [gks_edge hf hs', lh_new, h1 _ (by simp only; omega)]
    show a0 _ = _
    simp only [a0]
    rw [if_neg (by omega), show x.names.length + ixN x.edges s + 1 - 1 - x.names.length = ixN x.edges s by omega, ixN_get hs']
section
variable {E : Env} {P : Program}
theorem gall_solve (B : GateBodies0 E P) {x : Ex} (hf : x.fine) (hs : x.size ≤ 300) (hN : (gks x).length ≤ 8) : FR E P 100 [Cl (gateP x).2.vars (gall x)] (SolveR (gateP x).2.vars (gall x)) := by
  have h1 := gateP_vars x
  have h2 := gall_len x
  refine Solve_specN B _ _ (opens (gks x).length) (fun h => opensN_grow h) (fun y h a b c d => det_lt (gall_defs hf) y h a b c d) hN (opens_le _ _) (by omega) (gcheck_fine (by omega) (by omega) (gall_ok hf)) (by omega) fun c hc => ?_
  have := gall_short x c hc
  omega
end
end Go.Sc
