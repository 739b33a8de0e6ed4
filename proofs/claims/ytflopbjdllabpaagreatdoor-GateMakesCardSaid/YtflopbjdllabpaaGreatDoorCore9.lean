/- CONTRACTS: package signalboxref: names and edges of an expression, put in place by place. CONTRACTS: what an expression says, of questions that are answered for some names alone. PLAIN LAW: TSEITIN: an expression as clauses: what they say, and that what is told of names determines all. THE LAW ExprBack, out of the contracts. THE LAW ExprHangs, out of the contracts. PLAIN LAWS OF TABLES, MORE: states of one block tell the same; the table of blocks tells what its states do; the inputs that are told part states at the last one alone. CONTRACTS: package block: Check, number, rounds, Blocks. CONTRACTS: package block: Blocks, Tell; and the keep's helpers. CONTRACTS: package block: Least. CONTRACTS: package block: Part. CONTRACTS: the reference's tables: TableCheck (under way). THE LAW ExprParses, out of the contracts. CONTRACTS: package expr: an expression is made tidy. THE LAW ExprTidies, out of the contracts. CONTRACTS: package cover: pairs of values that show a name. CONTRACTS: package gate: the solver. CONTRACTS: package gate: search, Check, Solve; the reference's GateCheck. CONTRACTS: bare. CONTRACTS: package gate: Check, Solve; the reference's GateCheck, GateSolve. THE LAW GateSolves, out of the contracts. THE LAW GateSolves: the body. CONTRACTS: package gate: an expression's clauses. THE LAW CoverShows, out of the contracts. (of the seat YtflopbjdllabpaaGreatDoor) -/
import Derived.Test.YtflopbjdllabpaaGreatDoorCore8
namespace Go.Sc
open Go
set_option linter.unusedSimpArgs false
set_option linter.unusedVariables false
set_option linter.unnecessarySimpa false
section
variable {E : Env} {P : Program}
/-- the walk's own value: it knows the kinds, the list, and itself -/
def wkF (kinds : Str) (g0 g1 : Nat) : AV := .fn 196 [] [.ptrF [S kinds] 0, .ptrL 0 0 g0, .ptrL 1 0 g1]
def SN (kinds : Str) (g0 g1 : Nat) (l : List Str) (H : AH) : Prop := ∃ x tb c, H = ⟨.cells g0 1 [x] :: .cells g1 1 [wkF kinds g0 g1] :: tb, c⟩ ∧ ((x = nilS ∧ l = [] ∧ tb = []) ∨ ∃ g2, x = .slL 2 0 l.length g2 ∧ tb = [.cells g2 1 (l.map fun s => S s)])
theorem insA_lt {s : Str} : ∀ {l : List Str} {i : Nat}, i < insA s l → ∃ x, l[i]? = some x ∧ x < s
  | [], i, h => by simp [insA] at h
  | y :: l, i, h => by
    simp only [insA] at h
    split at h
    · rename_i hy
      cases i with
      | zero => exact ⟨y, rfl, hy⟩
      | succ i => obtain ⟨x, h1, h2⟩ := insA_lt (s := s) (l := l) (i := i) (by omega); exact ⟨x, by simpa using h1, h2⟩
    · omega
theorem insA_stop {s x : Str} : ∀ {l : List Str}, l[insA s l]? = some x → ¬ x < s
  | [], h => by simp at h
  | y :: l, h => by
    by_cases hy : y < s
    · have e : insA s (y :: l) = insA s l + 1 := by simp [insA, hy]
      rw [e, List.getElem?_cons_succ] at h
      exact insA_stop h
    · have e : insA s (y :: l) = 0 := by simp [insA, hy]
      rw [e] at h
      simp at h; subst h; exact hy
theorem sliceL {b n g lo : Nat} {k : IntKind} {H : AH} {cs : List AV} (hb : H.bs[b]? = some (.cells g 1 cs)) (h : lo ≤ n) : sliceA 1 (.slL b 0 n g) (some (.val (.int k lo))) none H = some (.slL b lo (n - lo) g) := by
  simp [sliceA, bnd, AH.esz, hb]; omega
set_option maxHeartbeats 4000000 in
theorem put_spec (B : RefSaysBodies0 E P) {kinds : Str} (hks : kinds.length ≤ 1000) {g0 g1 : Nat} (x : Ex) {l : List Str} (hl : l.length < 10000000) {H : AH} (hH : SN kinds g0 g1 l H) (b : Bool) (hb : b = (decide (x.nm ≠ []) && Lib.contains kinds x.kind)) (k : KN 0)
    (hk : ∀ H, SN kinds g0 g1 (if b then insN l x.nm else l) H → k H) :
  wJoin 0 (fun J1 =>
    wGet (nilA x.ref) H fun t9 H =>
    wGet (faddr 1 t9) H fun t10 H =>
    wGet (load1 t10 H) H fun t11 H =>
    wGet (binA .neq t11 (.val (.string ⟨#[]⟩))) H fun t12 H =>
    wGuard t12 true H (fun k => wGet (load1 (.ptrF [S kinds] 0) H) H k) fun t14 H =>
    wGuard t12 true H (fun k => k x.ref H) fun t15 H =>
    wGuard t12 true H (fun k => wGet (nilA t15) H k) fun t16 H =>
    wGuard t12 true H (fun k => wGet (faddr 0 t16) H k) fun t17 H =>
    wGuard t12 true H (fun k => wGet (load1 t17 H) H k) fun t18 H =>
    wGuard t12 true H (fun k => wCall E P 199 [t14, t18] H k) fun t19 H =>
    wGet (pickA t12 t19 (.val (.bool false))) H fun t20 H =>
    wIf t20 (
      wLoop 1 (fun I2 => I2 (.val (.int .i64 0)) H) fun I2 t5 H =>
        wGet (load1 (.ptrL 0 0 g0) H) H fun t22 H =>
        wGet (lenA t22) H fun t23 H =>
        wGet (binA .lss t5 t23) H fun t24 H =>
        wGuard t24 true H (fun k => wGet (load1 (.ptrL 0 0 g0) H) H k) fun t26 H =>
        wGuard t24 true H (fun k => k t5 H) fun t27 H =>
        wGuard t24 true H (fun k => wGet (iaddr 1 t26 t27) H k) fun t28 H =>
        wGuard t24 true H (fun k => wGet (load1 t28 H) H k) fun t29 H =>
        wGuard t24 true H (fun k => k x.ref H) fun t30 H =>
        wGuard t24 true H (fun k => wGet (nilA t30) H k) fun t31 H =>
        wGuard t24 true H (fun k => wGet (faddr 1 t31) H k) fun t32 H =>
        wGuard t24 true H (fun k => wGet (load1 t32 H) H k) fun t33 H =>
        wGuard t24 true H (fun k => wGet (binA .lss t29 t33) H k) fun t34 H =>
        wGet (pickA t24 t34 (.val (.bool false))) H fun t35 H =>
        wIf t35 (
          wGet (binA .add t5 (.val (.int .i64 1))) H fun t37 H =>
          I2 t37 H) (
          wGet (load1 (.ptrL 0 0 g0) H) H fun t39 H =>
          wGet (lenA t39) H fun t40 H =>
          wGet (binA .eql t5 t40) H fun t41 H =>
          wGuard t41 false H (fun k => wGet (load1 (.ptrL 0 0 g0) H) H k) fun t43 H =>
          wGuard t41 false H (fun k => k t5 H) fun t44 H =>
          wGuard t41 false H (fun k => wGet (iaddr 1 t43 t44) H k) fun t45 H =>
          wGuard t41 false H (fun k => wGet (load1 t45 H) H k) fun t46 H =>
          wGuard t41 false H (fun k => k x.ref H) fun t47 H =>
          wGuard t41 false H (fun k => wGet (nilA t47) H k) fun t48 H =>
          wGuard t41 false H (fun k => wGet (faddr 1 t48) H k) fun t49 H =>
          wGuard t41 false H (fun k => wGet (load1 t49 H) H k) fun t50 H =>
          wGuard t41 false H (fun k => wGet (binA .neq t46 t50) H k) fun t51 H =>
          wGet (pickA t41 (.val (.bool true)) t51) H fun t52 H =>
          wIf t52 (
            wGet (load1 (.ptrL 0 0 g0) H) H fun t53 H =>
            wNewS 1 1 (fillA (List.replicate 1 [(.val (.string ⟨#[]⟩))]).flatten [(0, 1, (.val (.string ⟨#[]⟩)))]) H fun t54 H =>
            wApp 1 16 t53 t54 H fun t55 H =>
            wPut (store1 (.ptrL 0 0 g0) t55 H) fun _u H =>
            wGet (load1 (.ptrL 0 0 g0) H) H fun t56 H =>
            wGet (binA .add t5 (.val (.int .i64 1))) H fun t58 H =>
            wGet (sliceA 1 t56 (some t58) none H) H fun t59 H =>
            wGet (load1 (.ptrL 0 0 g0) H) H fun t60 H =>
            wGet (sliceA 1 t60 (some t5) none H) H fun t62 H =>
            wDo (copyA 1 t59 t62 H) fun t63 H =>
            wGet (load1 (.ptrL 0 0 g0) H) H fun t64 H =>
            wGet (nilA x.ref) H fun t67 H =>
            wGet (faddr 1 t67) H fun t68 H =>
            wGet (load1 t68 H) H fun t69 H =>
            wGet (iaddr 1 t64 t5) H fun t70 H =>
            wPut (store1 t70 t69 H) fun _u H =>
            J1 H) (
            J1 H))) (
      J1 H)) k := by
  refine wJoin.zero (SN kinds g0 g1 (if b then insN l x.nm else l)) ?_ hk
  obtain ⟨y, tb, c, rfl, ht⟩ := hH
  rw [Ex.ref_eq]
  simp only [nd0, Y1n, Y1o, Y1p, Y1q, Y1w, Y1x, Y1y, Y1z, Y20, Y21, Y28, Y2a, AV.cells?, Nat.reduceAdd, Nat.reduceMul, show (AV.val (.string ⟨#[]⟩)) = S [] from rfl]
  by_cases hn : x.nm = []
  · simp only [nd0, Y1n, Y1o, Y1p, Y1q, Y1w, Y1x, Y1y, Y1z, Y20, Y21, Y28, Y2a, AV.cells?, Nat.reduceAdd, Nat.reduceMul, decide_eq_true hn]
    refine gh0.mk ?_
    rw [show b = false by rw [hb]; simp [hn]]
    exact ⟨y, tb, c, rfl, ht⟩
  simp only [nd0, Y1n, Y1o, Y1p, Y1q, Y1w, Y1x, Y1y, Y1z, Y20, Y21, Y28, Y2a, AV.cells?, Nat.reduceAdd, Nat.reduceMul, decide_eq_false hn]
  refine wCall.fx (B.con kinds x.kind hks) fun n1 => ?_
  simp only [nd0, Y1n, Y1o, Y1p, Y1q, Y1w, Y1x, Y1y, Y1z, Y20, Y21, Y28, Y2a, AV.cells?, Nat.reduceAdd, Nat.reduceMul]
  cases hc : Lib.contains kinds x.kind with
  | false =>
    simp only [nd0, Y1n, Y1o, Y1p, Y1q, Y1w, Y1x, Y1y, Y1z, Y20, Y21, Y28, Y2a, AV.cells?, Nat.reduceAdd, Nat.reduceMul]
    refine gh0.mk ?_
    rw [show b = false by rw [hb]; simp [hn, hc]]
    exact ⟨y, tb, n1, rfl, ht⟩
  | true =>
    rw [show b = true by rw [hb]; simp [hn, hc], if_pos rfl]
    generalize hnm : x.nm = nm at hn
    have hlen : lenA y = some (Z l.length) := by rcases ht with ⟨rfl, rfl, _⟩ | ⟨g2, rfl, _⟩ <;> rfl
    have hal := insA_le nm l
    simp only [nd0, Y1n, Y1o, Y1p, Y1q, Y1w, Y1x, Y1y, Y1z, Y20, Y21, Y28, Y2a, AV.cells?, Nat.reduceAdd, Nat.reduceMul]
    refine wLoop.one (fun m i H => ∃ a : Nat, i = Z a ∧ a ≤ insA nm l ∧ m = insA nm l - a ∧ H = ⟨.cells g0 1 [y] :: .cells g1 1 [wkF kinds g0 g1] :: tb, n1⟩) (insA nm l) (gh1.mk ⟨0, rfl, by omega, by omega, rfl⟩) ?_
    rintro m i H ⟨a, rfl, ha, rfl, rfl⟩
    simp only [nd0, Y1n, Y1o, Y1p, Y1q, Y1w, Y1x, Y1y, Y1z, Y20, Y21, Y28, Y2a, AV.cells?, Nat.reduceAdd, Nat.reduceMul, hlen]
    have hread : ∀ a < l.length, ∃ g2, y = .slL 2 0 l.length g2 ∧ tb = [.cells g2 1 (l.map fun s => S s)] := fun a h => by
      rcases ht with ⟨_, rfl, _⟩ | h'
      · simp at h
      · exact h'
    rcases Nat.lt_or_ge a (insA nm l) with hlt | hge
    · obtain ⟨z, hz1, hz2⟩ := insA_lt hlt
      have hal2 : a < l.length := by omega
      obtain ⟨g2, rfl, rfl⟩ := hread a hal2
      simp only [nd0, Y1n, Y1o, Y1p, Y1q, Y1w, Y1x, Y1y, Y1z, Y20, Y21, Y28, Y2a, AV.cells?, Nat.reduceAdd, Nat.reduceMul, decide_eq_true (show (a : Int) < (l.length : Int) by omega)]
      rw [iaddr_Ln hal2]
      simp only [nd0, Y1n, Y1o, Y1p, Y1q, Y1w, Y1x, Y1y, Y1z, Y20, Y21, Y28, Y2a, AV.cells?, Nat.reduceAdd, Nat.reduceMul, show (l.map fun s => S s)[a]? = some (S z) by rw [List.getElem?_map, hz1]; rfl, binA_slt, decide_eq_true hz2]
      rw [binA_succ (by omega)]
      simp only [nd0, Y1n, Y1o, Y1p, Y1q, Y1w, Y1x, Y1y, Y1z, Y20, Y21, Y28, Y2a, AV.cells?, Nat.reduceAdd, Nat.reduceMul]
      exact back1.mk _ (by omega) ⟨a + 1, rfl, by omega, rfl, rfl⟩
    · have hae : a = insA nm l := by omega
      -- the place is found
      have hplace : ∀ (K1 K2 : Prop), (l[a]? = some nm → K2) → (l[a]? ≠ some nm → K1) → (if l[a]? = some nm then K2 else K1) := fun K1 K2 h2 h1 => by split <;> simp_all
      by_cases hend : a = l.length
      · -- at the end
        simp only [nd0, Y1n, Y1o, Y1p, Y1q, Y1w, Y1x, Y1y, Y1z, Y20, Y21, Y28, Y2a, AV.cells?, Nat.reduceAdd, Nat.reduceMul, decide_eq_false (show ¬ (a : Int) < (l.length : Int) by omega), hlen, decide_eq_true (show (a : Int) = (l.length : Int) by omega)]
        have hins : insN l nm = l ++ [nm] := by
          unfold insN
          rw [← hae, hend]; simp
        refine wNewS.F' (l := [S []]) rfl rfl ?_
        rcases ht with ⟨rfl, rfl, rfl⟩ | ⟨g2, rfl, rfl⟩
        · have : a = 0 := by simpa using hend
          subst this
          refine ⟨_, _, .old (r := .slL 2 0 1 n1) (H' := ⟨[.cells g0 1 [nilS], .cells g1 1 [wkF kinds g0 g1], .cells n1 1 [S []]], n1 + 1⟩) rfl, ?_⟩
          rw [store1_L rfl]
          simp only [nd0, Y1n, Y1o, Y1p, Y1q, Y1w, Y1x, Y1y, Y1z, Y20, Y21, Y28, Y2a, AV.cells?, Nat.reduceAdd, Nat.reduceMul, Nat.reduceLT]
          rw [show (((0 : Nat) : Int)) = 0 from rfl, binA_add (by omega)]
          simp only [nd0, Y1n, Y1o, Y1p, Y1q, Y1w, Y1x, Y1y, Y1z, Y20, Y21, Y28, Y2a, AV.cells?, Nat.reduceAdd, Nat.reduceMul]
          rw [show sliceA 1 (.slL 2 0 1 n1) (some (Z (0 + 1))) none ⟨[.cells g0 1 [.slL 2 0 1 n1], .cells g1 1 [wkF kinds g0 g1], .cells n1 1 [S []]], n1 + 1⟩ = some (.slL 2 1 0 n1) by simp [sliceA, bnd, AH.esz]]
          simp only [nd0, Y1n, Y1o, Y1p, Y1q, Y1w, Y1x, Y1y, Y1z, Y20, Y21, Y28, Y2a, AV.cells?, Nat.reduceAdd, Nat.reduceMul]
          rw [show sliceA 1 (.slL 2 0 1 n1) (some (Z 0)) none ⟨[.cells g0 1 [.slL 2 0 1 n1], .cells g1 1 [wkF kinds g0 g1], .cells n1 1 [S []]], n1 + 1⟩ = some (.slL 2 0 1 n1) by simp [sliceA, bnd, AH.esz]]
          simp only [nd0, Y1n, Y1o, Y1p, Y1q, Y1w, Y1x, Y1y, Y1z, Y20, Y21, Y28, Y2a, AV.cells?, Nat.reduceAdd, Nat.reduceMul]
          rw [show copyA 1 (.slL 2 1 0 n1) (.slL 2 0 1 n1) ⟨[.cells g0 1 [.slL 2 0 1 n1], .cells g1 1 [wkF kinds g0 g1], .cells n1 1 [S []]], n1 + 1⟩ = some (Z 0, ⟨[.cells g0 1 [.slL 2 0 1 n1], .cells g1 1 [wkF kinds g0 g1], .cells n1 1 [S []]], n1 + 1⟩) by simp [copyA, lenA, shortA, cellsOfA, AH.cells, subL]]
          simp only [nd0, Y1n, Y1o, Y1p, Y1q, Y1w, Y1x, Y1y, Y1z, Y20, Y21, Y28, Y2a, AV.cells?, Nat.reduceAdd, Nat.reduceMul]
          rw [show iaddr 1 (.slL 2 0 1 n1) (Z 0) = some (.ptrL 2 0 n1) by simp [iaddr]]
          simp only [nd0, Y1n, Y1o, Y1p, Y1q, Y1w, Y1x, Y1y, Y1z, Y20, Y21, Y28, Y2a, AV.cells?, Nat.reduceAdd, Nat.reduceMul]
          rw [store1_L rfl]
          simp only [nd0, Y1n, Y1o, Y1p, Y1q, Y1w, Y1x, Y1y, Y1z, Y20, Y21, Y28, Y2a, AV.cells?, Nat.reduceAdd, Nat.reduceMul, Nat.reduceLT]
          refine gh0.mk ⟨.slL 2 0 1 n1, _, _, rfl, .inr ⟨n1, ?_, ?_⟩⟩
          · rw [hins]; rfl
          · rw [hins]; rfl
        · have happ : appendA 1 16 (.slL 2 0 l.length g2) (.slN [S []] 1) ⟨[.cells g0 1 [.slL 2 0 l.length g2], .cells g1 1 [wkF kinds g0 g1], .cells g2 1 (l.map fun s => S s)], n1⟩
              = some (.slL 2 0 (l.length + 1) n1, ⟨[.cells g0 1 [.slL 2 0 l.length g2], .cells g1 1 [wkF kinds g0 g1], .cells n1 1 ((l ++ [[]]).map fun s => S s)], n1 + 1⟩) := by
            have hb : (l.length + 1) * 16 ≤ mostBytes ∧ l.length + 1 ≤ mostBytes := by simp [mostBytes]; omega
            simp [appendA, cellsOfA, subL, AH.cells, AH.esz, hb, AV.scalar]
          refine ⟨_, _, .old happ, ?_⟩
          rw [store1_L rfl]
          simp only [nd0, Y1n, Y1o, Y1p, Y1q, Y1w, Y1x, Y1y, Y1z, Y20, Y21, Y28, Y2a, AV.cells?, Nat.reduceAdd, Nat.reduceMul, Nat.reduceLT]
          rw [binA_succ (by omega)]
          simp only [nd0, Y1n, Y1o, Y1p, Y1q, Y1w, Y1x, Y1y, Y1z, Y20, Y21, Y28, Y2a, AV.cells?, Nat.reduceAdd, Nat.reduceMul]
          rw [sliceL (cs := (l ++ [[]]).map fun s => S s) rfl (by omega)]
          simp only [nd0, Y1n, Y1o, Y1p, Y1q, Y1w, Y1x, Y1y, Y1z, Y20, Y21, Y28, Y2a, AV.cells?, Nat.reduceAdd, Nat.reduceMul]
          rw [sliceL (cs := (l ++ [[]]).map fun s => S s) rfl (by omega)]
          simp only [nd0, Y1n, Y1o, Y1p, Y1q, Y1w, Y1x, Y1y, Y1z, Y20, Y21, Y28, Y2a, AV.cells?, Nat.reduceAdd, Nat.reduceMul]
          have hcp : copyA 1 (.slL 2 (a + 1) (l.length + 1 - (a + 1)) n1) (.slL 2 a (l.length + 1 - a) n1) ⟨[.cells g0 1 [.slL 2 0 (l.length + 1) n1], .cells g1 1 [wkF kinds g0 g1], .cells n1 1 ((l ++ [[]]).map fun s => S s)], n1 + 1⟩ = some (Z 0, ⟨[.cells g0 1 [.slL 2 0 (l.length + 1) n1], .cells g1 1 [wkF kinds g0 g1], .cells n1 1 ((l ++ [[]]).map fun s => S s)], n1 + 1⟩) := by simp [copyA, lenA, shortA, cellsOfA, AH.cells, subL, hend]
          rw [hcp]
          simp only [nd0, Y1n, Y1o, Y1p, Y1q, Y1w, Y1x, Y1y, Y1z, Y20, Y21, Y28, Y2a, AV.cells?, Nat.reduceAdd, Nat.reduceMul]
          rw [iaddr_Ln (show a < l.length + 1 by omega)]
          simp only [nd0, Y1n, Y1o, Y1p, Y1q, Y1w, Y1x, Y1y, Y1z, Y20, Y21, Y28, Y2a, AV.cells?, Nat.reduceAdd, Nat.reduceMul]
          rw [store1_L rfl]
          simp only [nd0, Y1n, Y1o, Y1p, Y1q, Y1w, Y1x, Y1y, Y1z, Y20, Y21, Y28, Y2a, AV.cells?, Nat.reduceAdd, Nat.reduceMul, show a < ((l ++ [[]]).map fun s => S s).length by simp; omega]
          refine gh0.mk ⟨.slL 2 0 (l.length + 1) n1, _, _, rfl, .inr ⟨n1, ?_, ?_⟩⟩
          · rw [hins]; simp
          · rw [hins, hend]; simp
      · have hal2 : a < l.length := by omega
        obtain ⟨g2, rfl, rfl⟩ := hread a hal2
        obtain ⟨z, hz⟩ : ∃ z, l[a]? = some z := ⟨l[a], by simp [hal2]⟩
        have hns : ¬ z < nm := insA_stop (by rw [← hae]; exact hz)
        simp only [nd0, Y1n, Y1o, Y1p, Y1q, Y1w, Y1x, Y1y, Y1z, Y20, Y21, Y28, Y2a, AV.cells?, Nat.reduceAdd, Nat.reduceMul, decide_eq_true (show (a : Int) < (l.length : Int) by omega), decide_eq_false (show ¬ (a : Int) = (l.length : Int) by omega)]
        rw [iaddr_Ln hal2]
        simp only [nd0, Y1n, Y1o, Y1p, Y1q, Y1w, Y1x, Y1y, Y1z, Y20, Y21, Y28, Y2a, AV.cells?, Nat.reduceAdd, Nat.reduceMul, show (l.map fun s => S s)[a]? = some (S z) by rw [List.getElem?_map, hz]; rfl, binA_slt, decide_eq_false hns, decide_eq_false (show ¬ (a : Int) = (l.length : Int) by omega)]
        rw [iaddr_Ln hal2]
        simp only [nd0, Y1n, Y1o, Y1p, Y1q, Y1w, Y1x, Y1y, Y1z, Y20, Y21, Y28, Y2a, AV.cells?, Nat.reduceAdd, Nat.reduceMul, show (l.map fun s => S s)[a]? = some (S z) by rw [List.getElem?_map, hz]; rfl]
        by_cases hzn : z = nm
        · simp only [nd0, Y1n, Y1o, Y1p, Y1q, Y1w, Y1x, Y1y, Y1z, Y20, Y21, Y28, Y2a, AV.cells?, Nat.reduceAdd, Nat.reduceMul, decide_eq_true hzn]
          have hins : insN l nm = l := by
            unfold insN
            rw [← hae, hz, hzn, if_pos rfl]
          refine gh0.mk ?_
          rw [hins]
          exact ⟨_, _, _, rfl, .inr ⟨g2, rfl, rfl⟩⟩
        · simp only [nd0, Y1n, Y1o, Y1p, Y1q, Y1w, Y1x, Y1y, Y1z, Y20, Y21, Y28, Y2a, AV.cells?, Nat.reduceAdd, Nat.reduceMul, decide_eq_false hzn]
          have hins : insN l nm = l.take a ++ nm :: l.drop a := by
            unfold insN
            rw [← hae, hz, if_neg (by simpa using hzn)]
          refine wNewS.F' (l := [S []]) rfl rfl ?_
          have happ : appendA 1 16 (.slL 2 0 l.length g2) (.slN [S []] 1) ⟨[.cells g0 1 [.slL 2 0 l.length g2], .cells g1 1 [wkF kinds g0 g1], .cells g2 1 (l.map fun s => S s)], n1⟩
              = some (.slL 2 0 (l.length + 1) n1, ⟨[.cells g0 1 [.slL 2 0 l.length g2], .cells g1 1 [wkF kinds g0 g1], .cells n1 1 ((l ++ [[]]).map fun s => S s)], n1 + 1⟩) := by
            have hb : (l.length + 1) * 16 ≤ mostBytes ∧ l.length + 1 ≤ mostBytes := by simp [mostBytes]; omega
            simp [appendA, cellsOfA, subL, AH.cells, AH.esz, hb, AV.scalar]
          refine ⟨_, _, .old happ, ?_⟩
          rw [store1_L rfl]
          simp only [nd0, Y1n, Y1o, Y1p, Y1q, Y1w, Y1x, Y1y, Y1z, Y20, Y21, Y28, Y2a, AV.cells?, Nat.reduceAdd, Nat.reduceMul, Nat.reduceLT]
          rw [binA_succ (by omega)]
          simp only [nd0, Y1n, Y1o, Y1p, Y1q, Y1w, Y1x, Y1y, Y1z, Y20, Y21, Y28, Y2a, AV.cells?, Nat.reduceAdd, Nat.reduceMul]
          rw [sliceL (cs := (l ++ [[]]).map fun s => S s) rfl (by omega)]
          simp only [nd0, Y1n, Y1o, Y1p, Y1q, Y1w, Y1x, Y1y, Y1z, Y20, Y21, Y28, Y2a, AV.cells?, Nat.reduceAdd, Nat.reduceMul]
          rw [sliceL (cs := (l ++ [[]]).map fun s => S s) rfl (by omega)]
          simp only [nd0, Y1n, Y1o, Y1p, Y1q, Y1w, Y1x, Y1y, Y1z, Y20, Y21, Y28, Y2a, AV.cells?, Nat.reduceAdd, Nat.reduceMul]
          have hmin : min (l.length + 1 - a) (l.length + 1 - (a + 1)) = l.length - a := by omega
          have hcopy : copyA 1 (.slL 2 (a + 1) (l.length + 1 - (a + 1)) n1) (.slL 2 a (l.length + 1 - a) n1) ⟨[.cells g0 1 [.slL 2 0 (l.length + 1) n1], .cells g1 1 [wkF kinds g0 g1], .cells n1 1 ((l ++ [[]]).map fun s => S s)], n1 + 1⟩
              = some (Z (l.length - a : Nat), ⟨[.cells g0 1 [.slL 2 0 (l.length + 1) n1], .cells g1 1 [wkF kinds g0 g1], .cells n1 1 ((l.take a ++ z :: l.drop a).map fun s => S s)], n1 + 1⟩) := by
            have h0 : ¬ (l.length - a = 0) := by omega
            have hd : ((((l ++ [[]]).map fun s => S s).drop a).take (l.length - a)) = (l.drop a).map fun s => S s := by
              rw [← List.map_drop, ← List.map_take, List.drop_append_of_le_length (by omega), List.take_append_of_le_length (by simp), List.take_of_length_le (by simp)]
            have hput : putL ((l ++ [[]]).map fun s => S s) (a + 1) ((l.drop a).map fun s => S s) = some ((l.take a ++ z :: l.drop a).map fun s => S s) := by
              have hlst : (l ++ [[]]).take (a + 1) ++ l.drop a ++ (l ++ [[]]).drop (a + 1 + (l.drop a).length) = l.take a ++ z :: l.drop a := by
                have hz2 : (l ++ [[]]).drop (a + 1 + (l.drop a).length) = [] := List.drop_eq_nil_of_le (by simp; omega)
                rw [hz2, List.append_nil, List.take_append_of_le_length (by omega), List.take_add_one, hz]
                simp
              unfold putL
              rw [if_pos (by simp only [List.length_map, List.length_append, List.length_drop, List.length_cons, List.length_nil]; omega), ← List.map_take, List.length_map, ← List.map_drop, ← List.map_append, ← List.map_append, hlst]
            have hsc : ((l.drop a).map fun s => S s).all AV.scalar = true := by
              rw [List.all_eq_true]; intro w hw; obtain ⟨_, _, rfl⟩ := List.mem_map.1 hw; rfl
            have hsub : subL ((l ++ [[]]).map fun s => S s) a (l.length - a) = some ((l.drop a).map fun s => S s) := by unfold subL; rw [if_pos (by simp only [List.length_map, List.length_append, List.length_cons, List.length_nil]; omega), hd]
            simp only [copyA, lenA, Int.toNat_natCast, hmin, shortA]
            rw [if_pos (by omega)]
            simp only [Option.bind_some, cellsOfA, AH.cells, List.getElem?_cons_succ, List.getElem?_cons_zero, if_true, Nat.mul_one]
            rw [hsub]
            simp only [Option.map_some, Option.bind_some]
            rw [if_pos hsc, if_neg h0]
            rw [storeN_L (by simp) hsc]
            simp only [List.getElem?_cons_succ, List.getElem?_cons_zero, blkDo_self, hput, Option.map_some, List.set_cons_succ, List.set_cons_zero]
          rw [hcopy]
          simp only [nd0, Y1n, Y1o, Y1p, Y1q, Y1w, Y1x, Y1y, Y1z, Y20, Y21, Y28, Y2a, AV.cells?, Nat.reduceAdd, Nat.reduceMul]
          rw [iaddr_Ln (show a < l.length + 1 by omega)]
          simp only [nd0, Y1n, Y1o, Y1p, Y1q, Y1w, Y1x, Y1y, Y1z, Y20, Y21, Y28, Y2a, AV.cells?, Nat.reduceAdd, Nat.reduceMul]
          rw [store1_L rfl]
          simp only [nd0, Y1n, Y1o, Y1p, Y1q, Y1w, Y1x, Y1y, Y1z, Y20, Y21, Y28, Y2a, AV.cells?, Nat.reduceAdd, Nat.reduceMul, show a < ((l.take a ++ z :: l.drop a).map fun s => S s).length by simp; omega]
          refine gh0.mk ⟨.slL 2 0 (l.length + 1) n1, _, _, rfl, .inr ⟨n1, ?_, ?_⟩⟩
          · rw [hins]; simp; omega
          · rw [hins]
            congr 2
            rw [show (S nm : AV) = (fun s => S s) nm from rfl, ← List.map_set]
            congr 1
            rw [List.set_append_right _ _ (by simp; omega)]
            simp [show min a l.length = a by omega]
def NamedOk (E : Env) (P : Program) (kinds : Str) (nf : Ex → Str) (x : Ex) : Prop := ∀ (g0 g1 : Nat) (l : List Str) (H : AH), l.length + x.size < 10000000 → SN kinds g0 g1 l H → ACalls E P 196 [x.ref, .ptrF [S kinds] 0, .ptrL 0 0 g0, .ptrL 1 0 g1] H fun r H' => r = .tup [] ∧ SN kinds g0 g1 (insAll l (x.raw nf)) H'
theorem namedL_spec {kinds : Str} {nf : Ex → Str} {g0 g1 : Nat} (xs : List Ex) {o : AV} (ho : o = .slN (Ex.refL xs) xs.length ∨ (o = nilS ∧ xs = [])) (hx : ∀ x ∈ xs, NamedOk E P kinds nf x) (hlen : xs.length < 10000000) (l : List Str) (hn : l.length + Ex.sizeL xs < 10000000) {H0 : AH} (hH0 : SN kinds g0 g1 l H0) {R : Kt} (hR : ∀ H, SN kinds g0 g1 (insAll l (Ex.rawL nf xs)) H → R (.tup []) H) :
    wLoop 1 (fun I3 => I3 (.val (.int .i64 0)) H0) fun I3 t76 H =>
      wGet (binA .lss t76 (Z xs.length)) H fun t77 H =>
      wIf t77 (
        wGet (iaddr 1 o t76) H fun t78 H =>
        wGet (load1 t78 H) H fun t79 H =>
        wGet (load1 (.ptrL 1 0 g1) H) H fun t80 H =>
        wCallV E P t80 [t79] H fun t82 H =>
        wGet (binA .add t76 (.val (.int .i64 1))) H fun t83 H =>
        I3 t83 H) (
        R (.tup []) H) := by
  refine wLoop.one (fun m i H => ∃ pre r, xs = pre ++ r ∧ i = Z pre.length ∧ m = r.length ∧ SN kinds g0 g1 (insAll l (Ex.rawL nf pre)) H) xs.length (gh1.mk ⟨[], xs, rfl, rfl, rfl, by simpa [Ex.rawL, insAll] using hH0⟩) ?_
  rintro m i H ⟨pre, r, hpr, rfl, rfl, hH⟩
  cases r with
  | nil =>
    rw [List.append_nil] at hpr
    subst hpr
    simp only [nd0, Y1n, Y1o, Y1p, Y1q, Y1w, Y1x, Y1y, Y1z, Y20, Y21, Y28, Y2a, AV.cells?, Nat.reduceAdd, Nat.reduceMul, Int.lt_irrefl]
    exact hR _ hH
  | cons x r =>
    have hxm : x ∈ xs := by rw [hpr]; simp
    have hlt : pre.length < xs.length := by rw [hpr]; simp
    have ho' : o = .slN (Ex.refL xs) xs.length := by
      rcases ho with h | ⟨_, rfl⟩
      · exact h
      · simp at hxm
    have hsum : Ex.sizeL xs = Ex.sizeL pre + (x.size + Ex.sizeL r) := by rw [hpr, sizeL_app]; rfl
    have hrl := Ex.rawL_len nf pre
    have hil := insAll_length (Ex.rawL nf pre) l
    simp only [nd0, Y1n, Y1o, Y1p, Y1q, Y1w, Y1x, Y1y, Y1z, Y20, Y21, Y28, Y2a, AV.cells?, Nat.reduceAdd, Nat.reduceMul, decide_eq_true (show (pre.length : Int) < (xs.length : Int) by omega), ho']
    rw [iaddr_Nn hlt]
    obtain ⟨y, tb, c, rfl, ht⟩ := hH
    simp only [nd0, Y1n, Y1o, Y1p, Y1q, Y1w, Y1x, Y1y, Y1z, Y20, Y21, Y28, Y2a, AV.cells?, Nat.reduceAdd, Nat.reduceMul, show (Ex.refL xs)[pre.length]? = some x.ref by rw [Ex.refL_map, hpr]; simp]
    refine ⟨⟨196, [], _, rfl, _, hx x hxm g0 g1 _ _ (by omega) ⟨y, tb, c, rfl, ht⟩, ?_⟩⟩
    rintro rr H' ⟨rfl, hH'⟩
    rw [binA_succ (by omega)]
    simp only [nd0, Y1n, Y1o, Y1p, Y1q, Y1w, Y1x, Y1y, Y1z, Y20, Y21, Y28, Y2a, AV.cells?, Nat.reduceAdd, Nat.reduceMul]
    refine back1.mk r.length (by simp) ⟨pre ++ [x], r, by rw [hpr]; simp, by simp, rfl, ?_⟩
    rw [Ex.rawL_append, insAll_append]
    simpa [Ex.rawL] using hH'
theorem of_full (x : Ex) : ∃ l : List Ex, (x.of = .slN (Ex.refL l) l.length ∨ (x.of = nilS ∧ l = [])) ∧ x.size = Ex.sizeL l + 1 ∧ (∀ y ∈ l, y.wt < x.wt ∧ (x.fine → y.fine)) ∧ ∀ nf : Ex → Str, x.raw nf = nmL nf x ++ Ex.rawL nf l := by
  cases x with
  | not y => exact ⟨[y], .inl rfl, by simp [Ex.size, Ex.sizeL], fun z hz => by simp at hz; subst hz; exact ⟨by simp [Ex.wt], fun h => h⟩, fun nf => by simp [Ex.raw, Ex.rawL]⟩
  | and l => exact ⟨l, .inl rfl, rfl, fun z hz => ⟨by have := Ex.wt_mem hz; simp only [Ex.wt]; omega, fun h => Ex.fine_mem h.2 hz⟩, fun nf => rfl⟩
  | or l => exact ⟨l, .inl rfl, rfl, fun z hz => ⟨by have := Ex.wt_mem hz; simp only [Ex.wt]; omega, fun h => Ex.fine_mem h.2 hz⟩, fun nf => rfl⟩
  | _ => exact ⟨[], .inr ⟨rfl, rfl⟩, rfl, by simp, fun nf => by simp [Ex.raw, Ex.rawL]⟩
theorem sizeL_len : ∀ m : List Ex, m.length ≤ Ex.sizeL m
  | [] => by simp [Ex.sizeL]
  | a :: m => by
    have h1 : 1 ≤ a.size := by cases a <;> simp [Ex.size]
    have h2 := sizeL_len m
    simp only [List.length_cons, Ex.sizeL]; omega
theorem nameOk_ne {s : Str} (h : nameOk s = true) : s ≠ [] := by rintro rfl; simp [nameOk] at h
theorem con1 : Lib.contains [98, 105, 116, 94, 126] [98, 105, 116] = true := by decide
theorem con2 : Lib.contains [98, 105, 116, 94, 126] [94] = true := by decide
theorem con3 : Lib.contains [98, 105, 116, 94, 126] [126] = true := by decide
theorem con4 : Lib.contains [94, 126] [98, 105, 116] = false := by decide
theorem con5 : Lib.contains [94, 126] [94] = true := by decide
theorem con6 : Lib.contains [94, 126] [126] = true := by decide
theorem named1_ok (B : RefSaysBodies0 E P) {kinds : Str} (hks : kinds.length ≤ 1000) {nf : Ex → Str} (hnf : ∀ x : Ex, x.fine → (decide (x.nm ≠ []) && Lib.contains kinds x.kind) = decide (nf x ≠ []) ∧ (nf x ≠ [] → nf x = x.nm)) : ∀ (n : Nat) (x : Ex), x.wt < n → x.wt ≤ 1000000 → x.fine → NamedOk E P kinds nf x := by
  intro n
  induction n with
  | zero => intro x hx; omega
  | succ n ih =>
    intro x hx hw hfi g0 g1 l H hn hH
    refine B.named1 _ _ _ _ _ _ ?_
    unfold F.pref_Expr_named_c1
    obtain ⟨h1, h2⟩ := hnf x hfi
    obtain ⟨xs, ho, hs, hm, hraw⟩ := of_full x
    have hsz := Ex.size_wt x hfi
    refine put_spec B hks x (by omega) hH (decide (nf x ≠ [])) h1.symm _ fun H1 hH1 => ?_
    have hH1' : SN kinds g0 g1 (insAll l (nmL nf x)) H1 := by
      unfold nmL
      by_cases h0 : nf x = []
      · simpa [h0, insAll] using hH1
      · rw [if_neg h0, h2 h0]
        rw [decide_eq_true h0] at hH1
        exact hH1
    have hil := insAll_length (nmL nf x) l
    have hnl := nmL_len nf x
    have hll := sizeL_len xs
    rw [Ex.ref_eq]
    simp only [nd0, Y1n, Y1o, Y1p, Y1q, Y1w, Y1x, Y1y, Y1z, Y20, Y21, Y28, Y2a, AV.cells?, Nat.reduceAdd, Nat.reduceMul, of_length ho]
    refine namedL_spec (R := fun r H' => True ∧ SN kinds g0 g1 (insAll l (x.raw nf)) H') xs ho (fun y hy => ih y (by have := (hm y hy).1; omega) (by have := (hm y hy).1; omega) ((hm y hy).2 hfi)) (by omega) _ (by omega) hH1' fun H2 hH2 => ⟨trivial, ?_⟩
    rw [hraw nf, insAll_append]
    exact hH2
theorem rnamed_spec (B : RefSaysBodies0 E P) {kinds : Str} (hks : kinds.length ≤ 1000) {nf : Ex → Str} (hnf : ∀ x : Ex, x.fine → (decide (x.nm ≠ []) && Lib.contains kinds x.kind) = decide (nf x ≠ []) ∧ (nf x ≠ [] → nf x = x.nm)) (x : Ex) (hw : x.wt ≤ 1000000) (hfi : x.fine) : FX E P 191 [x.ref, S kinds] (Lm S (onceS (x.raw nf))) := by
  refine FX.of ⟨Ex.ref_closed x, trivial, trivial⟩ (closed_S _) fun n R hR => B.named _ _ _ _ ?_
  unfold F.pref_Expr_named
  rw [cells?_scalar (show (S kinds : AV).scalar = true from rfl)]
  refine wNew.F' rfl ?_
  refine wNew.L (l := [nilS]) rfl ?_
  refine wNew.L (l := [.val .nilFunc]) rfl ?_
  simp only [nd0, Y1n, Y1o, Y1p, Y1q, Y1w, Y1x, Y1y, Y1z, Y20, Y21, Y28, Y2a, AV.cells?, Nat.reduceAdd, Nat.reduceMul]
  rw [store1_L rfl]
  simp only [nd0, Y1n, Y1o, Y1p, Y1q, Y1w, Y1x, Y1y, Y1z, Y20, Y21, Y28, Y2a, AV.cells?, Nat.reduceAdd, Nat.reduceMul, Nat.reduceLT]
  have hsz := Ex.size_wt x hfi
  refine ⟨⟨196, [], _, rfl, _, named1_ok B hks hnf (x.wt + 1) x (by omega) hw hfi n (n + 1) [] _ (by simp; omega) ⟨nilS, [], _, rfl, .inl ⟨rfl, rfl, rfl⟩⟩, ?_⟩⟩
  rintro r H' ⟨rfl, y, tb, c, rfl, ht⟩
  rw [insAll_once] at ht
  simp only [nd0, Y1n, Y1o, Y1p, Y1q, Y1w, Y1x, Y1y, Y1z, Y20, Y21, Y28, Y2a, AV.cells?, Nat.reduceAdd, Nat.reduceMul]
  rcases ht with ⟨rfl, hz, rfl⟩ | ⟨g2, rfl, rfl⟩
  · refine hR _ _ ?_
    rw [hz]
    exact .sub .nil
  · refine hR _ _ ?_
    refine Fk.then (Fk.slF (b := 2) (ys := (onceS (x.raw nf)).map fun s => S s) (onceS (x.raw nf)).length rfl rfl ?_) .F'
    rw [List.drop_zero, List.take_of_length_le (by simp)]
    exact FkL.same _
theorem refNames_spec (B : RefSaysBodies0 E P) (x : Ex) (hw : x.wt ≤ 1000000) (hfi : x.fine) : FX E P 182 [x.ref] (Lm S (onceS (x.raw nf1))) := by
  refine FX.of ⟨Ex.ref_closed x, trivial⟩ (closed_S _) fun n R hR => B.names _ _ _ ?_
  unfold F.pref_Expr_Names
  refine wCall.fx (rnamed_spec (nf := nf1) B (by simp) (fun y hy => ?_) x hw hfi) fun n1 => hR _ _ (.same _)
  cases y with
  | k b => cases b <;> exact ⟨by decide, by simp [nf1]⟩
  | bit s => exact ⟨by simp [Ex.nm, Ex.kind, nf1, nameOk_ne hy, con1, con2, con3, con5, con6], by simp [nf1, Ex.nm]⟩
  | rise s => exact ⟨by simp [Ex.nm, Ex.kind, nf1, nameOk_ne hy, con1, con2, con3, con5, con6], by simp [nf1, Ex.nm]⟩
  | fall s => exact ⟨by simp [Ex.nm, Ex.kind, nf1, nameOk_ne hy, con1, con2, con3, con5, con6], by simp [nf1, Ex.nm]⟩
  | _ => exact ⟨by simp [Ex.nm, nf1], by simp [nf1]⟩
theorem refEdges_spec (B : RefSaysBodies0 E P) (x : Ex) (hw : x.wt ≤ 1000000) (hfi : x.fine) : FX E P 185 [x.ref] (Lm S (onceS (x.raw nf2))) := by
  refine FX.of ⟨Ex.ref_closed x, trivial⟩ (closed_S _) fun n R hR => B.edges _ _ _ ?_
  unfold F.pref_Expr_Edges
  refine wCall.fx (rnamed_spec (nf := nf2) B (by simp) (fun y hy => ?_) x hw hfi) fun n1 => hR _ _ (.same _)
  cases y with
  | k b => cases b <;> exact ⟨by decide, by simp [nf2]⟩
  | bit s => exact ⟨by simp [Ex.nm, Ex.kind, nf2, con4], by simp [nf2, Ex.nm]⟩
  | rise s => exact ⟨by simp [Ex.nm, Ex.kind, nf2, nameOk_ne hy, con1, con2, con3, con5, con6], by simp [nf2, Ex.nm]⟩
  | fall s => exact ⟨by simp [Ex.nm, Ex.kind, nf2, nameOk_ne hy, con1, con2, con3, con5, con6], by simp [nf2, Ex.nm]⟩
  | _ => exact ⟨by simp [Ex.nm, nf2], by simp [nf2]⟩
end
end Go.Sc
namespace Go.Sc
open Go
set_option linter.unusedSimpArgs false
set_option linter.unusedVariables false
set_option linter.unnecessarySimpa false
mutual
/-- of its names: those that it asks what they are, those that it asks what they were -/
def Ex.on (Q Q' : Str → Prop) : Ex → Prop
  | .k _ => True
  | .bit s => Q s
  | .rise s => Q s ∧ Q' s
  | .fall s => Q s ∧ Q' s
  | .not x => x.on Q Q'
  | .and l => Ex.onL Q Q' l
  | .or l => Ex.onL Q Q' l
def Ex.onL (Q Q' : Str → Prop) : List Ex → Prop
  | [] => True
  | x :: l => x.on Q Q' ∧ Ex.onL Q Q' l
end
theorem Ex.on_mem {Q Q' : Str → Prop} {x : Ex} : ∀ {l : List Ex}, Ex.onL Q Q' l → x ∈ l → x.on Q Q'
  | y :: l, h, hx => by
    rcases List.mem_cons.1 hx with rfl | hx
    · exact h.1
    · exact Ex.on_mem h.2 hx
mutual
theorem Ex.on_of {Q Q' : Str → Prop} : ∀ x : Ex, x.fine → (∀ s ∈ x.raw nf1, Q s) → (∀ s ∈ x.raw nf2, Q' s) → x.on Q Q'
  | .k _, _, _, _ => trivial
  | .bit s, hf, h1, _ => h1 s (by simp [Ex.raw, nmL, nf1, nameOk_ne hf])
  | .rise s, hf, h1, h2 => ⟨h1 s (by simp [Ex.raw, nmL, nf1, nameOk_ne hf]), h2 s (by simp [Ex.raw, nmL, nf2, nameOk_ne hf])⟩
  | .fall s, hf, h1, h2 => ⟨h1 s (by simp [Ex.raw, nmL, nf1, nameOk_ne hf]), h2 s (by simp [Ex.raw, nmL, nf2, nameOk_ne hf])⟩
  | .not x, hf, h1, h2 => Ex.on_of x hf (fun s hs => h1 s (by simp [Ex.raw, hs])) (fun s hs => h2 s (by simp [Ex.raw, hs]))
  | .and l, hf, h1, h2 => Ex.onL_of l hf.2 (fun s hs => h1 s (by simp [Ex.raw, hs])) (fun s hs => h2 s (by simp [Ex.raw, hs]))
  | .or l, hf, h1, h2 => Ex.onL_of l hf.2 (fun s hs => h1 s (by simp [Ex.raw, hs])) (fun s hs => h2 s (by simp [Ex.raw, hs]))
theorem Ex.onL_of {Q Q' : Str → Prop} : ∀ l : List Ex, Ex.fineL l → (∀ s ∈ Ex.rawL nf1 l, Q s) → (∀ s ∈ Ex.rawL nf2 l, Q' s) → Ex.onL Q Q' l
  | [], _, _, _ => trivial
  | x :: l, hf, h1, h2 => ⟨Ex.on_of x hf.1 (fun s hs => h1 s (by simp [Ex.rawL, hs])) (fun s hs => h2 s (by simp [Ex.rawL, hs])), Ex.onL_of l hf.2 (fun s hs => h1 s (by simp [Ex.rawL, hs])) (fun s hs => h2 s (by simp [Ex.rawL, hs]))⟩
end
/-- a question of names, answered for some -/
structure AsksOn (E : Env) (P : Program) (f : AV) (p : Str → Bool) (Q : Str → Prop) : Prop where
  ok : ∃ k cc, f = .fn k [] cc ∧ AV.closedL cc ∧ ∀ s, Q s → FX E P k ([S s] ++ cc) (Bo (p s))
theorem AsksOn.closed {E : Env} {P : Program} {f : AV} {p : Str → Bool} {Q : Str → Prop} (h : AsksOn E P f p Q) : f.closed := by
  obtain ⟨k, cc, rfl, h, _⟩ := h.ok
  exact ⟨trivial, h⟩
theorem AsksOn.scalar {E : Env} {P : Program} {f : AV} {p : Str → Bool} {Q : Str → Prop} (h : AsksOn E P f p Q) : f.scalar = true := by
  obtain ⟨k, cc, rfl, h, _⟩ := h.ok
  rfl
theorem AsksOn.call {E : Env} {P : Program} {f : AV} {p : Str → Bool} {Q : Str → Prop} (h : AsksOn E P f p Q) (s : Str) (hs : Q s) {H : AH} {K : Kt} (hK : ∀ n, K (Bo (p s)) ⟨H.bs, n⟩) : wCallV E P f [S s] H K := by
  obtain ⟨k, cc, rfl, _, h⟩ := h.ok
  exact wCallV.fx (fs := []) (h s hs) hK
section
variable {E : Env} {P : Program}
end
end Go.Sc
namespace Go.Sc
open Go
set_option linter.unusedSimpArgs false
set_option linter.unusedVariables false
/-- variables so far, and clauses -/
structure Bd where
  vars : Nat
  cl : List (List Int)
theorem two_mem {P : Int → Prop} {a b : Int} (h1 : P a) (h2 : P b) : ∀ y ∈ [a, b], P y := fun y hy => by
  simp at hy
  rcases hy with rfl | rfl
  · exact h1
  · exact h2
def negL (l : List Int) : List Int := l.map fun x => -x
def andP (l : List Int) (b : Bd) : Int × Bd :=
  (((b.vars + 1 : Nat) : Int), ⟨b.vars + 1, b.cl ++ (l.map fun x => [-((b.vars + 1 : Nat) : Int), x]) ++ [((b.vars + 1 : Nat) : Int) :: negL l]⟩)
def constP (c : Bool) (b : Bd) : Int × Bd := (((b.vars + 1 : Nat) : Int), ⟨b.vars + 1, b.cl ++ [[if c then ((b.vars + 1 : Nat) : Int) else -((b.vars + 1 : Nat) : Int)]]⟩)
mutual
def litP (nm : Str → Int) : Ex → Bd → Int × Bd
  | .bit s, b => (nm s, b)
  | .rise s, b => andP [nm s, -nm (94 :: s)] b
  | .fall s, b => andP [-nm s, nm (94 :: s)] b
  | .not x, b => (-(litP nm x b).1, (litP nm x b).2)
  | .and l, b => andP (litsP nm l b).1 (litsP nm l b).2
  | .or l, b => (-(andP (negL (litsP nm l b).1) (litsP nm l b).2).1, (andP (negL (litsP nm l b).1) (litsP nm l b).2).2)
  | .k c, b => constP c b
def litsP (nm : Str → Int) : List Ex → Bd → List Int × Bd
  | [], b => ([], b)
  | x :: l, b => ((litP nm x b).1 :: (litsP nm l (litP nm x b).2).1, (litsP nm l (litP nm x b).2).2)
end
theorem negL_len (l : List Int) : (negL l).length = l.length := by simp [negL]
theorem litsP_app (nm : Str → Int) : ∀ (l m : List Ex) (b : Bd), litsP nm (l ++ m) b = ((litsP nm l b).1 ++ (litsP nm m (litsP nm l b).2).1, (litsP nm m (litsP nm l b).2).2)
  | [], m, b => by simp [litsP]
  | x :: l, m, b => by simp only [List.cons_append, litsP, litsP_app nm l m, List.cons_append]
theorem litsP_len (nm : Str → Int) : ∀ (l : List Ex) (b : Bd), (litsP nm l b).1.length = l.length
  | [], b => rfl
  | x :: l, b => by simp only [litsP, List.length_cons, litsP_len nm l]
/-! ### how many -/
theorem andP_vars (l : List Int) (b : Bd) : (andP l b).2.vars = b.vars + 1 := rfl
theorem andP_cl (l : List Int) (b : Bd) : (andP l b).2.cl.length = b.cl.length + l.length + 1 := by simp [andP, negL]; omega
mutual
theorem litP_vars (nm : Str → Int) : ∀ (x : Ex) (b : Bd), b.vars ≤ (litP nm x b).2.vars ∧ (litP nm x b).2.vars ≤ b.vars + x.size
  | .bit s, b => by simp [litP, Ex.size]
  | .rise s, b => by simp [litP, andP, Ex.size]
  | .fall s, b => by simp [litP, andP, Ex.size]
  | .k c, b => by simp [litP, constP, Ex.size]
  | .not x, b => by have := litP_vars nm x b; simp only [litP, Ex.size]; omega
  | .and l, b => by have := litsP_vars nm l b; simp only [litP, Ex.size, andP_vars]; omega
  | .or l, b => by have := litsP_vars nm l b; simp only [litP, Ex.size, andP_vars]; omega
theorem litsP_vars (nm : Str → Int) : ∀ (l : List Ex) (b : Bd), b.vars ≤ (litsP nm l b).2.vars ∧ (litsP nm l b).2.vars ≤ b.vars + Ex.sizeL l
  | [], b => by simp [litsP, Ex.sizeL]
  | x :: l, b => by have h1 := litP_vars nm x b; have h2 := litsP_vars nm l (litP nm x b).2; simp only [litsP, Ex.sizeL]; omega
end
mutual
theorem litP_cl (nm : Str → Int) : ∀ (x : Ex) (b : Bd), b.cl.length ≤ (litP nm x b).2.cl.length ∧ (litP nm x b).2.cl.length + 1 ≤ b.cl.length + 4 * x.size
  | .bit s, b => by simp [litP, Ex.size]
  | .rise s, b => by simp [litP, andP, Ex.size]
  | .fall s, b => by simp [litP, andP, Ex.size]
  | .k c, b => by simp [litP, constP, Ex.size]
  | .not x, b => by have := litP_cl nm x b; simp only [litP, Ex.size]; omega
  | .and l, b => by have := litsP_cl nm l b; have h2 := litsP_len nm l b; simp only [litP, Ex.size, andP_cl]; omega
  | .or l, b => by have := litsP_cl nm l b; have h2 := litsP_len nm l b; simp only [litP, Ex.size, andP_cl, negL_len]; omega
theorem litsP_cl (nm : Str → Int) : ∀ (l : List Ex) (b : Bd), b.cl.length ≤ (litsP nm l b).2.cl.length ∧ (litsP nm l b).2.cl.length + l.length ≤ b.cl.length + 4 * Ex.sizeL l
  | [], b => by simp [litsP]
  | x :: l, b => by
    have h1 := litP_cl nm x b
    have h2 := litsP_cl nm l (litP nm x b).2
    simp only [litsP, Ex.sizeL, List.length_cons]
    omega
end
/-! ### literals are of variables that are there -/
def okB (V : Nat) (c : List Int) : Prop := ∀ x ∈ c, okLit V x
theorem okLit_mono {V W : Nat} {x : Int} (h : okLit V x) (hv : V ≤ W) : okLit W x := by unfold okLit at *; omega
theorem okB_mono {V W : Nat} {c : List Int} (h : okB V c) (hv : V ≤ W) : okB W c := fun x hx => okLit_mono (h x hx) hv
theorem okLit_neg {V : Nat} {x : Int} (h : okLit V x) : okLit V (-x) := by unfold okLit at *; omega
theorem okB_neg {V : Nat} {c : List Int} (h : okB V c) : okB V (negL c) := fun x hx => by
  obtain ⟨y, hy, rfl⟩ := List.mem_map.1 hx
  exact okLit_neg (h y hy)
theorem okLit_new (V : Nat) : okLit (V + 1) ((V + 1 : Nat) : Int) := by unfold okLit; omega
theorem andP_ok {l : List Int} {b : Bd} (hl : okB b.vars l) (hb : ∀ c ∈ b.cl, okB b.vars c) : okLit (andP l b).2.vars (andP l b).1 ∧ ∀ c ∈ (andP l b).2.cl, okB (andP l b).2.vars c := by
  refine ⟨okLit_new _, fun c hc => ?_⟩
  simp only [andP, List.mem_append, List.mem_map, List.mem_singleton] at hc ⊢
  rcases hc with (hc | ⟨x, hx, rfl⟩) | rfl
  · exact okB_mono (hb c hc) (by omega)
  · intro y hy
    simp at hy
    rcases hy with rfl | rfl
    · exact okLit_neg (okLit_new _)
    · exact okLit_mono (hl _ hx) (by omega)
  · intro y hy
    rcases List.mem_cons.1 hy with rfl | hy
    · exact okLit_new _
    · exact okLit_mono (okB_neg hl y hy) (by omega)
theorem constP_ok {k : Bool} {b : Bd} (hb : ∀ c ∈ b.cl, okB b.vars c) : okLit (constP k b).2.vars (constP k b).1 ∧ ∀ c ∈ (constP k b).2.cl, okB (constP k b).2.vars c := by
  refine ⟨okLit_new _, fun c hc => ?_⟩
  simp only [constP, List.mem_append, List.mem_singleton] at hc ⊢
  rcases hc with hc | rfl
  · exact okB_mono (hb c hc) (by omega)
  · intro y hy
    simp at hy; subst hy
    cases k
    · exact okLit_neg (okLit_new _)
    · exact okLit_new _
def nmOk (nm : Str → Int) (V : Nat) (x : Ex) : Prop := x.on (fun s => okLit V (nm s)) (fun s => okLit V (nm (94 :: s)))
def nmOkL (nm : Str → Int) (V : Nat) (l : List Ex) : Prop := Ex.onL (fun s => okLit V (nm s)) (fun s => okLit V (nm (94 :: s))) l
mutual
theorem Ex.on_imp {Q Q' R R' : Str → Prop} (h : ∀ s, Q s → R s) (h' : ∀ s, Q' s → R' s) : ∀ x : Ex, x.on Q Q' → x.on R R'
  | .k _, _ => trivial
  | .bit s, w => h s w
  | .rise s, w => ⟨h s w.1, h' s w.2⟩
  | .fall s, w => ⟨h s w.1, h' s w.2⟩
  | .not x, w => Ex.on_imp h h' x w
  | .and l, w => Ex.onL_imp h h' l w
  | .or l, w => Ex.onL_imp h h' l w
theorem Ex.onL_imp {Q Q' R R' : Str → Prop} (h : ∀ s, Q s → R s) (h' : ∀ s, Q' s → R' s) : ∀ l : List Ex, Ex.onL Q Q' l → Ex.onL R R' l
  | [], _ => trivial
  | x :: l, w => ⟨Ex.on_imp h h' x w.1, Ex.onL_imp h h' l w.2⟩
end
theorem nmOk_mono {nm : Str → Int} {V W : Nat} {x : Ex} (h : nmOk nm V x) (hv : V ≤ W) : nmOk nm W x := Ex.on_imp (fun _ k => okLit_mono k hv) (fun _ k => okLit_mono k hv) x h
theorem nmOkL_mono {nm : Str → Int} {V W : Nat} {l : List Ex} (h : nmOkL nm V l) (hv : V ≤ W) : nmOkL nm W l := Ex.onL_imp (fun _ k => okLit_mono k hv) (fun _ k => okLit_mono k hv) l h
mutual
theorem litP_ok (nm : Str → Int) : ∀ (x : Ex) (b : Bd), nmOk nm b.vars x → (∀ c ∈ b.cl, okB b.vars c) → okLit (litP nm x b).2.vars (litP nm x b).1 ∧ ∀ c ∈ (litP nm x b).2.cl, okB (litP nm x b).2.vars c
  | .bit s, b, h, hb => ⟨h, hb⟩
  | .rise s, b, h, hb => andP_ok (two_mem h.1 (okLit_neg h.2)) hb
  | .fall s, b, h, hb => andP_ok (two_mem (okLit_neg h.1) h.2) hb
  | .k c, b, h, hb => constP_ok hb
  | .not x, b, h, hb => by
    obtain ⟨h1, h2⟩ := litP_ok nm x b h hb
    exact ⟨okLit_neg h1, h2⟩
  | .and l, b, h, hb => by
    obtain ⟨h1, h2⟩ := litsP_ok nm l b h hb
    exact andP_ok h1 h2
  | .or l, b, h, hb => by
    obtain ⟨h1, h2⟩ := litsP_ok nm l b h hb
    obtain ⟨k1, k2⟩ := andP_ok (okB_neg h1) h2
    exact ⟨okLit_neg k1, k2⟩
theorem litsP_ok (nm : Str → Int) : ∀ (l : List Ex) (b : Bd), nmOkL nm b.vars l → (∀ c ∈ b.cl, okB b.vars c) → okB (litsP nm l b).2.vars (litsP nm l b).1 ∧ ∀ c ∈ (litsP nm l b).2.cl, okB (litsP nm l b).2.vars c
  | [], b, h, hb => ⟨by intro x hx; simp [litsP] at hx, hb⟩
  | x :: l, b, h, hb => by
    obtain ⟨h1, h2⟩ := litP_ok nm x b h.1 hb
    have hv := litP_vars nm x b
    obtain ⟨k1, k2⟩ := litsP_ok nm l (litP nm x b).2 (nmOkL_mono h.2 hv.1) h2
    have hw := litsP_vars nm l (litP nm x b).2
    refine ⟨fun y hy => ?_, k2⟩
    simp only [litsP, List.mem_cons] at hy ⊢
    rcases hy with rfl | hy
    · exact okLit_mono h1 hw.1
    · exact k1 y hy
end
/-! ### what the clauses say -/
/-- the values tell of names what is so -/
def tells (nm : Str → Int) (a : Nat → Bool) (p q : Str → Bool) (x : Ex) : Prop := x.on (fun s => lh a (nm s) = p s) (fun s => lh a (nm (94 :: s)) = q s)
/-! ### values for what is new -/
/-! ### each new variable is told by those ahead of it -/
def DefAt (v : Nat) (cl : List (List Int)) : Prop := [(v : Int)] ∈ cl ∨ [-(v : Int)] ∈ cl ∨ ∃ l : List Int, (∀ x ∈ l, x ≠ 0 ∧ vr x < v) ∧ (∀ x ∈ l, [-(v : Int), x] ∈ cl) ∧ ((v : Int) :: negL l) ∈ cl
theorem DefAt.mono {v : Nat} {cl cl' : List (List Int)} (h : DefAt v cl) (hs : ∀ c ∈ cl, c ∈ cl') : DefAt v cl' := by
  rcases h with h | h | ⟨l, h1, h2, h3⟩
  · exact .inl (hs _ h)
  · exact .inr (.inl (hs _ h))
  · exact .inr (.inr ⟨l, h1, fun x hx => hs _ (h2 x hx), hs _ h3⟩)
end Go.Sc
namespace Go.Sc
open Go
set_option linter.unusedSimpArgs false
set_option linter.unusedVariables false
set_option linter.unnecessarySimpa false
section
variable {p p' q q' : Str → Bool}
end
theorem nm12 (x : Ex) (s : Str) (h : s ∈ nmL nf2 x) : s ∈ nmL nf1 x := by
  cases x <;> first | exact h | (simp [nmL, nf2] at h)
mutual
theorem Ex.edge_name : ∀ (x : Ex) (s : Str), s ∈ x.raw nf2 → s ∈ x.raw nf1
  | .k _, s, h => nm12 _ s h
  | .bit _, s, h => nm12 _ s h
  | .rise _, s, h => nm12 _ s h
  | .fall _, s, h => nm12 _ s h
  | .not y, s, h => by
    simp only [Ex.raw, List.mem_append] at h ⊢
    exact h.imp (nm12 _ s) (Ex.edge_name y s)
  | .and l, s, h => by
    simp only [Ex.raw, List.mem_append] at h ⊢
    exact h.imp (nm12 _ s) (Ex.edgeL_name l s)
  | .or l, s, h => by
    simp only [Ex.raw, List.mem_append] at h ⊢
    exact h.imp (nm12 _ s) (Ex.edgeL_name l s)
theorem Ex.edgeL_name : ∀ (l : List Ex) (s : Str), s ∈ Ex.rawL nf2 l → s ∈ Ex.rawL nf1 l
  | [], s, h => h
  | x :: l, s, h => by
    simp only [Ex.rawL, List.mem_append] at h ⊢
    exact h.imp (Ex.edge_name x s) (Ex.edgeL_name l s)
end
section
variable {E : Env} {P : Program}
/-- those of a list that are not among others -/
def out (r l : List Str) : List Str := r.filter fun s => !decide (s ∈ l)
end
end Go.Sc
namespace Go.Sc
open Go
set_option linter.unusedSimpArgs false
set_option linter.unnecessarySimpa false
/-- rounds part more and more -/
theorem iter_apart {t : Table} {s s' : Nat} (hs : s < t.next.length) (hs' : s' < t.next.length) : ∀ {j k : Nat}, j ≤ k → cell (iter t k) s = cell (iter t k) s' → cell (iter t j) s = cell (iter t j) s' := by
  intro j k hjk
  induction k with
  | zero => intro h; have : j = 0 := by omega
            subst this; exact h
  | succ k ih =>
    intro h
    by_cases hj : j = k + 1
    · subst hj; exact h
    · refine ih (by omega) ?_
      have := (stepR_same (now := iter t k) hs hs').1 h
      simp only [line, lineTo] at this
      injection this

end Go.Sc
namespace Go.Sc
open Go
set_option linter.unusedSimpArgs false
set_option linter.unusedVariables false
set_option linter.unnecessarySimpa false
theorem getD_row (l : List (List Int)) (i : Nat) : l.getD i [] = row l i := by simp [row, List.getD]
theorem getD_cell (l : List Int) (i : Nat) : l.getD i 0 = cell l i := by simp [cell, List.getD]

theorem lenA_LI (l : List Int) : lenA (LI l) = some (Z l.length) := rfl
theorem lenA_LLI (l : List (List Int)) : lenA (LLI l) = some (Z l.length) := rfl
theorem iaddr_LI {l : List Int} {k : IntKind} {i : Nat} (h : i < l.length) : iaddr 1 (LI l) (.val (.int k i)) = some (.ptrF (l.map fun z => Z z) i) := iaddr_Nn h
theorem iaddr_LLI {l : List (List Int)} {k : IntKind} {i : Nat} (h : i < l.length) : iaddr 1 (LLI l) (.val (.int k i)) = some (.ptrF (l.map LI) i) := iaddr_Nn h
theorem row_get {l : List (List Int)} {i : Nat} (h : i < l.length) : (l.map LI)[i]? = some (LI (row l i)) := by rw [mapL_get h, getD_row]
theorem cell_at {l : List Int} {i : Nat} (h : i < l.length) : (l.map fun z => Z z)[i]? = some (Z (cell l i)) := by rw [mapZ_get h, getD_cell]

section
variable {E : Env} {P : Program}
end
end Go.Sc
namespace Go.Sc
open Go
set_option linter.unusedSimpArgs false
set_option linter.unusedVariables false
set_option linter.unnecessarySimpa false
section
variable {E : Env} {P : Program}
theorem Ex.enc_nil (x : Ex) : eqA .iface x.enc nilE = some false := by cases x <;> rfl
end
end Go.Sc
namespace Go.Sc
open Go
set_option linter.unusedSimpArgs false
set_option linter.unusedVariables false
set_option linter.unnecessarySimpa false
section
variable {E : Env} {P : Program}
end
/-- what 'read' answers -/
def readA (s : Str) : AV := if 1000 < s.length then .tup [nilE, nilP, Bo false] else match parseR s with
  | .ok x _ => .tup [x.enc, x.ref, Bo true]
  | .no _ _ => .tup [nilE, nilP, Bo false]
theorem readA_closed (s : Str) : (readA s).closed := by
  unfold readA
  split
  · exact ⟨trivial, trivial, trivial, trivial⟩
  split
  · exact ⟨Ex.enc_closed _, Ex.ref_closed _, trivial, trivial⟩
  · exact ⟨trivial, trivial, trivial, trivial⟩
section
variable {E : Env} {P : Program}
theorem read_spec0 (er : RefReadBodies E P) (ep : ParseBodies E P) (hB : Body1 E P 169 F.law_read) (s : Str) : FX E P 169 [S s] (readA s) := by
  refine FX.of' ⟨trivial, trivial⟩ (readA_closed s) fun n R hR => hB _ _ _ ?_
  unfold F.law_read
  unfold readA at hR
  simp only [nd0, Y1n, Y1o, Y1p, Y1q, Y1w, Y1x, Y1y, Y1z, Y20, Y21, Y28, Y2a, AV.cells?, Nat.reduceAdd, Nat.reduceMul]
  by_cases hl : 1000 < s.length
  · rw [if_pos hl] at hR
    simp only [nd0, Y1n, Y1o, Y1p, Y1q, Y1w, Y1x, Y1y, Y1z, Y20, Y21, Y28, Y2a, AV.cells?, Nat.reduceAdd, Nat.reduceMul, decide_eq_true (show (1000 : Int) < (s.length : Int) by omega)]
    exact hR _ _ rfl
  rw [if_neg hl] at hR
  simp only [nd0, Y1n, Y1o, Y1p, Y1q, Y1w, Y1x, Y1y, Y1z, Y20, Y21, Y28, Y2a, AV.cells?, Nat.reduceAdd, Nat.reduceMul, decide_eq_false (show ¬ (1000 : Int) < (s.length : Int) by omega)]
  refine wCall.fx (ExprParse_spec er s) fun n => ?_
  have hpar := Parse_spec ep s
  unfold parseA at hpar
  unfold refParseA
  rw [if_neg (by omega)] at hpar
  rw [if_neg (by omega)]
  cases hp : parseR s with
  | no e p =>
    have he := parseR_err hp
    rw [hp] at hR
    simp only [nd0, Y1n, Y1o, Y1p, Y1q, Y1w, Y1x, Y1y, Y1z, Y20, Y21, Y28, Y2a, AV.cells?, Nat.reduceAdd, Nat.reduceMul]
    refine wNew.L (l := [Z 0, Z 0]) rfl ?_
    simp only [nd0, Y1n, Y1o, Y1p, Y1q, Y1w, Y1x, Y1y, Y1z, Y20, Y21, Y28, Y2a, AV.cells?, Nat.reduceAdd, Nat.reduceMul]
    rw [storeN_L (n := 2) (xs := [Z e, Z p]) rfl rfl]
    simp only [nd0, Y1n, Y1o, Y1p, Y1q, Y1w, Y1x, Y1y, Y1z, Y20, Y21, Y28, Y2a, AV.cells?, Nat.reduceAdd, Nat.reduceMul, put_two, decide_eq_false (show ¬ (e : Int) = 0 by omega)]
    exact hR _ _ rfl
  | ok x j =>
    rw [hp] at hpar hR
    simp only [nd0, Y1n, Y1o, Y1p, Y1q, Y1w, Y1x, Y1y, Y1z, Y20, Y21, Y28, Y2a, AV.cells?, Nat.reduceAdd, Nat.reduceMul]
    refine wNew.L (l := [Z 0, Z 0]) rfl ?_
    simp only [nd0, Y1n, Y1o, Y1p, Y1q, Y1w, Y1x, Y1y, Y1z, Y20, Y21, Y28, Y2a, AV.cells?, Nat.reduceAdd, Nat.reduceMul]
    rw [storeN_L (n := 2) (xs := [Z 0, Z (-1)]) rfl rfl]
    simp only [nd0, Y1n, Y1o, Y1p, Y1q, Y1w, Y1x, Y1y, Y1z, Y20, Y21, Y28, Y2a, AV.cells?, Nat.reduceAdd, Nat.reduceMul, put_two, show decide ((0 : Int) = 0) = true from rfl]
    refine wCall.fx hpar fun n => ?_
    simp only [nd0, Y1n, Y1o, Y1p, Y1q, Y1w, Y1x, Y1y, Y1z, Y20, Y21, Y28, Y2a, AV.cells?, Nat.reduceAdd, Nat.reduceMul]
    exact hR _ _ rfl
end
end Go.Sc
namespace Go.Sc
open Go
set_option linter.unusedSimpArgs false
set_option linter.unusedVariables false
set_option linter.unnecessarySimpa false
/-! ### bits -/
def ixN (L : List Str) (s : Str) : Nat := (idx L s).toNat
theorem mem_split {L : List Str} {s : Str} (h : s ∈ L) : ∃ pre rest, L = pre ++ s :: rest ∧ s ∉ pre := by
  induction L with
  | nil => simp at h
  | cons a l ih =>
    by_cases e : s = a
    · subst e; exact ⟨[], l, rfl, by simp⟩
    · obtain ⟨pre, rest, h1, h2⟩ := ih (by simpa [e] using h)
      exact ⟨a :: pre, rest, by rw [h1]; rfl, by simp [e, h2]⟩
theorem ixN_of {L : List Str} {s : Str} (h : s ∈ L) : idx L s = (ixN L s : Nat) := by
  obtain ⟨pre, rest, rfl, hn⟩ := mem_split h
  unfold ixN
  rw [idx_app hn]; simp
theorem ixN_app {pre rest : List Str} {s : Str} (hn : s ∉ pre) : ixN (pre ++ s :: rest) s = pre.length := by unfold ixN; rw [idx_app hn]; simp
theorem ixN_lt {L : List Str} {s : Str} (h : s ∈ L) : ixN L s < L.length := by
  obtain ⟨pre, rest, rfl, hn⟩ := mem_split h
  rw [ixN_app hn]; simp
/-- what an expression says of values of some names -/
def sv (x : Ex) (L : List Str) (v : Nat) : Bool := x.says (fun s => v.testBit (ixN L s)) (fun s => v.testBit (ixN L s))
section
variable {E : Env} {P : Program}
def cond (x : Ex) (k v : Nat) : Bool := !v.testBit k && (sv x x.names v != sv x x.names (v ||| 2 ^ k))
end
end Go.Sc
namespace Go.Sc.F
open Go Go.Sc
set_option linter.unusedVariables false
/-- signalbox/gate.Of -/
def gate_Of (E : Env) (P : Program) (a0 : AV) (H : AH) (R : Kt) : Prop :=
  wNew 2 (some [(.val (.int .i64 0)), (.val (.slice none 0 0))]) H fun t2 H =>
  wBool (eqA .iface a0 (.val (.nilIface))) H false fun t12 H =>
  wIf t12 (
    wAgg (fillA [(.val (.int .i64 0)), (.val (.slice none 0 0))] []) H fun t13 H =>
    wPut (storeN 2 t2 t13 H) fun _u H =>
    wGet (retPack [loadN 2 t2 H, some (.val (.int .i64 0)), some (.ifc 1 (.val (.int .i64 7)))]) H R) (
    wCall E P 156 [a0] H fun t16 H =>
    wGet (binA .gtr t16 (.val (.int .i64 300))) H fun t17 H =>
    wIf t17 (
      wAgg (fillA [(.val (.int .i64 0)), (.val (.slice none 0 0))] []) H fun t18 H =>
      wPut (storeN 2 t2 t18 H) fun _u H =>
      wGet (retPack [loadN 2 t2 H, some (.val (.int .i64 0)), some (.ifc 1 (.val (.int .i64 4)))]) H R) (
      wMapN H fun t20 H =>
      wAgg (fillA [(.val (.int .i64 0)), (.val (.slice none 0 0)), (.val (.map none))] [(2, 1, t20)]) H fun t21 H =>
      wNew 3 (AV.cells? t21) H fun t22 H =>
      wCall E P 181 [a0] H fun t24 H =>
      wGet (lenA t24) H fun t25 H =>
      wLoop 1 (fun I1 => I1 (.val (.int .i64 0)) H) fun I1 t26 H =>
        wGet (binA .lss t26 t25) H fun t27 H =>
        wIf t27 (
          wGet (iaddr 1 t24 t26) H fun t28 H =>
          wGet (load1 t28 H) H fun t29 H =>
          wGet (nilA t22) H fun t31 H =>
          wGet (faddr 2 t31) H fun t32 H =>
          wGet (load1 t32 H) H fun t33 H =>
          wCall E P 234 [t22] H fun t36 H =>
          (wGet (load1 t32 H) H (fun y H2 => y = t33 ∧ H2 = H)) ∧
          wPut (insertA .string t33 t29 t36 H) fun _u H =>
          wGet (binA .add t26 (.val (.int .i64 1))) H fun t37 H =>
          I1 t37 H) (
          wCall E P 184 [a0] H fun t39 H =>
          wGet (lenA t39) H fun t40 H =>
          wLoop 1 (fun I2 => I2 (.val (.int .i64 0)) H) fun I2 t41 H =>
            wGet (binA .lss t41 t40) H fun t42 H =>
            wIf t42 (
              wGet (iaddr 1 t39 t41) H fun t43 H =>
              wGet (load1 t43 H) H fun t44 H =>
              wGet (nilA t22) H fun t46 H =>
              wGet (faddr 2 t46) H fun t47 H =>
              wGet (load1 t47 H) H fun t48 H =>
              wGet (binA .add (.val (.string ⟨#[94]⟩)) t44) H fun t50 H =>
              wCall E P 234 [t22] H fun t52 H =>
              (wGet (load1 t47 H) H (fun y H2 => y = t48 ∧ H2 = H)) ∧
              wPut (insertA .string t48 t50 t52 H) fun _u H =>
              wGet (binA .add t41 (.val (.int .i64 1))) H fun t53 H =>
              I2 t53 H) (
              wCall E P 235 [t22, a0] H fun t56 H =>
              wGet (nilA t22) H fun t58 H =>
              wGet (faddr 0 t58) H fun t59 H =>
              wGet (loadN 2 t59 H) H fun t60 H =>
              wPut (storeN 2 t2 t60 H) fun _u H =>
              wGet (retPack [loadN 2 t2 H, some t56, some (.val (.nilIface))]) H R))))

/-- (*signalbox/gate.builder).fresh -/
def pgate_builder_fresh (E : Env) (P : Program) (a0 : AV) (H : AH) (R : Kt) : Prop :=
  wGet (nilA a0) H fun t4 H =>
  wGet (faddr 0 t4) H fun t5 H =>
  wGet (faddr 0 t5) H fun t6 H =>
  wGet (load1 t6 H) H fun t7 H =>
  wGet (binA .add t7 (.val (.int .i64 1))) H fun t8 H =>
  wGet (nilA a0) H fun t9 H =>
  wGet (faddr 0 t9) H fun t10 H =>
  wGet (faddr 0 t10) H fun t11 H =>
  wPut (store1 t11 t8 H) fun _u H =>
  wGet (nilA a0) H fun t13 H =>
  wGet (faddr 0 t13) H fun t14 H =>
  wGet (faddr 0 t14) H fun t15 H =>
  wGet (load1 t15 H) H fun t16 H =>
  R t16 H

/-- (*signalbox/gate.builder).lit -/
def pgate_builder_lit (E : Env) (P : Program) (a0 a1 : AV) (H : AH) (R : Kt) : Prop :=
  wGet (assertA 14 (.val (.string ⟨#[]⟩)) a1) H fun t21 H =>
  wGet (extractA t21 1) H fun t22 H =>
  wGet (extractA t21 0) H fun t23 H =>
  wIf t22 (
    wGet (nilA a0) H fun t25 H =>
    wGet (faddr 2 t25) H fun t26 H =>
    wGet (load1 t26 H) H fun t27 H =>
    wGet (lookupA .string (.val (.int .i64 0)) false t27 t23 H) H fun t29 H =>
    R t29 H) (
    wGet (assertA 12 (.val (.string ⟨#[]⟩)) a1) H fun t30 H =>
    wGet (extractA t30 1) H fun t31 H =>
    wGet (extractA t30 0) H fun t32 H =>
    wIf t31 (
      wGet (nilA a0) H fun t35 H =>
      wGet (faddr 2 t35) H fun t36 H =>
      wGet (load1 t36 H) H fun t37 H =>
      wGet (nilA a0) H fun t41 H =>
      wGet (faddr 2 t41) H fun t42 H =>
      wGet (load1 t42 H) H fun t43 H =>
      wGet (binA .add (.val (.string ⟨#[94]⟩)) t32) H fun t45 H =>
      (
        wGet (lookupA .string (.val (.int .i64 0)) false t37 t32 H) H fun t39 H =>
        (wGet (load1 t42 H) H (fun y H2 => y = t43 ∧ H2 = H)) ∧
        wGet (lookupA .string (.val (.int .i64 0)) false t43 t45 H) H fun t46 H =>
        (wGet (load1 t36 H) H (fun y H2 => y = t37 ∧ H2 = H)) ∧
        wGet (unA .neg t46) H fun t47 H =>
        wNewS 1 2 (fillA (List.replicate 2 [(.val (.int .i64 0))]).flatten [(0, 1, t39), (1, 1, t47)]) H fun t48 H =>
        wCall E P 236 [a0, t48] H fun t49 H =>
        R t49 H) ∧
      (
        wGet (lookupA .string (.val (.int .i64 0)) false t43 t45 H) H fun t46_1 H =>
        (wGet (load1 t36 H) H (fun y H2 => y = t37 ∧ H2 = H)) ∧
        wGet (unA .neg t46_1) H fun t47_1 H =>
        wGet (lookupA .string (.val (.int .i64 0)) false t37 t32 H) H fun t39_1 H =>
        (wGet (load1 t42 H) H (fun y H2 => y = t43 ∧ H2 = H)) ∧
        wNewS 1 2 (fillA (List.replicate 2 [(.val (.int .i64 0))]).flatten [(0, 1, t39_1), (1, 1, t47_1)]) H fun t48_1 H =>
        wCall E P 236 [a0, t48_1] H fun t49_1 H =>
        R t49_1 H)) (
      wGet (assertA 13 (.val (.string ⟨#[]⟩)) a1) H fun t50 H =>
      wGet (extractA t50 1) H fun t51 H =>
      wGet (extractA t50 0) H fun t52 H =>
      wIf t51 (
        wGet (nilA a0) H fun t55 H =>
        wGet (faddr 2 t55) H fun t56 H =>
        wGet (load1 t56 H) H fun t57 H =>
        wGet (nilA a0) H fun t62 H =>
        wGet (faddr 2 t62) H fun t63 H =>
        wGet (load1 t63 H) H fun t64 H =>
        wGet (binA .add (.val (.string ⟨#[94]⟩)) t52) H fun t66 H =>
        (
          wGet (lookupA .string (.val (.int .i64 0)) false t57 t52 H) H fun t59 H =>
          (wGet (load1 t63 H) H (fun y H2 => y = t64 ∧ H2 = H)) ∧
          wGet (unA .neg t59) H fun t60 H =>
          wGet (lookupA .string (.val (.int .i64 0)) false t64 t66 H) H fun t67 H =>
          (wGet (load1 t56 H) H (fun y H2 => y = t57 ∧ H2 = H)) ∧
          wNewS 1 2 (fillA (List.replicate 2 [(.val (.int .i64 0))]).flatten [(0, 1, t60), (1, 1, t67)]) H fun t68 H =>
          wCall E P 236 [a0, t68] H fun t69 H =>
          R t69 H) ∧
        (
          wGet (lookupA .string (.val (.int .i64 0)) false t64 t66 H) H fun t67_1 H =>
          (wGet (load1 t56 H) H (fun y H2 => y = t57 ∧ H2 = H)) ∧
          wGet (lookupA .string (.val (.int .i64 0)) false t57 t52 H) H fun t59_1 H =>
          (wGet (load1 t63 H) H (fun y H2 => y = t64 ∧ H2 = H)) ∧
          wGet (unA .neg t59_1) H fun t60_1 H =>
          wNewS 1 2 (fillA (List.replicate 2 [(.val (.int .i64 0))]).flatten [(0, 1, t60_1), (1, 1, t67_1)]) H fun t68_1 H =>
          wCall E P 236 [a0, t68_1] H fun t69_1 H =>
          R t69_1 H)) (
        wGet (assertA 10 (.agg [(.val (.nilIface))]) a1) H fun t70 H =>
        wGet (extractA t70 1) H fun t71 H =>
        wGet (extractA t70 0) H fun t72 H =>
        wIf t71 (
          wNew 1 (some [(.val (.nilIface))]) H fun t8 H =>
          wPut (storeN 1 t8 t72 H) fun _u H =>
          wGet (faddr 0 t8) H fun t74 H =>
          wGet (load1 t74 H) H fun t75 H =>
          wCall E P 235 [a0, t75] H fun t76 H =>
          wGet (unA .neg t76) H fun t77 H =>
          R t77 H) (
          wGet (assertA 9 (.val (.slice none 0 0)) a1) H fun t78 H =>
          wGet (extractA t78 1) H fun t79 H =>
          wGet (extractA t78 0) H fun t80 H =>
          wIf t79 (
            wGet (lenA t80) H fun t82 H =>
            wLoop 2 (fun I1 => I1 (.val (.slice none 0 0)) (.val (.int .i64 0)) H) fun I1 t10 t83 H =>
              wGet (binA .lss t83 t82) H fun t84 H =>
              wIf t84 (
                wGet (iaddr 1 t80 t83) H fun t85 H =>
                wGet (load1 t85 H) H fun t86 H =>
                wCall E P 235 [a0, t86] H fun t90 H =>
                wNewS 1 1 (fillA (List.replicate 1 [(.val (.int .i64 0))]).flatten [(0, 1, t90)]) H fun t91 H =>
                wApp 1 8 t10 t91 H fun t92 H =>
                wGet (binA .add t83 (.val (.int .i64 1))) H fun t93 H =>
                I1 t92 t93 H) (
                wCall E P 236 [a0, t10] H fun t96 H =>
                R t96 H)) (
            wGet (assertA 8 (.val (.slice none 0 0)) a1) H fun t97 H =>
            wGet (extractA t97 1) H fun t98 H =>
            wGet (extractA t97 0) H fun t99 H =>
            wIf t98 (
              wGet (lenA t99) H fun t101 H =>
              wLoop 2 (fun I2 => I2 (.val (.slice none 0 0)) (.val (.int .i64 0)) H) fun I2 t14 t102 H =>
                wGet (binA .lss t102 t101) H fun t103 H =>
                wIf t103 (
                  wGet (iaddr 1 t99 t102) H fun t104 H =>
                  wGet (load1 t104 H) H fun t105 H =>
                  wCall E P 235 [a0, t105] H fun t109 H =>
                  wGet (unA .neg t109) H fun t110 H =>
                  wNewS 1 1 (fillA (List.replicate 1 [(.val (.int .i64 0))]).flatten [(0, 1, t110)]) H fun t111 H =>
                  wApp 1 8 t14 t111 H fun t112 H =>
                  wGet (binA .add t102 (.val (.int .i64 1))) H fun t113 H =>
                  I2 t112 t113 H) (
                  wCall E P 236 [a0, t14] H fun t116 H =>
                  wGet (unA .neg t116) H fun t117 H =>
                  R t117 H)) (
              wCall E P 234 [a0] H fun t119 H =>
              wJoin 0 (fun J3 =>
                wGet (assertA 11 (.val (.bool false)) a1) H fun t122 H =>
                wGet (extractA t122 0) H fun t123 H =>
                wGet (extractA t122 1) H fun t124 H =>
                wGuard t124 true H (fun k => k t123 H) fun t127 H =>
                wGet (pickA t124 t127 (.val (.bool false))) H fun t128 H =>
                wIf t128 (
                  wNewS 1 1 (fillA (List.replicate 1 [(.val (.int .i64 0))]).flatten [(0, 1, t119)]) H fun t131 H =>
                  wCall E P 237 [a0, t131] H fun t132 H =>
                  J3 H) (
                  wGet (unA .neg t119) H fun t135 H =>
                  wNewS 1 1 (fillA (List.replicate 1 [(.val (.int .i64 0))]).flatten [(0, 1, t135)]) H fun t136 H =>
                  wCall E P 237 [a0, t136] H fun t137 H =>
                  J3 H)) fun H =>
                R t119 H))))))

/-- (*signalbox/gate.builder).and -/
def pgate_builder_and (E : Env) (P : Program) (a0 a1 : AV) (H : AH) (R : Kt) : Prop :=
  wCall E P 234 [a0] H fun t10 H =>
  wNewS 1 1 (fillA (List.replicate 1 [(.val (.int .i64 0))]).flatten [(0, 1, t10)]) H fun t12 H =>
  wGet (lenA a1) H fun t14 H =>
  wLoop 2 (fun I1 => I1 t12 (.val (.int .i64 0)) H) fun I1 t6 t15 H =>
    wGet (binA .lss t15 t14) H fun t16 H =>
    wIf t16 (
      wGet (iaddr 1 a1 t15) H fun t17 H =>
      wGet (load1 t17 H) H fun t18 H =>
      wGet (unA .neg t10) H fun t21 H =>
      wNewS 1 2 (fillA (List.replicate 2 [(.val (.int .i64 0))]).flatten [(0, 1, t21), (1, 1, t18)]) H fun t23 H =>
      wCall E P 237 [a0, t23] H fun t24 H =>
      wGet (unA .neg t18) H fun t27 H =>
      wNewS 1 1 (fillA (List.replicate 1 [(.val (.int .i64 0))]).flatten [(0, 1, t27)]) H fun t28 H =>
      wApp 1 8 t6 t28 H fun t29 H =>
      wGet (binA .add t15 (.val (.int .i64 1))) H fun t30 H =>
      I1 t29 t30 H) (
      wCall E P 237 [a0, t6] H fun t33 H =>
      R t10 H)

/-- (*signalbox/gate.builder).add -/
def pgate_builder_add (E : Env) (P : Program) (a0 a1 : AV) (H : AH) (R : Kt) : Prop :=
  wGet (nilA a0) H fun t6 H =>
  wGet (faddr 0 t6) H fun t7 H =>
  wGet (faddr 1 t7) H fun t8 H =>
  wGet (load1 t8 H) H fun t9 H =>
  wNewS 1 1 (fillA (List.replicate 1 [(.val (.slice none 0 0))]).flatten [(0, 1, a1)]) H fun t11 H =>
  wApp 1 24 t9 t11 H fun t12 H =>
  wGet (nilA a0) H fun t13 H =>
  wGet (faddr 0 t13) H fun t14 H =>
  wGet (faddr 1 t14) H fun t15 H =>
  wPut (store1 t15 t12 H) fun _u H =>
  R (.tup []) H

end Go.Sc.F
namespace Go.Sc
open Go
set_option linter.unusedSimpArgs false
set_option linter.unusedVariables false
set_option linter.unnecessarySimpa false
def TR (tr : List Int) (x : AV) (tb : List Blk) : Prop := (x = nilS ∧ tr = [] ∧ tb = []) ∨ ∃ g2, x = .slL 2 0 tr.length g2 ∧ tb = [.cells g2 1 (tr.map fun z => Z z)]
theorem TR.scalar {tr : List Int} {x : AV} {tb : List Blk} (h : TR tr x tb) : x.scalar = true := by
  rcases h with ⟨rfl, _, _⟩ | ⟨g, rfl, _⟩ <;> rfl
theorem TR.len {tr : List Int} {x : AV} {tb : List Blk} (h : TR tr x tb) : lenA x = some (Z tr.length) := by
  rcases h with ⟨rfl, rfl, _⟩ | ⟨g, rfl, _⟩ <;> rfl
section
variable {E : Env} {P : Program} {ga gs V : Nat} {all : List (List Int)}
theorem neg_Z {x : Int} (h : -1000000 ≤ x ∧ x ≤ 1000000) : unA .neg (Z x) = some (Z (-x)) := by
  rw [unA_neg', wrap_i64 (by omega)]
  congr 3; omega
end
end Go.Sc
namespace Go.Sc
open Go
set_option linter.unusedSimpArgs false
set_option linter.unusedVariables false
section
variable {E : Env} {P : Program}
theorem bare_spec (B : PlaceBodies E P) (hA : Body2 E P 77 F.law_at) (hb : Body1 E P 87 F.ref_Bare) (hB : Body2 E P 89 F.law_bare) (c e : Int) : FX E P 89 [Er c, Z e] (Bo (decide (c = e))) := by
  refine FX.of' (by simp [AV.closedL, Er_closed, AV.closed]) (by simp [AV.closed]) fun n R hR => hB _ _ _ _ ?_
  unfold F.law_bare
  refine wCall.fx (Bare_spec hb e) fun n => ?_
  refine wCall.fx (at_spec B hA c e (-1)) fun n => ?_
  exact hR _ _ (by simp)
end
end Go.Sc
namespace Go.Sc
open Go
set_option linter.unusedSimpArgs false
set_option linter.unusedVariables false
set_option linter.unnecessarySimpa false
def Cl (v : Int) (all : List (List Int)) : AV := .agg [Z v, LLI all]
theorem Cl_closed (v : Int) (all : List (List Int)) : (Cl v all).closed := by simp [Cl, AV.closed, AV.closedL, LLI_closed]
section
variable {E : Env} {P : Program}
end
end Go.Sc
namespace Go.Sc
open Go
set_option linter.unusedSimpArgs false
set_option linter.unusedVariables false
set_option linter.unnecessarySimpa false
theorem nameOk_len {s : Str} (h : nameOk s = true) : s.length ≤ 8 := by
  cases s with
  | nil => simp
  | cons c r => simp only [nameOk, Bool.and_eq_true, decide_eq_true_eq] at h; exact h.1.2
/-! ### the map of names: numbers from 1 on, in order -/
theorem keyEq_S (a b : Str) : keyEq (S a) (S b) = some (decide (a = b)) := by
  simp only [keyEq]
  congr 1
  rw [Bool.eq_iff_iff, MapKept.bytes_beq, decide_eq_true_iff]
  constructor
  · intro h
    have := congrArg (fun x : ByteArray => x.data.toList) h
    simpa using this
  · rintro rfl; rfl
theorem findK_S (k : Str) : ∀ (ks : List Str) (i : Nat), findK (S k) (ks.map fun s => S s) i = some (if k ∈ ks then some (i + ixN ks k) else none)
  | [], i => by simp [findK]
  | x :: ks, i => by
    simp only [List.map_cons, findK, keyEq_S]
    by_cases h : k = x
    · subst h
      simp only [decide_eq_true rfl]
      have := ixN_app (pre := []) (rest := ks) (s := k) (by simp)
      simp at this
      simp [this]
    · rw [decide_eq_false h]
      simp only [findK_S k ks (i + 1), List.mem_cons, h, false_or]
      by_cases hm : k ∈ ks
      · obtain ⟨pre, rest, rfl, hn⟩ := mem_split hm
        have e1 := ixN_app (rest := rest) hn
        have e2 := ixN_app (pre := x :: pre) (rest := rest) (s := k) (by simp [h, hn])
        simp only [List.cons_append, List.length_cons] at e2
        rw [if_pos hm, if_pos hm, e1, e2]
        congr 2; omega
      · rw [if_neg hm, if_neg hm]
def nums (n : Nat) : List AV := (List.range n).map fun i => Z ((i + 1 : Nat) : Int)
def nmv (ks : List Str) (s : Str) : Int := if s ∈ ks then ((ixN ks s + 1 : Nat) : Int) else 0
theorem get_nm (ks : List Str) (s : Str) : mapGet (Z 0) false (S s) (ks.map fun s => S s) (nums ks.length) = some (Z (nmv ks s)) := by
  simp only [mapGet, findK_S, nmv]
  by_cases h : s ∈ ks
  · rw [if_pos h, if_pos h]
    simp only [Nat.zero_add]
    have := ixN_lt h
    rw [show (nums ks.length)[ixN ks s]? = some (Z ((ixN ks s + 1 : Nat) : Int)) by unfold nums; rw [List.getElem?_map, List.getElem?_range this]; rfl]
    rfl
  · rw [if_neg h, if_neg h]; rfl
/-! ### the builder: its block, the clauses' block, the map's -/
def SG (r0 : Blk) (ks : List Str) (b : Bd) (g0 g2 : Nat) (tb : List Blk) (H : AH) : Prop := ∃ z t c, H = ⟨r0 :: .map g2 (ks.map fun s => S s) (nums ks.length) :: .cells g0 3 [Z b.vars, t, .mapL 1 g2] :: z :: tb, c⟩ ∧ Gr 1 z 3 t (b.cl.map LI) b.cl.length
structure MakeBodies (E : Env) (P : Program) : Prop where
  add : Body2 E P 237 F.pgate_builder_add
  and : Body2 E P 236 F.pgate_builder_and
  fresh : Body1 E P 234 F.pgate_builder_fresh
  lit : Body2 E P 235 F.pgate_builder_lit
  of : Body1 E P 233 F.gate_Of
section
variable {E : Env} {P : Program} {ks : List Str} {g0 g2 : Nat} {r0 : Blk}
theorem gFresh_spec (B : MakeBodies E P) {b : Bd} {tb : List Blk} (hv : b.vars < 100000) {H : AH} (hH : SG r0 ks b g0 g2 tb H) : ACalls E P 234 [.ptrL 2 0 g0] H fun r H' => r = Z ((b.vars + 1 : Nat) : Int) ∧ SG r0 ks ⟨b.vars + 1, b.cl⟩ g0 g2 tb H' := by
  obtain ⟨z, t, c, rfl, hg⟩ := hH
  refine B.fresh _ _ _ ?_
  unfold F.pgate_builder_fresh
  simp only [nd0, Y1n, Y1o, Y1p, Y1q, Y1w, Y1x, Y1y, Y1z, Y20, Y21, Y28, Y2a, AV.cells?, Nat.reduceAdd, Nat.reduceMul]
  rw [binA_succ (by omega)]
  simp only [nd0, Y1n, Y1o, Y1p, Y1q, Y1w, Y1x, Y1y, Y1z, Y20, Y21, Y28, Y2a, AV.cells?, Nat.reduceAdd, Nat.reduceMul]
  rw [store1_L rfl]
  simp only [nd0, Y1n, Y1o, Y1p, Y1q, Y1w, Y1x, Y1y, Y1z, Y20, Y21, Y28, Y2a, AV.cells?, Nat.reduceAdd, Nat.reduceMul, Nat.reduceLT]
  exact ⟨trivial, z, t, c, rfl, hg⟩
theorem gAdd_spec (B : MakeBodies E P) {b : Bd} {tb : List Blk} (hn : b.cl.length < 100000) {H : AH} (hH : SG r0 ks b g0 g2 tb H) (l : List Int) : ACalls E P 237 [.ptrL 2 0 g0, LI l] H fun r H' => r = .tup [] ∧ SG r0 ks ⟨b.vars, b.cl ++ [l]⟩ g0 g2 tb H' := by
  obtain ⟨z, t, c, rfl, hg⟩ := hH
  refine B.add _ _ _ _ ?_
  unfold F.pgate_builder_add
  simp only [nd0, Y1n, Y1o, Y1p, Y1q, Y1w, Y1x, Y1y, Y1z, Y20, Y21, Y28, Y2a, AV.cells?, Nat.reduceAdd, Nat.reduceMul]
  refine wNewS.F' (l := [LI l]) rfl rfl ?_
  refine wApp.one hg rfl (by simp) (.refl _) rfl (by simp [mostBytes]; omega) fun z' x' c' k' => ?_
  simp only [nd0, Y1n, Y1o, Y1p, Y1q, Y1w, Y1x, Y1y, Y1z, Y20, Y21, Y28, Y2a, AV.cells?, Nat.reduceAdd, Nat.reduceMul]
  rw [store1_L k'.scalar]
  simp only [nd0, Y1n, Y1o, Y1p, Y1q, Y1w, Y1x, Y1y, Y1z, Y20, Y21, Y28, Y2a, AV.cells?, Nat.reduceAdd, Nat.reduceMul, Nat.reduceLT]
  refine ⟨trivial, z', x', c', rfl, ?_⟩
  simpa using k'
theorem set_tail {a b c d w w' : Blk} {tb : List Blk} : (a :: b :: c :: d :: (tb ++ [w])).set (4 + tb.length) w' = a :: b :: c :: d :: (tb ++ [w']) := by
  rw [Nat.add_comm]; simp [List.set_append_right]
theorem get_tail {a b c d w : Blk} {tb : List Blk} : (a :: b :: c :: d :: (tb ++ [w]))[4 + tb.length]? = some w := by
  rw [Nat.add_comm]; simp
theorem SG.drop {b : Bd} {tb : List Blk} {w : Blk} {H : AH} {r : AV} (h : SG r0 ks b g0 g2 (tb ++ [w]) H) : ∃ H', Ghost [r] H [r] H' ∧ SG r0 ks b g0 g2 tb H' := by
  obtain ⟨z, t, c, rfl, hg⟩ := h
  exact ⟨_, ghost_drop (bs := r0 :: .map g2 (ks.map fun s => S s) (nums ks.length) :: .cells g0 3 [Z b.vars, t, .mapL 1 g2] :: z :: tb) w, z, t, c, rfl, hg⟩
/-- one more is put behind a slice of the caller's -/
theorem wApp.tl {b : Bd} {tb : List Blk} {w : Blk} {t : AV} {l : List Int} {x : Int} {H : AH} {K : Kt} (hg : Gr 1 w (4 + tb.length) t (l.map fun z => Z z) l.length) (hH : SG r0 ks b g0 g2 (tb ++ [w]) H) (hl : l.length < 100000)
    (hK : ∀ w' t' H', Gr 1 w' (4 + tb.length) t' ((l ++ [x]).map fun z => Z z) (l ++ [x]).length → SG r0 ks b g0 g2 (tb ++ [w']) H' → K t' H') : wApp 1 8 t (.slN [Z x] 1) H K := by
  obtain ⟨z, t0, c, rfl, hg0⟩ := hH
  refine wApp.one hg get_tail (by simp) (.refl _) rfl (by simp [mostBytes]; omega) fun z' x' c' k' => ?_
  rw [set_tail]
  exact hK z' x' _ (by simpa using k') ⟨z, t0, c', rfl, hg0⟩
theorem gAnd_spec (B : MakeBodies E P) {b : Bd} {tb : List Blk} {l : List Int} (hv : b.vars < 10000) (hn : b.cl.length + l.length < 10000) (hl : ∀ x ∈ l, -1000000 ≤ x ∧ x ≤ 1000000) {H : AH} (hH : SG r0 ks b g0 g2 tb H) :
    ACalls E P 236 [.ptrL 2 0 g0, LI l] H fun r H' => r = Z (andP l b).1 ∧ SG r0 ks (andP l b).2 g0 g2 tb H' := by
  refine ACalls.mono (R := fun r H' => r = Z (andP l b).1 ∧ ∃ w, SG r0 ks (andP l b).2 g0 g2 (tb ++ [w]) H') ?_ (fun r H' ⟨h1, w, h2⟩ => by
    obtain ⟨H2, q1, q2⟩ := h2.drop (r := r)
    exact ⟨r, H2, q1, h1, q2⟩)
  refine B.and _ _ _ _ ?_
  unfold F.pgate_builder_and
  refine ⟨_, gFresh_spec B (by omega) hH, ?_⟩
  rintro r H1 ⟨rfl, z, t, c, rfl, hg⟩
  refine wNewS.T (l := [Z ((b.vars + 1 : Nat) : Int)]) (l' := [Z ((b.vars + 1 : Nat) : Int)]) rfl (.refl _) rfl ?_
  simp only [nd0, Y1n, Y1o, Y1p, Y1q, Y1w, Y1x, Y1y, Y1z, Y20, Y21, Y28, Y2a, AV.cells?, Nat.reduceAdd, Nat.reduceMul]
  rw [show lenA (LI l) = some (Z l.length) from rfl]
  simp only [nd0, Y1n, Y1o, Y1p, Y1q, Y1w, Y1x, Y1y, Y1z, Y20, Y21, Y28, Y2a, AV.cells?, Nat.reduceAdd, Nat.reduceMul]
  refine wLoop.two (fun m t i H => ∃ pre rest w, l = pre ++ rest ∧ i = Z pre.length ∧ m = rest.length ∧ Gr 1 w (4 + tb.length) t ((((b.vars + 1 : Nat) : Int) :: negL pre).map fun z => Z z) (((b.vars + 1 : Nat) : Int) :: negL pre).length ∧ SG r0 ks ⟨b.vars + 1, b.cl ++ pre.map fun x => [-((b.vars + 1 : Nat) : Int), x]⟩ g0 g2 (tb ++ [w]) H) l.length
    (gh2.mk ⟨[], l, .tail c 1, rfl, rfl, rfl, by simp only [List.length_append, List.length_cons, List.length_nil, negL, List.map_nil, List.map_cons]; rw [Nat.add_comm 4]; exact .mk, z, t, c + 1, by simp, by simpa using hg⟩) ?_
  rintro m t i H ⟨pre, rest, w, hpr, rfl, rfl, hg, hH⟩
  have hpl : pre.length ≤ l.length := by rw [hpr]; simp
  cases rest with
  | nil =>
    rw [List.append_nil] at hpr
    subst hpr
    simp only [nd0, Y1n, Y1o, Y1p, Y1q, Y1w, Y1x, Y1y, Y1z, Y20, Y21, Y28, Y2a, AV.cells?, Nat.reduceAdd, Nat.reduceMul, Int.lt_irrefl]
    refine ⟨_, ACalls.args (ghost_sub (.cons (.refl _) (.one hg.sub))) (gAdd_spec B (by simp; omega) hH (((b.vars + 1 : Nat) : Int) :: negL l)), ?_⟩
    rintro r H2 ⟨rfl, h2⟩
    exact ⟨rfl, w, by simpa [andP] using h2⟩
  | cons x rest =>
    have hxm : x ∈ l := by rw [hpr]; simp
    have hlt : pre.length < l.length := by rw [hpr]; simp
    have hx := hl x hxm
    simp only [nd0, Y1n, Y1o, Y1p, Y1q, Y1w, Y1x, Y1y, Y1z, Y20, Y21, Y28, Y2a, AV.cells?, Nat.reduceAdd, Nat.reduceMul, decide_eq_true (show (pre.length : Int) < (l.length : Int) by omega)]
    unfold LI Lm
    rw [iaddr_Nn hlt]
    simp only [nd0, Y1n, Y1o, Y1p, Y1q, Y1w, Y1x, Y1y, Y1z, Y20, Y21, Y28, Y2a, AV.cells?, Nat.reduceAdd, Nat.reduceMul, show (l.map fun z => Z z)[pre.length]? = some (Z x) by rw [hpr]; simp]
    rw [neg_Z (by omega)]
    simp only [nd0, Y1n, Y1o, Y1p, Y1q, Y1w, Y1x, Y1y, Y1z, Y20, Y21, Y28, Y2a, AV.cells?, Nat.reduceAdd, Nat.reduceMul]
    refine wNewS.F' (l := [Z (-((b.vars + 1 : Nat) : Int)), Z x]) rfl rfl ?_
    refine ⟨_, gAdd_spec B (by simp; omega) hH [-((b.vars + 1 : Nat) : Int), x], ?_⟩
    rintro r H2 ⟨rfl, h2⟩
    rw [neg_Z (by omega)]
    simp only [nd0, Y1n, Y1o, Y1p, Y1q, Y1w, Y1x, Y1y, Y1z, Y20, Y21, Y28, Y2a, AV.cells?, Nat.reduceAdd, Nat.reduceMul]
    refine wNewS.F' (l := [Z (-x)]) rfl rfl ?_
    refine wApp.tl (l := ((b.vars + 1 : Nat) : Int) :: negL pre) (x := -x) hg h2 (by simp [negL]; omega) fun w' t' H' hg' hH' => ?_
    rw [binA_succ (by omega)]
    simp only [nd0, Y1n, Y1o, Y1p, Y1q, Y1w, Y1x, Y1y, Y1z, Y20, Y21, Y28, Y2a, AV.cells?, Nat.reduceAdd, Nat.reduceMul]
    refine back2.mk rest.length (by simp) ⟨pre ++ [x], rest, w', by rw [hpr]; simp, by simp, rfl, ?_, ?_⟩
    · simpa [negL] using hg'
    · simpa [List.append_assoc] using hH'
theorem look_nm {b : Bd} {tb : List Blk} {z : Blk} {t : AV} {c : Nat} (s : Str) : lookupA .string (.val (.int .i64 0)) false (.mapL 1 g2) (S s) ⟨r0 :: .map g2 (ks.map fun s => S s) (nums ks.length) :: .cells g0 3 [Z b.vars, t, .mapL 1 g2] :: z :: tb, c⟩ = some (Z (nmv ks s)) := by
  rw [lookupA_L (ks := ks.map fun s => S s) (vs := nums ks.length) rfl rfl]
  exact get_nm ks s
theorem nmv_le (ks : List Str) (s : Str) : 0 ≤ nmv ks s ∧ nmv ks s ≤ ks.length := by
  unfold nmv
  split
  · rename_i h; have := ixN_lt h; omega
  · omega
def LitOk (E : Env) (P : Program) (r0 : Blk) (ks : List Str) (x : Ex) : Prop := ∀ (g0 g2 : Nat) (b : Bd) (tb : List Blk) (H : AH), b.vars + x.size < 5000 → b.cl.length + 4 * x.size < 5000 → nmOk (nmv ks) b.vars x → (∀ c ∈ b.cl, okB b.vars c) → SG r0 ks b g0 g2 tb H →
  ACalls E P 235 [.ptrL 2 0 g0, x.enc] H fun r H' => r = Z (litP (nmv ks) x b).1 ∧ SG r0 ks (litP (nmv ks) x b).2 g0 g2 tb H'
theorem okLit_big {V : Nat} {x : Int} (h : okLit V x) (hv : V ≤ 10000) : -1000000 ≤ x ∧ x ≤ 1000000 := by unfold okLit at h; omega
theorem onL_split {Q Q' : Str → Prop} {x : Ex} {rest : List Ex} : ∀ {pre : List Ex}, Ex.onL Q Q' (pre ++ x :: rest) → Ex.onL Q Q' pre ∧ x.on Q Q'
  | [], h => ⟨trivial, h.1⟩
  | y :: pre, h => ⟨⟨h.1, (onL_split h.2).1⟩, (onL_split h.2).2⟩
/-- the parts of 'and' (of 'or': each turned) -/
theorem litL_loop (B : MakeBodies E P) (mode : Bool) (xs : List Ex) (hx : ∀ x ∈ xs, LitOk E P r0 ks x) {b : Bd} {tb : List Blk} (hv : b.vars + Ex.sizeL xs < 5000) (hn : b.cl.length + 4 * Ex.sizeL xs < 5000) (hnm : nmOkL (nmv ks) b.vars xs) (hb : ∀ c ∈ b.cl, okB b.vars c) {H0 : AH} (hH0 : SG r0 ks b g0 g2 tb H0) {R : Kt}
    (hR : ∀ t w H, SG r0 ks (litsP (nmv ks) xs b).2 g0 g2 (tb ++ [w]) H → Gr 1 w (4 + tb.length) t ((if mode then (litsP (nmv ks) xs b).1 else negL (litsP (nmv ks) xs b).1).map fun z => Z z) xs.length → R t H) :
    wLoop 2 (fun I1 => I1 (.val (.slice none 0 0)) (.val (.int .i64 0)) H0) fun I1 t10 t83 H =>
      wGet (binA .lss t83 (Z xs.length)) H fun t84 H =>
      wIf t84 (
        wGet (iaddr 1 (.slN (Ex.encL xs) xs.length) t83) H fun t85 H =>
        wGet (load1 t85 H) H fun t86 H =>
        wCall E P 235 [.ptrL 2 0 g0, t86] H fun t90 H =>
        wGet (if mode then some t90 else unA .neg t90) H fun t110 H =>
        wNewS 1 1 (fillA (List.replicate 1 [(.val (.int .i64 0))]).flatten [(0, 1, t110)]) H fun t91 H =>
        wApp 1 8 t10 t91 H fun t92 H =>
        wGet (binA .add t83 (.val (.int .i64 1))) H fun t93 H =>
        I1 t92 t93 H) (R t10 H) := by
  obtain ⟨z, t, c, rfl, hg⟩ := hH0
  refine wLoop.two (fun m t i H => ∃ pre rest w, xs = pre ++ rest ∧ i = Z pre.length ∧ m = rest.length ∧ Gr 1 w (4 + tb.length) t ((if mode then (litsP (nmv ks) pre b).1 else negL (litsP (nmv ks) pre b).1).map fun z => Z z) pre.length ∧ SG r0 ks (litsP (nmv ks) pre b).2 g0 g2 (tb ++ [w]) H) xs.length
    (gh2.of (ghost_room [.dead] (by simp)) ⟨[], xs, .dead, rfl, rfl, rfl, by cases mode <;> exact .nil, z, t, c, by simp [litsP], hg⟩) ?_
  rintro m t i H ⟨pre, rest, w, hpr, rfl, rfl, hg, hH⟩
  cases rest with
  | nil =>
    rw [List.append_nil] at hpr
    subst hpr
    simp only [nd0, Y1n, Y1o, Y1p, Y1q, Y1w, Y1x, Y1y, Y1z, Y20, Y21, Y28, Y2a, AV.cells?, Nat.reduceAdd, Nat.reduceMul, Int.lt_irrefl]
    exact hR _ _ _ hH hg
  | cons x rest =>
    have hxm : x ∈ xs := by rw [hpr]; simp
    have hlt : pre.length < xs.length := by rw [hpr]; simp
    have hsum : Ex.sizeL xs = Ex.sizeL pre + (x.size + Ex.sizeL rest) := by rw [hpr, sizeL_app]; rfl
    have hon : nmOkL (nmv ks) b.vars pre ∧ nmOk (nmv ks) b.vars x := by rw [hpr] at hnm; exact onL_split hnm
    have hv1 := litsP_vars (nmv ks) pre b
    have hc1 := litsP_cl (nmv ks) pre b
    have hl1 := litsP_len (nmv ks) pre b
    obtain ⟨ho1, ho2⟩ := litsP_ok (nmv ks) pre b hon.1 hb
    obtain ⟨ho3, ho4⟩ := litP_ok (nmv ks) x _ (nmOk_mono hon.2 hv1.1) ho2
    have hv2 := litP_vars (nmv ks) x (litsP (nmv ks) pre b).2
    have hlen := sizeL_len pre
    simp only [nd0, Y1n, Y1o, Y1p, Y1q, Y1w, Y1x, Y1y, Y1z, Y20, Y21, Y28, Y2a, AV.cells?, Nat.reduceAdd, Nat.reduceMul, decide_eq_true (show (pre.length : Int) < (xs.length : Int) by omega)]
    rw [iaddr_Nn hlt]
    simp only [nd0, Y1n, Y1o, Y1p, Y1q, Y1w, Y1x, Y1y, Y1z, Y20, Y21, Y28, Y2a, AV.cells?, Nat.reduceAdd, Nat.reduceMul, show (Ex.encL xs)[pre.length]? = some x.enc by rw [Ex.encL_map, hpr]; simp]
    refine ⟨_, hx x hxm g0 g2 _ _ _ (by omega) (by omega) (nmOk_mono hon.2 hv1.1) ho2 hH, ?_⟩
    rintro r H2 ⟨rfl, h2⟩
    have hbig := okLit_big ho3 (by omega)
    generalize hl : (litP (nmv ks) x (litsP (nmv ks) pre b).2).1 = y at hbig
    have happ : litsP (nmv ks) (pre ++ [x]) b = ((litsP (nmv ks) pre b).1 ++ [y], (litP (nmv ks) x (litsP (nmv ks) pre b).2).2) := by rw [litsP_app]; simp [litsP, hl]
    have stepR : wGet (if mode then some (Z y) else unA .neg (Z y)) H2 = wGet (some (Z (if mode then y else -y))) H2 := by cases mode <;> simp [neg_Z hbig]
    rw [stepR]
    simp only [nd0, Y1n, Y1o, Y1p, Y1q, Y1w, Y1x, Y1y, Y1z, Y20, Y21, Y28, Y2a, AV.cells?, Nat.reduceAdd, Nat.reduceMul]
    refine wNewS.F' (l := [Z (if mode then y else -y)]) rfl rfl ?_
    have hlm : (if mode then (litsP (nmv ks) pre b).1 else negL (litsP (nmv ks) pre b).1).length = pre.length := by cases mode <;> simp [negL, hl1]
    rw [← hlm] at hg
    refine wApp.tl (x := if mode then y else -y) hg h2 (by omega) fun w' t' H' hg' hH' => ?_
    rw [binA_succ (by omega)]
    simp only [nd0, Y1n, Y1o, Y1p, Y1q, Y1w, Y1x, Y1y, Y1z, Y20, Y21, Y28, Y2a, AV.cells?, Nat.reduceAdd, Nat.reduceMul]
    refine back2.mk rest.length (by simp) ⟨pre ++ [x], rest, w', by rw [hpr]; simp, by simp, rfl, ?_, ?_⟩
    · rw [happ]
      rw [List.length_append, hlm] at hg'
      cases mode
      · simpa [negL] using hg'
      · simpa using hg'
    · rw [happ]; exact hH'
set_option maxHeartbeats 2000000 in
theorem lit_spec (B : MakeBodies E P) (hks : ks.length < 1000) : ∀ (n : Nat) (x : Ex), x.wt < n → x.fine → LitOk E P r0 ks x := by
  intro n
  induction n with
  | zero => intro x hx; omega
  | succ n ih =>
    intro x hx hf g0 g2 b tb H hv hn hnm hb hH
    cases x with
    | bit s =>
      obtain ⟨z, t, c, rfl, hg⟩ := hH
      refine B.lit _ _ _ _ ?_
      unfold F.pgate_builder_lit
      simp only [Ex.enc]
      simp only [nd0, Y1n, Y1o, Y1p, Y1q, Y1w, Y1x, Y1y, Y1z, Y20, Y21, Y28, Y2a, AV.cells?, Nat.reduceAdd, Nat.reduceMul, asA, show (14 : Nat) = 14 ↔ True by decide]
      rw [look_nm]
      simp only [nd0, Y1n, Y1o, Y1p, Y1q, Y1w, Y1x, Y1y, Y1z, Y20, Y21, Y28, Y2a, AV.cells?, Nat.reduceAdd, Nat.reduceMul]
      exact ⟨rfl, z, t, c, rfl, hg⟩
    | rise s =>
      obtain ⟨z, t, c, rfl, hg⟩ := hH
      refine B.lit _ _ _ _ ?_
      unfold F.pgate_builder_lit
      simp only [Ex.enc]
      have h1 := nmv_le ks s
      have h2 := nmv_le ks (94 :: s)
      have hbig : ∀ y ∈ [nmv ks s, -nmv ks (94 :: s)], -1000000 ≤ y ∧ y ≤ 1000000 := two_mem (by omega) (by omega)
      have fin : ACalls E P 236 [.ptrL 2 0 g0, LI [nmv ks s, -nmv ks (94 :: s)]] ⟨r0 :: .map g2 (ks.map fun s => S s) (nums ks.length) :: .cells g0 3 [Z b.vars, t, .mapL 1 g2] :: z :: tb, c⟩ _ := gAnd_spec B (b := b) (tb := tb) (by omega) (by simp; omega) hbig ⟨z, t, c, rfl, hg⟩
      simp only [nd0, Y1n, Y1o, Y1p, Y1q, Y1w, Y1x, Y1y, Y1z, Y20, Y21, Y28, Y2a, AV.cells?, Nat.reduceAdd, Nat.reduceMul, asA, show (12 : Nat) = 14 ↔ False by decide, show (12 : Nat) = 12 ↔ True by decide]
      rw [show (AV.val (.string ⟨#[94]⟩)) = S [94] from rfl, binA_cat (s := [94]) (t := s) (by have := nameOk_len hf; simp; omega)]
      simp only [nd0, Y1n, Y1o, Y1p, Y1q, Y1w, Y1x, Y1y, Y1z, Y20, Y21, Y28, Y2a, AV.cells?, Nat.reduceAdd, Nat.reduceMul]
      have hrun : ∀ t48, t48 = LI [nmv ks s, -nmv ks (94 :: s)] → wCall E P 236 [.ptrL 2 0 g0, t48] ⟨r0 :: .map g2 (ks.map fun s => S s) (nums ks.length) :: .cells g0 3 [Z b.vars, t, .mapL 1 g2] :: z :: tb, c⟩ (fun r H' => r = Z (litP (nmv ks) (.rise s) b).1 ∧ SG r0 ks (litP (nmv ks) (.rise s) b).2 g0 g2 tb H') := fun t48 h => by
        subst h
        exact ⟨_, fin, fun r H' h => h⟩
      refine ⟨?_, ?_⟩
      · rw [look_nm]
        simp only [nd0, Y1n, Y1o, Y1p, Y1q, Y1w, Y1x, Y1y, Y1z, Y20, Y21, Y28, Y2a, AV.cells?, Nat.reduceAdd, Nat.reduceMul, and_self, true_and]
        rw [look_nm]
        simp only [nd0, Y1n, Y1o, Y1p, Y1q, Y1w, Y1x, Y1y, Y1z, Y20, Y21, Y28, Y2a, AV.cells?, Nat.reduceAdd, Nat.reduceMul, and_self, true_and]
        rw [neg_Z (by omega)]
        simp only [nd0, Y1n, Y1o, Y1p, Y1q, Y1w, Y1x, Y1y, Y1z, Y20, Y21, Y28, Y2a, AV.cells?, Nat.reduceAdd, Nat.reduceMul]
        refine wNewS.F' (l := [Z (nmv ks s), Z (-nmv ks (94 :: s))]) rfl rfl ?_
        exact hrun _ rfl
      · rw [look_nm]
        simp only [nd0, Y1n, Y1o, Y1p, Y1q, Y1w, Y1x, Y1y, Y1z, Y20, Y21, Y28, Y2a, AV.cells?, Nat.reduceAdd, Nat.reduceMul, and_self, true_and]
        rw [neg_Z (by omega)]
        simp only [nd0, Y1n, Y1o, Y1p, Y1q, Y1w, Y1x, Y1y, Y1z, Y20, Y21, Y28, Y2a, AV.cells?, Nat.reduceAdd, Nat.reduceMul]
        rw [look_nm]
        simp only [nd0, Y1n, Y1o, Y1p, Y1q, Y1w, Y1x, Y1y, Y1z, Y20, Y21, Y28, Y2a, AV.cells?, Nat.reduceAdd, Nat.reduceMul, and_self, true_and]
        refine wNewS.F' (l := [Z (nmv ks s), Z (-nmv ks (94 :: s))]) rfl rfl ?_
        exact hrun _ rfl
    | fall s =>
      obtain ⟨z, t, c, rfl, hg⟩ := hH
      refine B.lit _ _ _ _ ?_
      unfold F.pgate_builder_lit
      simp only [Ex.enc]
      have h1 := nmv_le ks s
      have h2 := nmv_le ks (94 :: s)
      have hbig : ∀ y ∈ [-nmv ks s, nmv ks (94 :: s)], -1000000 ≤ y ∧ y ≤ 1000000 := two_mem (by omega) (by omega)
      have fin : ACalls E P 236 [.ptrL 2 0 g0, LI [-nmv ks s, nmv ks (94 :: s)]] ⟨r0 :: .map g2 (ks.map fun s => S s) (nums ks.length) :: .cells g0 3 [Z b.vars, t, .mapL 1 g2] :: z :: tb, c⟩ _ := gAnd_spec B (b := b) (tb := tb) (by omega) (by simp; omega) hbig ⟨z, t, c, rfl, hg⟩
      simp only [nd0, Y1n, Y1o, Y1p, Y1q, Y1w, Y1x, Y1y, Y1z, Y20, Y21, Y28, Y2a, AV.cells?, Nat.reduceAdd, Nat.reduceMul, asA, show (13 : Nat) = 14 ↔ False by decide, show (13 : Nat) = 12 ↔ False by decide, show (13 : Nat) = 13 ↔ True by decide]
      rw [show (AV.val (.string ⟨#[94]⟩)) = S [94] from rfl, binA_cat (s := [94]) (t := s) (by have := nameOk_len hf; simp; omega)]
      simp only [nd0, Y1n, Y1o, Y1p, Y1q, Y1w, Y1x, Y1y, Y1z, Y20, Y21, Y28, Y2a, AV.cells?, Nat.reduceAdd, Nat.reduceMul]
      have hrun : ∀ t48, t48 = LI [-nmv ks s, nmv ks (94 :: s)] → wCall E P 236 [.ptrL 2 0 g0, t48] ⟨r0 :: .map g2 (ks.map fun s => S s) (nums ks.length) :: .cells g0 3 [Z b.vars, t, .mapL 1 g2] :: z :: tb, c⟩ (fun r H' => r = Z (litP (nmv ks) (.fall s) b).1 ∧ SG r0 ks (litP (nmv ks) (.fall s) b).2 g0 g2 tb H') := fun t48 h => by
        subst h
        exact ⟨_, fin, fun r H' h => h⟩
      refine ⟨?_, ?_⟩
      · rw [look_nm]
        simp only [nd0, Y1n, Y1o, Y1p, Y1q, Y1w, Y1x, Y1y, Y1z, Y20, Y21, Y28, Y2a, AV.cells?, Nat.reduceAdd, Nat.reduceMul, and_self, true_and]
        rw [neg_Z (by omega)]
        simp only [nd0, Y1n, Y1o, Y1p, Y1q, Y1w, Y1x, Y1y, Y1z, Y20, Y21, Y28, Y2a, AV.cells?, Nat.reduceAdd, Nat.reduceMul]
        rw [look_nm]
        simp only [nd0, Y1n, Y1o, Y1p, Y1q, Y1w, Y1x, Y1y, Y1z, Y20, Y21, Y28, Y2a, AV.cells?, Nat.reduceAdd, Nat.reduceMul, and_self, true_and]
        refine wNewS.F' (l := [Z (-nmv ks s), Z (nmv ks (94 :: s))]) rfl rfl ?_
        exact hrun _ rfl
      · rw [look_nm]
        simp only [nd0, Y1n, Y1o, Y1p, Y1q, Y1w, Y1x, Y1y, Y1z, Y20, Y21, Y28, Y2a, AV.cells?, Nat.reduceAdd, Nat.reduceMul, and_self, true_and]
        rw [look_nm]
        simp only [nd0, Y1n, Y1o, Y1p, Y1q, Y1w, Y1x, Y1y, Y1z, Y20, Y21, Y28, Y2a, AV.cells?, Nat.reduceAdd, Nat.reduceMul, and_self, true_and]
        rw [neg_Z (by omega)]
        simp only [nd0, Y1n, Y1o, Y1p, Y1q, Y1w, Y1x, Y1y, Y1z, Y20, Y21, Y28, Y2a, AV.cells?, Nat.reduceAdd, Nat.reduceMul]
        refine wNewS.F' (l := [Z (-nmv ks s), Z (nmv ks (94 :: s))]) rfl rfl ?_
        exact hrun _ rfl
    | k v =>
      simp only [Ex.size] at hv hn
      refine B.lit _ _ _ _ ?_
      unfold F.pgate_builder_lit
      simp only [Ex.enc]
      simp only [nd0, Y1n, Y1o, Y1p, Y1q, Y1w, Y1x, Y1y, Y1z, Y20, Y21, Y28, Y2a, AV.cells?, Nat.reduceAdd, Nat.reduceMul, asA, show (11 : Nat) = 14 ↔ False by decide, show (11 : Nat) = 12 ↔ False by decide, show (11 : Nat) = 13 ↔ False by decide, show (11 : Nat) = 10 ↔ False by decide, show (11 : Nat) = 9 ↔ False by decide, show (11 : Nat) = 8 ↔ False by decide]
      refine ⟨_, gFresh_spec B (by omega) hH, ?_⟩
      rintro r H1 ⟨rfl, h1⟩
      refine wJoin.zero (SG r0 ks (constP v b).2 g0 g2 tb) ?_ fun H hH => ⟨rfl, hH⟩
      cases v with
      | true =>
        simp only [nd0, Y1n, Y1o, Y1p, Y1q, Y1w, Y1x, Y1y, Y1z, Y20, Y21, Y28, Y2a, AV.cells?, Nat.reduceAdd, Nat.reduceMul]
        refine wNewS.F' (l := [Z ((b.vars + 1 : Nat) : Int)]) rfl rfl ?_
        refine ⟨_, gAdd_spec B (by simp; omega) h1 [((b.vars + 1 : Nat) : Int)], ?_⟩
        rintro r H2 ⟨rfl, h2⟩
        exact gh0.mk h2
      | false =>
        simp only [nd0, Y1n, Y1o, Y1p, Y1q, Y1w, Y1x, Y1y, Y1z, Y20, Y21, Y28, Y2a, AV.cells?, Nat.reduceAdd, Nat.reduceMul]
        rw [neg_Z (by omega)]
        simp only [nd0, Y1n, Y1o, Y1p, Y1q, Y1w, Y1x, Y1y, Y1z, Y20, Y21, Y28, Y2a, AV.cells?, Nat.reduceAdd, Nat.reduceMul]
        refine wNewS.F' (l := [Z (-((b.vars + 1 : Nat) : Int))]) rfl rfl ?_
        refine ⟨_, gAdd_spec B (by simp; omega) h1 [-((b.vars + 1 : Nat) : Int)], ?_⟩
        rintro r H2 ⟨rfl, h2⟩
        exact gh0.mk h2
    | not y =>
      simp only [Ex.size] at hv hn
      simp only [Ex.wt] at hx
      refine ACalls.mono (R := fun r H' => r = Z (litP (nmv ks) (.not y) b).1 ∧ ∃ w, SG r0 ks (litP (nmv ks) (.not y) b).2 g0 g2 (tb ++ [w]) H') ?_ (fun r H' ⟨h1, w, h2⟩ => by
        obtain ⟨H2, q1, q2⟩ := h2.drop (r := r)
        exact ⟨r, H2, q1, h1, q2⟩)
      refine B.lit _ _ _ _ ?_
      unfold F.pgate_builder_lit
      simp only [Ex.enc]
      obtain ⟨z, t, c, rfl, hg⟩ := hH
      simp only [nd0, Y1n, Y1o, Y1p, Y1q, Y1w, Y1x, Y1y, Y1z, Y20, Y21, Y28, Y2a, AV.cells?, Nat.reduceAdd, Nat.reduceMul, asA, show (10 : Nat) = 14 ↔ False by decide, show (10 : Nat) = 12 ↔ False by decide, show (10 : Nat) = 13 ↔ False by decide, show (10 : Nat) = 10 ↔ True by decide]
      refine wNew.L (l := [nilE]) rfl ?_
      simp only [nd0, Y1n, Y1o, Y1p, Y1q, Y1w, Y1x, Y1y, Y1z, Y20, Y21, Y28, Y2a, AV.cells?, Nat.reduceAdd, Nat.reduceMul]
      have hb3 : (r0 :: .map g2 (ks.map fun s => S s) (nums ks.length) :: .cells g0 3 [Z b.vars, t, .mapL 1 g2] :: z :: (tb ++ [.cells c 1 [nilE]]))[tb.length + 1 + 1 + 1 + 1]? = some (.cells c 1 [nilE]) := by simp
      have hst : storeN 1 (.ptrL (tb.length + 1 + 1 + 1 + 1) 0 c) (.agg [y.enc]) ⟨r0 :: .map g2 (ks.map fun s => S s) (nums ks.length) :: .cells g0 3 [Z b.vars, t, .mapL 1 g2] :: z :: (tb ++ [.cells c 1 [nilE]]), c + 1⟩ = some ⟨r0 :: .map g2 (ks.map fun s => S s) (nums ks.length) :: .cells g0 3 [Z b.vars, t, .mapL 1 g2] :: z :: (tb ++ [.cells c 1 [y.enc]]), c + 1⟩ := by
        rw [storeN_L (n := 1) (xs := [y.enc]) rfl (by simp [Ex.enc_scalar]), hb3, blkDo_self]
        simp [putL]
      refine ⟨⟨_, hst, ?_⟩⟩
      refine ⟨y.enc, ?_, ?_⟩
      · simp [blkCells]
      have hon : nmOk (nmv ks) b.vars y := hnm
      obtain ⟨ho1, ho2⟩ := litP_ok (nmv ks) y b hon hb
      have hv1 := litP_vars (nmv ks) y b
      refine ⟨_, ih y (by omega) hf g0 g2 b (tb ++ [.cells c 1 [y.enc]]) _ (by omega) (by omega) hon hb ⟨z, t, c + 1, rfl, hg⟩, ?_⟩
      rintro r H2 ⟨rfl, h2⟩
      rw [neg_Z (okLit_big ho1 (by omega))]
      simp only [nd0, Y1n, Y1o, Y1p, Y1q, Y1w, Y1x, Y1y, Y1z, Y20, Y21, Y28, Y2a, AV.cells?, Nat.reduceAdd, Nat.reduceMul]
      exact ⟨rfl, _, h2⟩
    | and xs =>
      simp only [Ex.size] at hv hn
      simp only [Ex.wt] at hx
      refine ACalls.mono (R := fun r H' => r = Z (litP (nmv ks) (.and xs) b).1 ∧ ∃ w, SG r0 ks (litP (nmv ks) (.and xs) b).2 g0 g2 (tb ++ [w]) H') ?_ (fun r H' ⟨h1, w, h2⟩ => by
        obtain ⟨H2, q1, q2⟩ := h2.drop (r := r)
        exact ⟨r, H2, q1, h1, q2⟩)
      refine B.lit _ _ _ _ ?_
      unfold F.pgate_builder_lit
      simp only [Ex.enc]
      simp only [nd0, Y1n, Y1o, Y1p, Y1q, Y1w, Y1x, Y1y, Y1z, Y20, Y21, Y28, Y2a, AV.cells?, Nat.reduceAdd, Nat.reduceMul, asA, show (9 : Nat) = 14 ↔ False by decide, show (9 : Nat) = 12 ↔ False by decide, show (9 : Nat) = 13 ↔ False by decide, show (9 : Nat) = 10 ↔ False by decide, show (9 : Nat) = 9 ↔ True by decide]
      obtain ⟨ho1, ho2⟩ := litsP_ok (nmv ks) xs b hnm hb
      have hv1 := litsP_vars (nmv ks) xs b
      have hc1 := litsP_cl (nmv ks) xs b
      have hl1 := litsP_len (nmv ks) xs b
      have := litL_loop (ks := ks) (g0 := g0) (g2 := g2) (r0 := r0) B true xs (fun y hy => ih y (by have := Ex.wt_mem hy; omega) (Ex.fine_mem hf.2 hy)) (b := b) (tb := tb) (by omega) (by omega) hnm hb hH (R := fun t10 H => wCall E P 236 [.ptrL 2 0 g0, t10] H fun t96 H => t96 = Z (litP (nmv ks) (.and xs) b).1 ∧ ∃ w, SG r0 ks (litP (nmv ks) (.and xs) b).2 g0 g2 (tb ++ [w]) H) fun t w H hH hg => ?_
      · simp only [if_true, wGet_some] at this
        exact this
      · have hg' : Gr 1 w (4 + tb.length) t ((litsP (nmv ks) xs b).1.map fun z => Z z) (litsP (nmv ks) xs b).1.length := by rw [hl1]; exact hg
        refine ⟨_, ACalls.args (ghost_sub (.cons (.refl _) (.one hg'.sub))) (gAnd_spec B (l := (litsP (nmv ks) xs b).1) (by omega) (by omega) (fun y hy => okLit_big (ho1 y hy) (by omega)) hH), fun r H' h => ⟨h.1, w, h.2⟩⟩
    | or xs =>
      simp only [Ex.size] at hv hn
      simp only [Ex.wt] at hx
      refine ACalls.mono (R := fun r H' => r = Z (litP (nmv ks) (.or xs) b).1 ∧ ∃ w, SG r0 ks (litP (nmv ks) (.or xs) b).2 g0 g2 (tb ++ [w]) H') ?_ (fun r H' ⟨h1, w, h2⟩ => by
        obtain ⟨H2, q1, q2⟩ := h2.drop (r := r)
        exact ⟨r, H2, q1, h1, q2⟩)
      refine B.lit _ _ _ _ ?_
      unfold F.pgate_builder_lit
      simp only [Ex.enc]
      simp only [nd0, Y1n, Y1o, Y1p, Y1q, Y1w, Y1x, Y1y, Y1z, Y20, Y21, Y28, Y2a, AV.cells?, Nat.reduceAdd, Nat.reduceMul, asA, show (8 : Nat) = 14 ↔ False by decide, show (8 : Nat) = 12 ↔ False by decide, show (8 : Nat) = 13 ↔ False by decide, show (8 : Nat) = 10 ↔ False by decide, show (8 : Nat) = 9 ↔ False by decide, show (8 : Nat) = 8 ↔ True by decide]
      obtain ⟨ho1, ho2⟩ := litsP_ok (nmv ks) xs b hnm hb
      have hv1 := litsP_vars (nmv ks) xs b
      have hc1 := litsP_cl (nmv ks) xs b
      have hl1 := litsP_len (nmv ks) xs b
      have := litL_loop (ks := ks) (g0 := g0) (g2 := g2) (r0 := r0) B false xs (fun y hy => ih y (by have := Ex.wt_mem hy; omega) (Ex.fine_mem hf.2 hy)) (b := b) (tb := tb) (by omega) (by omega) hnm hb hH (R := fun t10 H => wCall E P 236 [.ptrL 2 0 g0, t10] H fun t96 H => wGet (unA .neg t96) H fun t97 H => t97 = Z (litP (nmv ks) (.or xs) b).1 ∧ ∃ w, SG r0 ks (litP (nmv ks) (.or xs) b).2 g0 g2 (tb ++ [w]) H) fun t w H hH hg => ?_
      · simp only [Bool.false_eq_true, if_false] at this
        exact this
      · have hg' : Gr 1 w (4 + tb.length) t ((negL (litsP (nmv ks) xs b).1).map fun z => Z z) (negL (litsP (nmv ks) xs b).1).length := by rw [negL_len, hl1]; exact hg
        refine ⟨_, ACalls.args (ghost_sub (.cons (.refl _) (.one hg'.sub))) (gAnd_spec B (l := negL (litsP (nmv ks) xs b).1) (by omega) (by rw [negL_len]; omega) (fun y hy => okLit_big (okB_neg ho1 y hy) (by omega)) hH), fun r H' h => ?_⟩
        obtain ⟨rfl, h2⟩ := h
        rw [neg_Z (by simp only [andP]; omega)]
        simp only [nd0, Y1n, Y1o, Y1p, Y1q, Y1w, Y1x, Y1y, Y1z, Y20, Y21, Y28, Y2a, AV.cells?, Nat.reduceAdd, Nat.reduceMul]
        exact ⟨rfl, w, h2⟩
end
end Go.Sc
namespace Go.Sc
open Go
set_option linter.unusedSimpArgs false
set_option linter.unusedVariables false
set_option linter.unnecessarySimpa false
theorem ltnodup {l : List Str} (h : l.Pairwise (· < ·)) : l.Nodup := h.imp fun {a b} h (e : a = b) => List.lt_irrefl b (e ▸ h)
theorem names_nodup (x : Ex) : x.names.Nodup := ltnodup (onceS_strict _)
section
variable {E : Env} {P : Program}
end
end Go.Sc
