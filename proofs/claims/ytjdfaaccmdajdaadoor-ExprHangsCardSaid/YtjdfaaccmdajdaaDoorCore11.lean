/- THE LAW ExprHangs, out of the contracts. CONTRACTS: formulas of package lasso: which may be; words that may be; plain's steps. (of the seat YtjdfaaccmdajdaaDoor) -/
import Derived.Test.YtjdfaaccmdajdaaDoorCore10
namespace Go.Sc.F
open Go Go.Sc
set_option linter.unusedVariables false

/-- signalbox/signalboxkeep.ExprHangs -/
def keep_ExprHangs (E : Env) (P : Program) (a0 a1 a2 a3 : AV) (H : AH) (R : Kt) : Prop :=
  wGet (lenS a0) H fun t18 H =>
  wGet (binA .gtr t18 (.val (.int .i64 900))) H fun t19 H =>
  wGuard t19 false H (fun k => k a1 H) fun t21 H =>
  wGuard t19 false H (fun k => wGet (lenA t21) H k) fun t22 H =>
  wGuard t19 false H (fun k => wGet (binA .gtr t22 (.val (.int .i64 20))) H k) fun t23 H =>
  wGet (pickA t19 (.val (.bool true)) t23) H fun t24 H =>
  wGuard t24 false H (fun k => k a2 H) fun t26 H =>
  wGuard t24 false H (fun k => wGet (lenA t26) H k) fun t27 H =>
  wGuard t24 false H (fun k => wGet (binA .gtr t27 (.val (.int .i64 20))) H k) fun t28 H =>
  wGet (pickA t24 (.val (.bool true)) t28) H fun t29 H =>
  wGuard t29 false H (fun k => k a3 H) fun t31 H =>
  wGuard t29 false H (fun k => wGet (lenA t31) H k) fun t32 H =>
  wGuard t29 false H (fun k => wGet (binA .gtr t32 (.val (.int .i64 20))) H k) fun t33 H =>
  wGet (pickA t29 (.val (.bool true)) t33) H fun t34 H =>
  wIf t34 (
    R (.val (.bool true)) H) (
    wCall E P 126 [a0] H fun t37 H =>
    wGet (extractA t37 0) H fun t38 H =>
    wGet (extractA t37 1) H fun t39 H =>
    wCall E P 155 [] H fun t40 H =>
    wGet (unA .not t40) H fun t41 H =>
    wGuard t41 false H (fun k => k t39 H) fun t43 H =>
    wGuard t41 false H (fun k => wBool (eqA .iface t43 (.val (.nilIface))) H true k) fun t44 H =>
    wGet (pickA t41 (.val (.bool true)) t44) H fun t45 H =>
    wIf t45 (
      wCall E P 155 [] H fun t46 H =>
      wGuard t46 true H (fun k => k t38 H) fun t48 H =>
      wGuard t46 true H (fun k => wBool (eqA .iface t48 (.val (.nilIface))) H false k) fun t49 H =>
      wGet (pickA t46 t49 (.val (.bool false))) H fun t50 H =>
      R t50 H) (
      wCall E P 181 [t38] H fun t52 H =>
      wCall E P 184 [t38] H fun t54 H =>
      wNewS 1 0 (fillA (List.replicate 0 [(.val (.string ⟨#[]⟩))]).flatten []) H fun t55 H =>
      wApp 1 16 t55 a1 H fun t57 H =>
      wNewS 1 0 (fillA (List.replicate 0 [(.val (.string ⟨#[]⟩))]).flatten []) H fun t58 H =>
      wApp 1 16 t58 a2 H fun t60 H =>
      wLoop 3 (fun I1 => I1 t57 t60 (.val (.int .i64 0)) H) fun I1 t13 t14 t15 H =>
        wGet (lenA a3) H fun t63 H =>
        wGet (binA .lss t15 t63) H fun t64 H =>
        wIf t64 (
          wJoin 2 (fun J2 =>
            wJoin 1 (fun J3 =>
              wGet (iaddr 1 a3 t15) H fun t71 H =>
              wGet (load1 t71 H) H fun t72 H =>
              wCall E P 157 [t52] H fun t68 H =>
              (wGet (load1 t71 H) H (fun y H2 => y = t72 ∧ H2 = H)) ∧
              wCallV E P t68 [t72] H fun t73 H =>
              wGet (unA .not t73) H fun t74 H =>
              wIf t74 (
                wGet (iaddr 1 a3 t15) H fun t78 H =>
                wGet (load1 t78 H) H fun t79 H =>
                wNewS 1 1 (fillA (List.replicate 1 [(.val (.string ⟨#[]⟩))]).flatten [(0, 1, t79)]) H fun t80 H =>
                wApp 1 16 t13 t80 H fun t81 H =>
                J3 t81 H) (
                J3 t13 H)) fun t13_1 H =>
              wGet (iaddr 1 a3 t15) H fun t86 H =>
              wGet (load1 t86 H) H fun t87 H =>
              wCall E P 157 [t54] H fun t83 H =>
              (wGet (load1 t86 H) H (fun y H2 => y = t87 ∧ H2 = H)) ∧
              wCallV E P t83 [t87] H fun t88 H =>
              wGet (unA .not t88) H fun t89 H =>
              wIf t89 (
                wGet (iaddr 1 a3 t15) H fun t93 H =>
                wGet (load1 t93 H) H fun t94 H =>
                wNewS 1 1 (fillA (List.replicate 1 [(.val (.string ⟨#[]⟩))]).flatten [(0, 1, t94)]) H fun t95 H =>
                wApp 1 16 t14 t95 H fun t96 H =>
                J2 t13_1 t96 H) (
                J2 t13_1 t14 H)) fun t13_2 t14_1 H =>
            wGet (binA .add t15 (.val (.int .i64 1))) H fun t66 H =>
            I1 t13_2 t14_1 t66 H) (
          wLoop 1 (fun I4 => I4 (.val (.int .i64 0)) H) fun I4 t16 H =>
            wGet (lenA t54) H fun t99 H =>
            wGet (binA .lss t16 t99) H fun t100 H =>
            wIf t100 (
              wGet (iaddr 1 t54 t16) H fun t107 H =>
              wGet (load1 t107 H) H fun t108 H =>
              wCall E P 157 [t52] H fun t104 H =>
              (wGet (load1 t107 H) H (fun y H2 => y = t108 ∧ H2 = H)) ∧
              wCallV E P t104 [t108] H fun t109 H =>
              wGet (unA .not t109) H fun t110 H =>
              wIf t110 (
                R (.val (.bool false)) H) (
                wGet (binA .add t16 (.val (.int .i64 1))) H fun t102 H =>
                I4 t102 H)) (
              wCall E P 157 [t13] H fun t113 H =>
              wCall E P 157 [t14] H fun t115 H =>
              wCall E P 158 [t38, t113, t115] H fun t116 H =>
              wCall E P 157 [a1] H fun t119 H =>
              wCall E P 157 [a2] H fun t121 H =>
              wCall E P 158 [t38, t119, t121] H fun t122 H =>
              wBool (eqA .bool t116 t122) H false fun t123 H =>
              R t123 H))))

end Go.Sc.F
namespace Go.Sc
open Go
set_option linter.unusedSimpArgs false
set_option linter.unusedVariables false
set_option linter.unnecessarySimpa false

section
variable {p p' q q' : Str → Bool}
theorem fine_ne {s : Str} (h : nameOk s = true) : s ≠ [] := by rintro rfl; simp [nameOk] at h
mutual
theorem Ex.says_hang : ∀ x : Ex, x.fine → (∀ s ∈ x.raw nf1, p s = p' s) → (∀ s ∈ x.raw nf2, q s = q' s) → x.says p q = x.says p' q'
  | .k _, _, _, _ => rfl
  | .bit s, hf, h1, _ => by
    have := h1 s (by simp [Ex.raw, nmL, nf1, fine_ne hf])
    simp [Ex.says, this]
  | .rise s, hf, h1, h2 => by
    have a := h1 s (by simp [Ex.raw, nmL, nf1, fine_ne hf])
    have b := h2 s (by simp [Ex.raw, nmL, nf2, fine_ne hf])
    simp [Ex.says, a, b]
  | .fall s, hf, h1, h2 => by
    have a := h1 s (by simp [Ex.raw, nmL, nf1, fine_ne hf])
    have b := h2 s (by simp [Ex.raw, nmL, nf2, fine_ne hf])
    simp [Ex.says, a, b]
  | .not y, hf, h1, h2 => by
    simp only [Ex.says]
    rw [Ex.says_hang y hf (fun s hs => h1 s (by simp [Ex.raw, hs])) (fun s hs => h2 s (by simp [Ex.raw, hs]))]
  | .and l, hf, h1, h2 => by
    simp only [Ex.says]
    exact (Ex.saysL_hang l hf.2 (fun s hs => h1 s (by simp [Ex.raw, hs])) (fun s hs => h2 s (by simp [Ex.raw, hs]))).1
  | .or l, hf, h1, h2 => by
    simp only [Ex.says]
    exact (Ex.saysL_hang l hf.2 (fun s hs => h1 s (by simp [Ex.raw, hs])) (fun s hs => h2 s (by simp [Ex.raw, hs]))).2
theorem Ex.saysL_hang : ∀ l : List Ex, Ex.fineL l → (∀ s ∈ Ex.rawL nf1 l, p s = p' s) → (∀ s ∈ Ex.rawL nf2 l, q s = q' s) → Ex.allL p q l = Ex.allL p' q' l ∧ Ex.anyL p q l = Ex.anyL p' q' l
  | [], _, _, _ => ⟨rfl, rfl⟩
  | x :: l, hf, h1, h2 => by
    have a := Ex.says_hang x hf.1 (fun s hs => h1 s (by simp [Ex.rawL, hs])) (fun s hs => h2 s (by simp [Ex.rawL, hs]))
    have b := Ex.saysL_hang l hf.2 (fun s hs => h1 s (by simp [Ex.rawL, hs])) (fun s hs => h2 s (by simp [Ex.rawL, hs]))
    simp only [Ex.allL, Ex.anyL, a, b.1, b.2, and_self]
end
end
theorem nm12 (x : Ex) (s : Str) (h : s ∈ nmL nf2 x) : s ∈ nmL nf1 x := by
  cases x <;> first | exact h | (simp [nmL, nf2] at h)
mutual
theorem Ex.edge_name : ∀ (x : Ex) (s : Str), s ∈ x.raw nf2 → s ∈ x.raw nf1
  | .k _, s, h => nm12 _ s h
  | .bit _, s, h => nm12 _ s h
  | .rise _, s, h => nm12 _ s h
  | .fall _, s, h => nm12 _ s h
  | .not y, s, h => by
    simp only [Ex.raw, List.mem_append] at h ⊢
    exact h.imp (nm12 _ s) (Ex.edge_name y s)
  | .and l, s, h => by
    simp only [Ex.raw, List.mem_append] at h ⊢
    exact h.imp (nm12 _ s) (Ex.edgeL_name l s)
  | .or l, s, h => by
    simp only [Ex.raw, List.mem_append] at h ⊢
    exact h.imp (nm12 _ s) (Ex.edgeL_name l s)
theorem Ex.edgeL_name : ∀ (l : List Ex) (s : Str), s ∈ Ex.rawL nf2 l → s ∈ Ex.rawL nf1 l
  | [], s, h => h
  | x :: l, s, h => by
    simp only [Ex.rawL, List.mem_append] at h ⊢
    exact h.imp (Ex.edge_name x s) (Ex.edgeL_name l s)
end
structure HangBodies (E : Env) (P : Program) : Prop where
  k : KeepExprBodies E P
  s : SortedBodies E P
section
variable {E : Env} {P : Program}
/-- those of a list that are not among others -/
def out (r l : List Str) : List Str := r.filter fun s => !decide (s ∈ l)
theorem out_snoc (r l : List Str) (s : Str) : out (r ++ [s]) l = if s ∈ l then out r l else out r l ++ [s] := by
  unfold out
  rw [List.filter_append]
  by_cases h : s ∈ l <;> simp [h]
theorem mem_out {r l : List Str} {s : Str} : s ∈ out r l ↔ s ∈ r ∧ s ∉ l := by simp [out]
theorem out_len (r l : List Str) : (out r l).length ≤ r.length := List.length_filter_le _ _
set_option maxHeartbeats 2000000 in
theorem ExprHangs_body (B : HangBodies E P) (s : Str) (l m r : List Str) (n : Nat) : F.keep_ExprHangs E P (S s) (Lm S l) (Lm S m) (Lm S r) ⟨[], n⟩ (fun r _ => r = Bo true) := by
  unfold F.keep_ExprHangs
  rw [Lm_S, Lm_S, Lm_S]
  simp only [nd0, Y1n, Y1o, Y1p, Y1q, Y1w, Y1x, Y1y, Y1z, Y20, Y21, Y28, Y2a, AV.cells?, Nat.reduceAdd, Nat.reduceMul]
  by_cases h1 : 900 < s.length
  · simp only [nd0, Y1n, Y1o, Y1p, Y1q, Y1w, Y1x, Y1y, Y1z, Y20, Y21, Y28, Y2a, AV.cells?, Nat.reduceAdd, Nat.reduceMul, decide_eq_true (show (900 : Int) < (s.length : Int) by omega)]
  simp only [nd0, Y1n, Y1o, Y1p, Y1q, Y1w, Y1x, Y1y, Y1z, Y20, Y21, Y28, Y2a, AV.cells?, Nat.reduceAdd, Nat.reduceMul, decide_eq_false (show ¬ (900 : Int) < (s.length : Int) by omega)]
  by_cases h2 : 20 < l.length
  · simp only [nd0, Y1n, Y1o, Y1p, Y1q, Y1w, Y1x, Y1y, Y1z, Y20, Y21, Y28, Y2a, AV.cells?, Nat.reduceAdd, Nat.reduceMul, decide_eq_true (show (20 : Int) < (l.length : Int) by omega)]
  simp only [nd0, Y1n, Y1o, Y1p, Y1q, Y1w, Y1x, Y1y, Y1z, Y20, Y21, Y28, Y2a, AV.cells?, Nat.reduceAdd, Nat.reduceMul, decide_eq_false (show ¬ (20 : Int) < (l.length : Int) by omega)]
  by_cases h3 : 20 < m.length
  · simp only [nd0, Y1n, Y1o, Y1p, Y1q, Y1w, Y1x, Y1y, Y1z, Y20, Y21, Y28, Y2a, AV.cells?, Nat.reduceAdd, Nat.reduceMul, decide_eq_true (show (20 : Int) < (m.length : Int) by omega)]
  simp only [nd0, Y1n, Y1o, Y1p, Y1q, Y1w, Y1x, Y1y, Y1z, Y20, Y21, Y28, Y2a, AV.cells?, Nat.reduceAdd, Nat.reduceMul, decide_eq_false (show ¬ (20 : Int) < (m.length : Int) by omega)]
  by_cases h4 : 20 < r.length
  · simp only [nd0, Y1n, Y1o, Y1p, Y1q, Y1w, Y1x, Y1y, Y1z, Y20, Y21, Y28, Y2a, AV.cells?, Nat.reduceAdd, Nat.reduceMul, decide_eq_true (show (20 : Int) < (r.length : Int) by omega)]
  simp only [nd0, Y1n, Y1o, Y1p, Y1q, Y1w, Y1x, Y1y, Y1z, Y20, Y21, Y28, Y2a, AV.cells?, Nat.reduceAdd, Nat.reduceMul, decide_eq_false (show ¬ (20 : Int) < (r.length : Int) by omega)]
  refine wCall.fx (Parse_spec B.k.p s) fun n => ?_
  rcases parseA_ok (s := s) (by omega) with ⟨e, p, hA⟩ | ⟨x, j, hx, hA⟩
  · rw [hA]
    simp only [nd0, Y1n, Y1o, Y1p, Y1q, Y1w, Y1x, Y1y, Y1z, Y20, Y21, Y28, Y2a, AV.cells?, Nat.reduceAdd, Nat.reduceMul]
    refine wCall.fx (says_spec B.k) fun n => ?_
    simp only [nd0, Y1n, Y1o, Y1p, Y1q, Y1w, Y1x, Y1y, Y1z, Y20, Y21, Y28, Y2a, AV.cells?, Nat.reduceAdd, Nat.reduceMul, eqA_At]
    refine wCall.fx (says_spec B.k) fun n => ?_
    simp only [nd0, Y1n, Y1o, Y1p, Y1q, Y1w, Y1x, Y1y, Y1z, Y20, Y21, Y28, Y2a, AV.cells?, Nat.reduceAdd, Nat.reduceMul, beq_self_eq_true]
  rw [hA]
  obtain ⟨hw, hf⟩ := parseR_good hx
  simp only [nd0, Y1n, Y1o, Y1p, Y1q, Y1w, Y1x, Y1y, Y1z, Y20, Y21, Y28, Y2a, AV.cells?, Nat.reduceAdd, Nat.reduceMul]
  refine wCall.fx (says_spec B.k) fun n => ?_
  simp only [nd0, Y1n, Y1o, Y1p, Y1q, Y1w, Y1x, Y1y, Y1z, Y20, Y21, Y28, Y2a, AV.cells?, Nat.reduceAdd, Nat.reduceMul]
  refine wCall.fx (Names_spec B.s x (by omega) hf) fun n => ?_
  refine wCall.fx (Edges_spec B.s x (by omega) hf) fun n => ?_
  have hsz := Ex.size_wt x hf
  have hnl : x.names.length ≤ 100000 := by have := onceS_length (x.raw nf1); have := Ex.raw_len nf1 x; unfold Ex.names; omega
  have hel : x.edges.length ≤ 100000 := by have := onceS_length (x.raw nf2); have := Ex.raw_len nf2 x; unfold Ex.edges; omega
  have hS : ∀ k : List Str, (k.map fun s => S s).all AV.scalar = true := fun k => by simp [AV.scalar]
  refine wNewS.T (l := []) (l' := []) rfl .nil rfl ?_
  simp only [nd0, Y1n, Y1o, Y1p, Y1q, Y1w, Y1x, Y1y, Y1z, Y20, Y21, Y28, Y2a, AV.cells?, Nat.reduceAdd, Nat.reduceMul]
  refine wApp.gr (sz := 1) (b := 0) (z := .tail n 1) (n := 0) (cs := []) .mk rfl rfl (new := l.map fun s => S s) (m := l.length) (by simp [cellsOfA, subL, ← List.map_take]) (.refl _) (hS l) (by simp [mostBytes]; omega) fun z0 t13 c0 k0 => ?_
  simp only [nd0, Y1n, Y1o, Y1p, Y1q, Y1w, Y1x, Y1y, Y1z, Y20, Y21, Y28, Y2a, AV.cells?, Nat.reduceAdd, Nat.reduceMul]
  refine wNewS.T (l := []) (l' := []) rfl .nil rfl ?_
  simp only [nd0, Y1n, Y1o, Y1p, Y1q, Y1w, Y1x, Y1y, Y1z, Y20, Y21, Y28, Y2a, AV.cells?, Nat.reduceAdd, Nat.reduceMul]
  refine wApp.gr (sz := 1) (b := 1) (z := .tail c0 1) (n := 0) (cs := []) .mk rfl rfl (new := m.map fun s => S s) (m := m.length) (by simp [cellsOfA, subL, ← List.map_take]) (.refl _) (hS m) (by simp [mostBytes]; omega) fun z1 t14 c1 k1 => ?_
  simp only [nd0, Y1n, Y1o, Y1p, Y1q, Y1w, Y1x, Y1y, Y1z, Y20, Y21, Y28, Y2a, AV.cells?, Nat.reduceAdd, Nat.reduceMul]
  rw [List.nil_append] at k0 k1
  rw [Nat.zero_add] at k0 k1
  have aN := among_asks B.k.e (TXL_Lm x.names) (by omega)
  have aE := among_asks B.k.e (TXL_Lm x.edges) (by omega)
  refine wLoop.three (fun mm t13 t14 i H => ∃ pre rest z0 z1 c, r = pre ++ rest ∧ i = Z pre.length ∧ mm = rest.length ∧ Gr 1 z0 0 t13 ((l ++ out pre x.names).map fun s => S s) (l ++ out pre x.names).length ∧ Gr 1 z1 1 t14 ((m ++ out pre x.edges).map fun s => S s) (m ++ out pre x.edges).length ∧ H = ⟨[z0, z1], c⟩) r.length
    (gh3.mk ⟨[], r, z0, z1, c1, rfl, rfl, rfl, by simpa [out] using k0, by simpa [out] using k1, rfl⟩) ?_
  rintro mm t13 t14 i H ⟨pre, rest, z0, z1, c, hpr, rfl, rfl, k0, k1, rfl⟩
  have hl0 := out_len pre x.names
  have hl1 := out_len pre x.edges
  have hpl : pre.length ≤ r.length := by rw [hpr]; simp
  simp only [nd0, Y1n, Y1o, Y1p, Y1q, Y1w, Y1x, Y1y, Y1z, Y20, Y21, Y28, Y2a, AV.cells?, Nat.reduceAdd, Nat.reduceMul]
  cases rest with
  | cons w rest =>
    have hlt : pre.length < r.length := by rw [hpr]; simp
    have hget : (r.map fun s => S s)[pre.length]? = some (S w) := by rw [hpr]; exact at_mid
    simp only [nd0, Y1n, Y1o, Y1p, Y1q, Y1w, Y1x, Y1y, Y1z, Y20, Y21, Y28, Y2a, AV.cells?, Nat.reduceAdd, Nat.reduceMul, decide_eq_true (show (pre.length : Int) < (r.length : Int) by omega)]
    refine wJoin.two (fun t13 t14 H => ∃ z0 z1 c, Gr 1 z0 0 t13 ((l ++ out (pre ++ [w]) x.names).map fun s => S s) (l ++ out (pre ++ [w]) x.names).length ∧ Gr 1 z1 1 t14 ((m ++ out (pre ++ [w]) x.edges).map fun s => S s) (m ++ out (pre ++ [w]) x.edges).length ∧ H = ⟨[z0, z1], c⟩) ?_ ?_
    case refine_2 =>
      rintro t13 t14 H ⟨z0, z1, c, k0, k1, rfl⟩
      rw [binA_succ (by omega)]
      simp only [nd0, Y1n, Y1o, Y1p, Y1q, Y1w, Y1x, Y1y, Y1z, Y20, Y21, Y28, Y2a, AV.cells?, Nat.reduceAdd, Nat.reduceMul]
      exact back3.mk rest.length (by simp) ⟨pre ++ [w], rest, z0, z1, c, by rw [hpr]; simp, by simp, rfl, k0, k1, rfl⟩
    refine wJoin.one (fun t13 H => ∃ z0 c, Gr 1 z0 0 t13 ((l ++ out (pre ++ [w]) x.names).map fun s => S s) (l ++ out (pre ++ [w]) x.names).length ∧ H = ⟨[z0, z1], c⟩) ?_ ?_
    · rw [iaddr_Nn hlt]
      simp only [nd0, Y1n, Y1o, Y1p, Y1q, Y1w, Y1x, Y1y, Y1z, Y20, Y21, Y28, Y2a, AV.cells?, Nat.reduceAdd, Nat.reduceMul, hget]
      refine wCall.fx (among_spec B.k.e (TXL_Lm x.names)) fun n1 => ?_
      simp only [nd0, Y1n, Y1o, Y1p, Y1q, Y1w, Y1x, Y1y, Y1z, Y20, Y21, Y28, Y2a, AV.cells?, Nat.reduceAdd, Nat.reduceMul, and_self, true_and]
      refine aN.call w fun n2 => ?_
      simp only [nd0, Y1n, Y1o, Y1p, Y1q, Y1w, Y1x, Y1y, Y1z, Y20, Y21, Y28, Y2a, AV.cells?, Nat.reduceAdd, Nat.reduceMul]
      by_cases hm : w ∈ x.names
      · simp only [nd0, Y1n, Y1o, Y1p, Y1q, Y1w, Y1x, Y1y, Y1z, Y20, Y21, Y28, Y2a, AV.cells?, Nat.reduceAdd, Nat.reduceMul, decide_eq_true hm]
        refine gh1.mk ⟨z0, n2, ?_, rfl⟩
        rw [out_snoc, if_pos hm]; exact k0
      · simp only [nd0, Y1n, Y1o, Y1p, Y1q, Y1w, Y1x, Y1y, Y1z, Y20, Y21, Y28, Y2a, AV.cells?, Nat.reduceAdd, Nat.reduceMul, decide_eq_false hm]
        refine wNewS.F' (l := [S w]) rfl rfl ?_
        refine wApp.one k0 rfl (by simp) (.refl _) rfl (by simp [mostBytes]; omega) fun z' x' c' k' => ?_
        simp only [nd0, Y1n, Y1o, Y1p, Y1q, Y1w, Y1x, Y1y, Y1z, Y20, Y21, Y28, Y2a, AV.cells?, Nat.reduceAdd, Nat.reduceMul]
        refine gh1.mk ⟨z', c', ?_, rfl⟩
        rw [out_snoc, if_neg hm]
        simpa [List.append_assoc, Nat.add_assoc] using k'
    rintro t13 H ⟨z0, c, k0, rfl⟩
    rw [iaddr_Nn hlt]
    simp only [nd0, Y1n, Y1o, Y1p, Y1q, Y1w, Y1x, Y1y, Y1z, Y20, Y21, Y28, Y2a, AV.cells?, Nat.reduceAdd, Nat.reduceMul, hget]
    refine wCall.fx (among_spec B.k.e (TXL_Lm x.edges)) fun n1 => ?_
    simp only [nd0, Y1n, Y1o, Y1p, Y1q, Y1w, Y1x, Y1y, Y1z, Y20, Y21, Y28, Y2a, AV.cells?, Nat.reduceAdd, Nat.reduceMul, and_self, true_and]
    refine aE.call w fun n2 => ?_
    simp only [nd0, Y1n, Y1o, Y1p, Y1q, Y1w, Y1x, Y1y, Y1z, Y20, Y21, Y28, Y2a, AV.cells?, Nat.reduceAdd, Nat.reduceMul]
    by_cases hm : w ∈ x.edges
    · simp only [nd0, Y1n, Y1o, Y1p, Y1q, Y1w, Y1x, Y1y, Y1z, Y20, Y21, Y28, Y2a, AV.cells?, Nat.reduceAdd, Nat.reduceMul, decide_eq_true hm]
      refine gh2.mk ⟨z0, z1, n2, k0, ?_, rfl⟩
      rw [out_snoc, if_pos hm]; exact k1
    · simp only [nd0, Y1n, Y1o, Y1p, Y1q, Y1w, Y1x, Y1y, Y1z, Y20, Y21, Y28, Y2a, AV.cells?, Nat.reduceAdd, Nat.reduceMul, decide_eq_false hm]
      refine wNewS.F' (l := [S w]) rfl rfl ?_
      refine wApp.one k1 rfl (by simp) (.refl _) rfl (by simp [mostBytes]; omega) fun z' x' c' k' => ?_
      simp only [nd0, Y1n, Y1o, Y1p, Y1q, Y1w, Y1x, Y1y, Y1z, Y20, Y21, Y28, Y2a, AV.cells?, Nat.reduceAdd, Nat.reduceMul]
      refine gh2.mk ⟨z0, z', c', k0, ?_, rfl⟩
      rw [out_snoc, if_neg hm]
      simpa [List.append_assoc, Nat.add_assoc] using k'
  | nil =>
    rw [List.append_nil] at hpr
    subst hpr
    simp only [nd0, Y1n, Y1o, Y1p, Y1q, Y1w, Y1x, Y1y, Y1z, Y20, Y21, Y28, Y2a, AV.cells?, Nat.reduceAdd, Nat.reduceMul, Int.lt_irrefl]
    refine wLoop.one (fun mm i H => ∃ (a : Nat) (c : Nat), a ≤ x.edges.length ∧ i = Z a ∧ mm = x.edges.length - a ∧ H = ⟨[z0, z1], c⟩) x.edges.length (gh1.mk ⟨0, c, by omega, rfl, rfl, rfl⟩) ?_
    rintro mm i H ⟨a, c, ha, rfl, rfl, rfl⟩
    rw [Lm_S]
    simp only [nd0, Y1n, Y1o, Y1p, Y1q, Y1w, Y1x, Y1y, Y1z, Y20, Y21, Y28, Y2a, AV.cells?, Nat.reduceAdd, Nat.reduceMul]
    by_cases hlt : a < x.edges.length
    · simp only [nd0, Y1n, Y1o, Y1p, Y1q, Y1w, Y1x, Y1y, Y1z, Y20, Y21, Y28, Y2a, AV.cells?, Nat.reduceAdd, Nat.reduceMul, decide_eq_true (show (a : Int) < (x.edges.length : Int) by omega)]
      rw [iaddr_Nn hlt]
      have hget : (x.edges.map fun s => S s)[a]? = some (S x.edges[a]) := by rw [List.getElem?_map, List.getElem?_eq_getElem hlt]; rfl
      simp only [nd0, Y1n, Y1o, Y1p, Y1q, Y1w, Y1x, Y1y, Y1z, Y20, Y21, Y28, Y2a, AV.cells?, Nat.reduceAdd, Nat.reduceMul, hget]
      refine wCall.fx (among_spec B.k.e (TXL_Lm x.names)) fun n1 => ?_
      simp only [nd0, Y1n, Y1o, Y1p, Y1q, Y1w, Y1x, Y1y, Y1z, Y20, Y21, Y28, Y2a, AV.cells?, Nat.reduceAdd, Nat.reduceMul, and_self, true_and]
      refine aN.call x.edges[a] fun n2 => ?_
      have hmem : x.edges[a] ∈ x.names := onceS_mem.2 (Ex.edge_name x _ (onceS_mem.1 (List.getElem_mem hlt)))
      simp only [nd0, Y1n, Y1o, Y1p, Y1q, Y1w, Y1x, Y1y, Y1z, Y20, Y21, Y28, Y2a, AV.cells?, Nat.reduceAdd, Nat.reduceMul, decide_eq_true hmem]
      rw [binA_succ (by omega)]
      simp only [nd0, Y1n, Y1o, Y1p, Y1q, Y1w, Y1x, Y1y, Y1z, Y20, Y21, Y28, Y2a, AV.cells?, Nat.reduceAdd, Nat.reduceMul]
      exact back1.mk (x.edges.length - (a + 1)) (by omega) ⟨a + 1, n2, by omega, rfl, rfl, rfl⟩
    · simp only [nd0, Y1n, Y1o, Y1p, Y1q, Y1w, Y1x, Y1y, Y1z, Y20, Y21, Y28, Y2a, AV.cells?, Nat.reduceAdd, Nat.reduceMul, decide_eq_false (show ¬ (a : Int) < (x.edges.length : Int) by omega)]
      have s0 : SubL [t13] [Lm S (l ++ out r x.names)] := .one k0.sub
      have s1 : SubL [t14] [Lm S (m ++ out r x.edges)] := .one k1.sub
      refine wCall.fxs (among_spec B.k.e (TXL_Lm (l ++ out r x.names))) s0 fun n1 => ?_
      refine wCall.fxs (among_spec B.k.e (TXL_Lm (m ++ out r x.edges))) s1 fun n2 => ?_
      have b0 := among_asks B.k.e (TXL_Lm (l ++ out r x.names)) (by rw [List.length_append]; omega)
      have b1 := among_asks B.k.e (TXL_Lm (m ++ out r x.edges)) (by rw [List.length_append]; omega)
      refine wCall.fx (Eval_spec B.k.e b0 b1 (x.wt + 1) x (by omega) (by omega) hf) fun n3 => ?_
      refine wCall.fx (among_spec B.k.e (TXL_Lm l)) fun n4 => ?_
      refine wCall.fx (among_spec B.k.e (TXL_Lm m)) fun n5 => ?_
      refine wCall.fx (Eval_spec B.k.e (among_asks B.k.e (TXL_Lm l) (by omega)) (among_asks B.k.e (TXL_Lm m) (by omega)) (x.wt + 1) x (by omega) (by omega) hf) fun n6 => ?_
      have heq : x.says (fun s => decide (s ∈ l ++ out r x.names)) (fun s => decide (s ∈ m ++ out r x.edges)) = x.says (fun s => decide (s ∈ l)) (fun s => decide (s ∈ m)) := Ex.says_hang x hf
        (fun s hs => decide_eq_decide.2 ⟨fun h => (List.mem_append.1 h).elim id fun h => absurd (onceS_mem.2 hs) (mem_out.1 h).2, fun h => List.mem_append.2 (.inl h)⟩)
        (fun s hs => decide_eq_decide.2 ⟨fun h => (List.mem_append.1 h).elim id fun h => absurd (onceS_mem.2 hs) (mem_out.1 h).2, fun h => List.mem_append.2 (.inl h)⟩)
      rw [heq]
      simp only [nd0, Y1n, Y1o, Y1p, Y1q, Y1w, Y1x, Y1y, Y1z, Y20, Y21, Y28, Y2a, AV.cells?, Nat.reduceAdd, Nat.reduceMul, beq_self_eq_true]
end
end Go.Sc
namespace Go.Sc.F
open Go Go.Sc
set_option linter.unusedVariables false

/-- signalbox/signalboxkeep.LassoTurns -/
def keep_LassoTurns (E : Env) (P : Program) (a0 a1 : AV) (H : AH) (R : Kt) : Prop :=
  wNew 2 (AV.cells? a0) H fun t2 H =>
  wGet (lenA a1) H fun t18 H =>
  wGet (binA .gtr t18 (.val (.int .i64 16))) H fun t19 H =>
  wGuard t19 false H (fun k => wGet (faddr 0 t2) H k) fun t21 H =>
  wGuard t19 false H (fun k => wGet (load1 t21 H) H k) fun t22 H =>
  wGuard t19 false H (fun k => wGet (lenA t22) H k) fun t23 H =>
  wGuard t19 false H (fun k => wGet (faddr 1 t2) H k) fun t24 H =>
  wGuard t19 false H (fun k => wGet (load1 t24 H) H k) fun t25 H =>
  wGuard t19 false H (fun k => wGet (lenA t25) H k) fun t26 H =>
  wGuard t19 false H (fun k => wGet (binA .mul (.val (.int .i64 2)) t26) H k) fun t27 H =>
  wGuard t19 false H (fun k => wGet (binA .add t23 t27) H k) fun t28 H =>
  wGuard t19 false H (fun k => wGet (binA .gtr t28 (.val (.int .i64 40))) H k) fun t29 H =>
  wGet (pickA t19 (.val (.bool true)) t29) H fun t30 H =>
  wIf t30 (
    R (.val (.bool true)) H) (
    wCall E P 26 [a1] H fun t32 H =>
    wGet (loadN 2 t2 H) H fun t34 H =>
    wCall E P 27 [t34, t32] H fun t36 H =>
    wGet (extractA t36 0) H fun t37 H =>
    wGet (extractA t36 1) H fun t38 H =>
    wCall E P 28 [] H fun t39 H =>
    wGet (unA .not t39) H fun t40 H =>
    wGuard t40 false H (fun k => k t38 H) fun t42 H =>
    wGuard t40 false H (fun k => wBool (eqA .iface t42 (.val (.nilIface))) H true k) fun t43 H =>
    wGet (pickA t40 (.val (.bool true)) t43) H fun t44 H =>
    wIf t44 (
      wCall E P 28 [] H fun t45 H =>
      wGuard t45 true H (fun k => k t37 H) fun t47 H =>
      wGuard t45 true H (fun k => wGet (lenA t47) H k) fun t48 H =>
      wGuard t45 true H (fun k => wGet (binA .eql t48 (.val (.int .i64 0))) H k) fun t49 H =>
      wGet (pickA t45 t49 (.val (.bool false))) H fun t50 H =>
      R t50 H) (
      wGet (faddr 0 t2) H fun t51 H =>
      wGet (load1 t51 H) H fun t52 H =>
      wGet (lenA t52) H fun t53 H =>
      wGet (faddr 1 t2) H fun t54 H =>
      wGet (load1 t54 H) H fun t55 H =>
      wGet (lenA t55) H fun t56 H =>
      (wGet (load1 t54 H) H (fun y H2 => y = t55 ∧ H2 = H)) ∧
      wOne (fun H k => wNewS 1 0 (fillA (List.replicate 0 [(.val (.slice none 0 0))]).flatten []) H k) H fun t57 H =>
      wGet (faddr 0 t2) H fun t58 H =>
      wGet (load1 t58 H) H fun t59 H =>
      wOne (fun H k => wApp 1 24 t57 t59 H k) H fun t60 H =>
      wGet (faddr 1 t2) H fun t61 H =>
      wGet (load1 t61 H) H fun t62 H =>
      wGet (iaddr 1 t62 (.val (.int .i64 0))) H fun t63 H =>
      wGet (load1 t63 H) H fun t64 H =>
      wOne (fun H k => wNewS 1 1 (fillA (List.replicate 1 [(.val (.slice none 0 0))]).flatten [(0, 1, t64)]) H k) H fun t65 H =>
      wOne (fun H k => wApp 1 24 t60 t65 H k) H fun t66 H =>
      wOne (fun H k => wNewS 1 0 (fillA (List.replicate 0 [(.val (.slice none 0 0))]).flatten []) H k) H fun t67 H =>
      wGet (faddr 1 t2) H fun t68 H =>
      wGet (load1 t68 H) H fun t69 H =>
      wGet (sliceA 1 t69 (some (.val (.int .i64 1))) none H) H fun t70 H =>
      wOne (fun H k => wApp 1 24 t67 t70 H k) H fun t71 H =>
      wGet (faddr 1 t2) H fun t72 H =>
      wGet (load1 t72 H) H fun t73 H =>
      wGet (iaddr 1 t73 (.val (.int .i64 0))) H fun t74 H =>
      wGet (load1 t74 H) H fun t75 H =>
      wOne (fun H k => wNewS 1 1 (fillA (List.replicate 1 [(.val (.slice none 0 0))]).flatten [(0, 1, t75)]) H k) H fun t76 H =>
      wOne (fun H k => wApp 1 24 t71 t76 H k) H fun t77 H =>
      wAgg (fillA [(.val (.slice none 0 0)), (.val (.slice none 0 0))] [(0, 1, t66), (1, 1, t77)]) H fun t78 H =>
      wOne (fun H k => wNew 2 (some [(.val (.slice none 0 0)), (.val (.slice none 0 0))]) H k) H fun t10 H =>
      wOne (fun H k => wPut (storeN 2 t10 t78 H) k) H fun _u H =>
      wAll H fun H =>
      wJoin 1 (fun J1 =>
        wGet (faddr 0 t2) H fun t79 H =>
        wGet (load1 t79 H) H fun t80 H =>
        wGet (faddr 1 t2) H fun t82 H =>
        wGet (load1 t82 H) H fun t83 H =>
        wGet (faddr 1 t2) H fun t85 H =>
        wGet (load1 t85 H) H fun t86 H =>
        (
          wNewS 1 0 (fillA (List.replicate 0 [(.val (.slice none 0 0))]).flatten []) H fun t81 H =>
          (wGet (load1 t79 H) H (fun y H2 => y = t80 ∧ H2 = H)) ∧
          (wGet (load1 t82 H) H (fun y H2 => y = t83 ∧ H2 = H)) ∧
          (wGet (load1 t85 H) H (fun y H2 => y = t86 ∧ H2 = H)) ∧
          (
            wApp 1 24 t81 t83 H fun t84 H =>
            (wGet (load1 t79 H) H (fun y H2 => y = t80 ∧ H2 = H)) ∧
            (wGet (load1 t85 H) H (fun y H2 => y = t86 ∧ H2 = H)) ∧
            (
              wApp 1 24 t84 t86 H fun t87 H =>
              (wGet (load1 t79 H) H (fun y H2 => y = t80 ∧ H2 = H)) ∧
              wAgg (fillA [(.val (.slice none 0 0)), (.val (.slice none 0 0))] [(0, 1, t80), (1, 1, t87)]) H fun t88 H =>
              wNew 2 (some [(.val (.slice none 0 0)), (.val (.slice none 0 0))]) H fun t11 H =>
              (wGet (load1 t79 H) H (fun y H2 => y = t80 ∧ H2 = H)) ∧
              (wGet (load1 t82 H) H (fun y H2 => y = t83 ∧ H2 = H)) ∧
              (wGet (load1 t85 H) H (fun y H2 => y = t86 ∧ H2 = H)) ∧
              wPut (storeN 2 t11 t88 H) fun _u H =>
              J1 t11 H) ∧
            (
              wNew 2 (some [(.val (.slice none 0 0)), (.val (.slice none 0 0))]) H fun t11_1 H =>
              (wGet (load1 t79 H) H (fun y H2 => y = t80 ∧ H2 = H)) ∧
              (wGet (load1 t82 H) H (fun y H2 => y = t83 ∧ H2 = H)) ∧
              (wGet (load1 t85 H) H (fun y H2 => y = t86 ∧ H2 = H)) ∧
              wApp 1 24 t84 t86 H fun t87_1 H =>
              (wGet (load1 t79 H) H (fun y H2 => y = t80 ∧ H2 = H)) ∧
              wAgg (fillA [(.val (.slice none 0 0)), (.val (.slice none 0 0))] [(0, 1, t80), (1, 1, t87_1)]) H fun t88_1 H =>
              wPut (storeN 2 t11_1 t88_1 H) fun _u H =>
              J1 t11_1 H)) ∧
          (
            wNew 2 (some [(.val (.slice none 0 0)), (.val (.slice none 0 0))]) H fun t11_2 H =>
            (wGet (load1 t79 H) H (fun y H2 => y = t80 ∧ H2 = H)) ∧
            (wGet (load1 t82 H) H (fun y H2 => y = t83 ∧ H2 = H)) ∧
            (wGet (load1 t85 H) H (fun y H2 => y = t86 ∧ H2 = H)) ∧
            wApp 1 24 t81 t83 H fun t84_1 H =>
            (wGet (load1 t79 H) H (fun y H2 => y = t80 ∧ H2 = H)) ∧
            (wGet (load1 t85 H) H (fun y H2 => y = t86 ∧ H2 = H)) ∧
            wApp 1 24 t84_1 t86 H fun t87_2 H =>
            (wGet (load1 t79 H) H (fun y H2 => y = t80 ∧ H2 = H)) ∧
            wAgg (fillA [(.val (.slice none 0 0)), (.val (.slice none 0 0))] [(0, 1, t80), (1, 1, t87_2)]) H fun t88_2 H =>
            wPut (storeN 2 t11_2 t88_2 H) fun _u H =>
            J1 t11_2 H)) ∧
        (
          wNew 2 (some [(.val (.slice none 0 0)), (.val (.slice none 0 0))]) H fun t11_3 H =>
          (wGet (load1 t79 H) H (fun y H2 => y = t80 ∧ H2 = H)) ∧
          (wGet (load1 t82 H) H (fun y H2 => y = t83 ∧ H2 = H)) ∧
          (wGet (load1 t85 H) H (fun y H2 => y = t86 ∧ H2 = H)) ∧
          wNewS 1 0 (fillA (List.replicate 0 [(.val (.slice none 0 0))]).flatten []) H fun t81_1 H =>
          (wGet (load1 t79 H) H (fun y H2 => y = t80 ∧ H2 = H)) ∧
          (wGet (load1 t82 H) H (fun y H2 => y = t83 ∧ H2 = H)) ∧
          (wGet (load1 t85 H) H (fun y H2 => y = t86 ∧ H2 = H)) ∧
          wApp 1 24 t81_1 t83 H fun t84_2 H =>
          (wGet (load1 t79 H) H (fun y H2 => y = t80 ∧ H2 = H)) ∧
          (wGet (load1 t85 H) H (fun y H2 => y = t86 ∧ H2 = H)) ∧
          wApp 1 24 t84_2 t86 H fun t87_3 H =>
          (wGet (load1 t79 H) H (fun y H2 => y = t80 ∧ H2 = H)) ∧
          wAgg (fillA [(.val (.slice none 0 0)), (.val (.slice none 0 0))] [(0, 1, t80), (1, 1, t87_3)]) H fun t88_3 H =>
          wPut (storeN 2 t11_3 t88_3 H) fun _u H =>
          J1 t11_3 H)) fun t11_4 H =>
        wGet (loadN 2 t10 H) H fun t90 H =>
        wCall E P 27 [t90, t32] H fun t92 H =>
        wGet (extractA t92 0) H fun t93 H =>
        wGet (extractA t92 1) H fun t94 H =>
        wGet (loadN 2 t11_4 H) H fun t96 H =>
        wCall E P 27 [t96, t32] H fun t98 H =>
        wGet (extractA t98 0) H fun t99 H =>
        wGet (extractA t98 1) H fun t100 H =>
        wBool (eqA .iface t94 (.val (.nilIface))) H true fun t102 H =>
        wGuard t102 false H (fun k => k t100 H) fun t104 H =>
        wGuard t102 false H (fun k => wBool (eqA .iface t104 (.val (.nilIface))) H true k) fun t105 H =>
        wGet (pickA t102 (.val (.bool true)) t105) H fun t106 H =>
        wGuard t106 false H (fun k => k t37 H) fun t108 H =>
        wGuard t106 false H (fun k => wGet (lenA t108) H k) fun t109 H =>
        wGuard t106 false H (fun k => k t53 H) fun t110 H =>
        wGuard t106 false H (fun k => k t56 H) fun t111 H =>
        wGuard t106 false H (fun k => wGet (binA .add t110 t111) H k) fun t112 H =>
        wGuard t106 false H (fun k => wGet (binA .neq t109 t112) H k) fun t113 H =>
        wGet (pickA t106 (.val (.bool true)) t113) H fun t114 H =>
        wGuard t114 false H (fun k => k t93 H) fun t116 H =>
        wGuard t114 false H (fun k => wGet (lenA t116) H k) fun t117 H =>
        wGuard t114 false H (fun k => k t53 H) fun t118 H =>
        wGuard t114 false H (fun k => k t56 H) fun t119 H =>
        wGuard t114 false H (fun k => wGet (binA .add t118 t119) H k) fun t120 H =>
        wGuard t114 false H (fun k => wGet (binA .add t120 (.val (.int .i64 1))) H k) fun t121 H =>
        wGuard t114 false H (fun k => wGet (binA .neq t117 t121) H k) fun t122 H =>
        wGet (pickA t114 (.val (.bool true)) t122) H fun t123 H =>
        wGuard t123 false H (fun k => k t99 H) fun t125 H =>
        wGuard t123 false H (fun k => wGet (lenA t125) H k) fun t126 H =>
        wGuard t123 false H (fun k => k t53 H) fun t127 H =>
        wGuard t123 false H (fun k => k t56 H) fun t128 H =>
        wGuard t123 false H (fun k => wGet (binA .mul (.val (.int .i64 2)) t128) H k) fun t129 H =>
        wGuard t123 false H (fun k => wGet (binA .add t127 t129) H k) fun t130 H =>
        wGuard t123 false H (fun k => wGet (binA .neq t126 t130) H k) fun t131 H =>
        wGet (pickA t123 (.val (.bool true)) t131) H fun t132 H =>
        wIf t132 (
          R (.val (.bool false)) H) (
          wLoop 1 (fun I2 => I2 (.val (.int .i64 0)) H) fun I2 t16 H =>
            wGet (binA .add t53 t56) H fun t136 H =>
            wGet (binA .lss t16 t136) H fun t137 H =>
            wIf t137 (
              wGet (iaddr 1 t93 t16) H fun t142 H =>
              wGet (load1 t142 H) H fun t143 H =>
              wGet (iaddr 1 t37 t16) H fun t146 H =>
              wGet (load1 t146 H) H fun t147 H =>
              wBool (eqA .bool t143 t147) H true fun t148 H =>
              wGuard t148 false H (fun k => k t99 H) fun t150 H =>
              wGuard t148 false H (fun k => k t16 H) fun t151 H =>
              wGuard t148 false H (fun k => wGet (iaddr 1 t150 t151) H k) fun t152 H =>
              wGuard t148 false H (fun k => wGet (load1 t152 H) H k) fun t153 H =>
              wGuard t148 false H (fun k => k t37 H) fun t154 H =>
              wGuard t148 false H (fun k => k t16 H) fun t155 H =>
              wGuard t148 false H (fun k => wGet (iaddr 1 t154 t155) H k) fun t156 H =>
              wGuard t148 false H (fun k => wGet (load1 t156 H) H k) fun t157 H =>
              wGuard t148 false H (fun k => wBool (eqA .bool t153 t157) H true k) fun t158 H =>
              wGet (pickA t148 (.val (.bool true)) t158) H fun t159 H =>
              wGuard t159 false H (fun k => k t16 H) fun t161 H =>
              wGuard t159 false H (fun k => k t53 H) fun t162 H =>
              wGuard t159 false H (fun k => wGet (binA .geq t161 t162) H k) fun t163 H =>
              wGuard t159 false H (fun k => k t163 H) fun t164 H =>
              wGuard t164 true H (fun k => k t99 H) fun t165 H =>
              wGuard t164 true H (fun k => k t16 H) fun t166 H =>
              wGuard t164 true H (fun k => k t56 H) fun t167 H =>
              wGuard t164 true H (fun k => wGet (binA .add t166 t167) H k) fun t168 H =>
              wGuard t164 true H (fun k => wGet (iaddr 1 t165 t168) H k) fun t169 H =>
              wGuard t164 true H (fun k => wGet (load1 t169 H) H k) fun t170 H =>
              wGuard t164 true H (fun k => k t37 H) fun t171 H =>
              wGuard t164 true H (fun k => k t16 H) fun t172 H =>
              wGuard t164 true H (fun k => wGet (iaddr 1 t171 t172) H k) fun t173 H =>
              wGuard t164 true H (fun k => wGet (load1 t173 H) H k) fun t174 H =>
              wGuard t164 true H (fun k => wBool (eqA .bool t170 t174) H true k) fun t175 H =>
              wGuard t159 false H (fun k => wGet (pickA t164 t175 (.val (.bool false))) H k) fun t176 H =>
              wGet (pickA t159 (.val (.bool true)) t176) H fun t177 H =>
              wIf t177 (
                R (.val (.bool false)) H) (
                wGet (binA .add t16 (.val (.int .i64 1))) H fun t139 H =>
                I2 t139 H)) (
              wGet (binA .add t53 t56) H fun t181 H =>
              wGet (iaddr 1 t93 t181) H fun t182 H =>
              wGet (load1 t182 H) H fun t183 H =>
              wGet (iaddr 1 t37 t53) H fun t186 H =>
              wGet (load1 t186 H) H fun t187 H =>
              wBool (eqA .bool t183 t187) H false fun t188 H =>
              R t188 H))))

/-- signalbox/plain.Formula -/
def plain_Formula (E : Env) (P : Program) (a0 : AV) (H : AH) (R : Kt) : Prop :=
  wAgg (fillA [(.val (.int .i64 0)), (.val (.string ⟨#[]⟩)), (.val (.slice none 0 0))] [(0, 1, (.val (.int .i64 2)))]) H fun t9 H =>
  wNew 3 (AV.cells? t9) H fun t10 H =>
  wNewS 1 1 (fillA (List.replicate 1 [(.val (.pointer none))]).flatten [(0, 1, t10)]) H fun t11 H =>
  wGet (lenA a0) H fun t13 H =>
  wLoop 2 (fun I1 => I1 t11 (.val (.int .i64 0)) H) fun I1 t3 t14 H =>
    wGet (binA .lss t14 t13) H fun t15 H =>
    wIf t15 (
      wGet (iaddr 4 a0 t14) H fun t16 H =>
      wGet (loadN 4 t16 H) H fun t17 H =>
      wNew 4 (some [(.val (.int .i64 0)), (.val (.int .i64 0)), (.val (.int .i64 0)), (.val (.string ⟨#[]⟩))]) H fun t5 H =>
      wPut (storeN 4 t5 t17 H) fun _u H =>
      wGet (faddr 0 t5) H fun t18 H =>
      wGet (load1 t18 H) H fun t19 H =>
      wAgg (fillA [(.val (.int .i64 0)), (.val (.string ⟨#[]⟩)), (.val (.slice none 0 0))] [(0, 1, t19)]) H fun t20 H =>
      wNew 3 (AV.cells? t20) H fun t21 H =>
      wGet (faddr 1 t5) H fun t23 H =>
      wGet (load1 t23 H) H fun t24 H =>
      wGet (lenA t3) H fun t26 H =>
      wGet (faddr 2 t5) H fun t31 H =>
      wGet (load1 t31 H) H fun t32 H =>
      wGet (lenA t3) H fun t34 H =>
      wCall E P 30 [t24, t26] H fun t27 H =>
      (wGet (load1 t31 H) H (fun y H2 => y = t32 ∧ H2 = H)) ∧
      wGet (iaddr 1 t3 t27) H fun t28 H =>
      wGet (load1 t28 H) H fun t29 H =>
      wCall E P 30 [t32, t34] H fun t35 H =>
      (wGet (load1 t28 H) H (fun y H2 => y = t29 ∧ H2 = H)) ∧
      wGet (iaddr 1 t3 t35) H fun t36 H =>
      wGet (load1 t36 H) H fun t37 H =>
      (wGet (load1 t36 H) H (fun y H2 => y = t37 ∧ H2 = H)) ∧
      wJoin 0 (fun J2 =>
        wGet (faddr 0 t5) H fun t38 H =>
        wGet (load1 t38 H) H fun t39 H =>
        wGet (binA .eql t39 (.val (.int .i64 2))) H fun t49 H =>
        wIf t49 (
          J2 H) (
          wJoin 1 (fun J3 =>
            wGet (binA .eql t39 (.val (.int .i64 3))) H fun t51 H =>
            wIf t51 (
              J3 t51 H) (
              wGet (binA .eql t39 (.val (.int .i64 6))) H fun t52 H =>
              wIf t52 (
                J3 t52 H) (
                wGet (binA .eql t39 (.val (.int .i64 9))) H fun t53 H =>
                wIf t53 (
                  J3 t53 H) (
                  wGet (binA .eql t39 (.val (.int .i64 10))) H fun t54 H =>
                  J3 t54 H)))) fun t50 H =>
            wIf t50 (
              wNewS 1 1 (fillA (List.replicate 1 [(.val (.pointer none))]).flatten [(0, 1, t29)]) H fun t57 H =>
              wGet (nilA t21) H fun t58 H =>
              wGet (faddr 2 t58) H fun t59 H =>
              wPut (store1 t59 t57 H) fun _u H =>
              J2 H) (
              wJoin 1 (fun J4 =>
                wGet (binA .eql t39 (.val (.int .i64 4))) H fun t61 H =>
                wIf t61 (
                  J4 t61 H) (
                  wGet (binA .eql t39 (.val (.int .i64 5))) H fun t62 H =>
                  wIf t62 (
                    J4 t62 H) (
                    wGet (binA .eql t39 (.val (.int .i64 7))) H fun t63 H =>
                    wIf t63 (
                      J4 t63 H) (
                      wGet (binA .eql t39 (.val (.int .i64 8))) H fun t64 H =>
                      J4 t64 H)))) fun t60 H =>
                wIf t60 (
                  wNewS 1 2 (fillA (List.replicate 2 [(.val (.pointer none))]).flatten [(0, 1, t29), (1, 1, t37)]) H fun t68 H =>
                  wGet (nilA t21) H fun t69 H =>
                  wGet (faddr 2 t69) H fun t70 H =>
                  wPut (store1 t70 t68 H) fun _u H =>
                  J2 H) (
                  wGet (faddr 3 t5) H fun t42 H =>
                  wGet (load1 t42 H) H fun t43 H =>
                  wGet (nilA t21) H fun t44 H =>
                  wGet (faddr 0 t44) H fun t45 H =>
                  wPut (store1 t45 (.val (.int .i64 1)) H) fun _u H =>
                  (wGet (load1 t42 H) H (fun y H2 => y = t43 ∧ H2 = H)) ∧
                  wGet (nilA t21) H fun t46 H =>
                  wGet (faddr 1 t46) H fun t47 H =>
                  wPut (store1 t47 t43 H) fun _u H =>
                  J2 H)))) fun H =>
        wNewS 1 1 (fillA (List.replicate 1 [(.val (.pointer none))]).flatten [(0, 1, t21)]) H fun t73 H =>
        wApp 1 8 t3 t73 H fun t74 H =>
        wGet (binA .add t14 (.val (.int .i64 1))) H fun t75 H =>
        I1 t74 t75 H) (
      wGet (lenA t3) H fun t78 H =>
      wGet (binA .sub t78 (.val (.int .i64 1))) H fun t79 H =>
      wGet (iaddr 1 t3 t79) H fun t80 H =>
      wGet (load1 t80 H) H fun t81 H =>
      R t81 H)

/-- signalbox/lasso.Holds -/
def lasso_Holds (E : Env) (P : Program) (a0 a1 : AV) (H : AH) (R : Kt) : Prop :=
  wNew 2 (AV.cells? a0) H fun t2 H =>
  wGet (loadN 2 t2 H) H fun t8 H =>
  wCall E P 31 [t8] H fun t9 H =>
  wBool (eqA .iface t9 (.val (.nilIface))) H true fun t11 H =>
  wIf t11 (
    R (.tup [(.val (.slice none 0 0)), t9]) H) (
    wCall E P 32 [a1] H fun t14 H =>
    wBool (eqA .iface t14 (.val (.nilIface))) H true fun t16 H =>
    wIf t16 (
      R (.tup [(.val (.slice none 0 0)), t14]) H) (
      wGet (loadN 2 t2 H) H fun t18 H =>
      wCall E P 33 [t18, a1] H fun t20 H =>
      R (.tup [t20, (.val (.nilIface))]) H))

/-- signalbox/signalboxkeep.lassoed -/
def keep_lassoed (E : Env) (P : Program) (H : AH) (R : Kt) : Prop :=
  wNewS 1 1 (fillA (List.replicate 1 [(.val (.string ⟨#[]⟩))]).flatten [(0, 1, (.val (.string ⟨#[97]⟩)))]) H fun t8 H =>
  wNewS 1 1 (fillA (List.replicate 1 [(.val (.slice none 0 0))]).flatten [(0, 1, t8)]) H fun t9 H =>
  wNewS 1 0 (fillA (List.replicate 0 [(.val (.string ⟨#[]⟩))]).flatten []) H fun t10 H =>
  wNewS 1 1 (fillA (List.replicate 1 [(.val (.string ⟨#[]⟩))]).flatten [(0, 1, (.val (.string ⟨#[98]⟩)))]) H fun t11 H =>
  wNewS 1 2 (fillA (List.replicate 2 [(.val (.slice none 0 0))]).flatten [(0, 1, t10), (1, 1, t11)]) H fun t12 H =>
  wAgg (fillA [(.val (.slice none 0 0)), (.val (.slice none 0 0))] [(0, 1, t9), (1, 1, t12)]) H fun t13 H =>
  wNew 2 (some [(.val (.slice none 0 0)), (.val (.slice none 0 0))]) H fun t1 H =>
  wPut (storeN 2 t1 t13 H) fun _u H =>
  wAgg (fillA [(.val (.int .i64 0)), (.val (.string ⟨#[]⟩)), (.val (.slice none 0 0))] [(0, 1, (.val (.int .i64 1))), (1, 1, (.val (.string ⟨#[98]⟩)))]) H fun t14 H =>
  wNew 3 (AV.cells? t14) H fun t15 H =>
  wNewS 1 1 (fillA (List.replicate 1 [(.val (.pointer none))]).flatten [(0, 1, t15)]) H fun t17 H =>
  wAgg (fillA [(.val (.int .i64 0)), (.val (.string ⟨#[]⟩)), (.val (.slice none 0 0))] [(0, 1, (.val (.int .i64 9))), (2, 1, t17)]) H fun t18 H =>
  wNew 3 (AV.cells? t18) H fun t19 H =>
  wNewS 1 1 (fillA (List.replicate 1 [(.val (.pointer none))]).flatten [(0, 1, t19)]) H fun t20 H =>
  wAgg (fillA [(.val (.int .i64 0)), (.val (.string ⟨#[]⟩)), (.val (.slice none 0 0))] [(0, 1, (.val (.int .i64 10))), (2, 1, t20)]) H fun t21 H =>
  wNew 3 (AV.cells? t21) H fun t22 H =>
  wGet (loadN 2 t1 H) H fun t24 H =>
  wCall E P 27 [t24, t22] H fun t26 H =>
  wGet (extractA t26 0) H fun t27 H =>
  wGet (extractA t26 1) H fun t28 H =>
  wGet (loadN 2 t1 H) H fun t30 H =>
  wCall E P 27 [t30, t15] H fun t32 H =>
  wGet (extractA t32 0) H fun t33 H =>
  wGet (extractA t32 1) H fun t34 H =>
  wBool (eqA .iface t28 (.val (.nilIface))) H false fun t36 H =>
  wGuard t36 true H (fun k => k t34 H) fun t38 H =>
  wGuard t36 true H (fun k => wBool (eqA .iface t38 (.val (.nilIface))) H false k) fun t39 H =>
  wGet (pickA t36 t39 (.val (.bool false))) H fun t40 H =>
  wGuard t40 true H (fun k => k t27 H) fun t42 H =>
  wGuard t40 true H (fun k => wNewS 1 3 (fillA (List.replicate 3 [(.val (.bool false))]).flatten [(0, 1, (.val (.bool true))), (1, 1, (.val (.bool true))), (2, 1, (.val (.bool true)))]) H k) fun t43 H =>
  wGuard t40 true H (fun k => wCall E P 34 [t42, t43] H k) fun t44 H =>
  wGet (pickA t40 t44 (.val (.bool false))) H fun t45 H =>
  wGuard t45 true H (fun k => k t33 H) fun t47 H =>
  wGuard t45 true H (fun k => wNewS 1 3 (fillA (List.replicate 3 [(.val (.bool false))]).flatten [(0, 1, (.val (.bool false))), (1, 1, (.val (.bool false))), (2, 1, (.val (.bool true)))]) H k) fun t48 H =>
  wGuard t45 true H (fun k => wCall E P 34 [t47, t48] H k) fun t49 H =>
  wGet (pickA t45 t49 (.val (.bool false))) H fun t50 H =>
  R t50 H

/-- signalbox/plain.At -/
def plain_At (E : Env) (P : Program) (a0 a1 : AV) (H : AH) (R : Kt) : Prop :=
  wGet (convA (.int .u64) a0) H fun t6 H =>
  wGet (convA (.int .u64) a1) H fun t8 H =>
  wGet (binA .rem t6 t8) H fun t9 H =>
  wGet (convA (.int .i64) t9) H fun t10 H =>
  R t10 H

/-- signalbox/lasso.Check -/
def lasso_Check (E : Env) (P : Program) (a0 : AV) (H : AH) (R : Kt) : Prop :=
  wNew 2 (AV.cells? a0) H fun t1 H =>
  wGet (faddr 1 t1) H fun t9 H =>
  wGet (load1 t9 H) H fun t10 H =>
  wGet (lenA t10) H fun t11 H =>
  wGet (binA .lss t11 (.val (.int .i64 1))) H fun t12 H =>
  wGuard t12 false H (fun k => wGet (faddr 0 t1) H k) fun t14 H =>
  wGuard t12 false H (fun k => wGet (load1 t14 H) H k) fun t15 H =>
  wGuard t12 false H (fun k => wGet (lenA t15) H k) fun t16 H =>
  wGuard t12 false H (fun k => wGet (faddr 1 t1) H k) fun t17 H =>
  wGuard t12 false H (fun k => wGet (load1 t17 H) H k) fun t18 H =>
  wGuard t12 false H (fun k => wGet (lenA t18) H k) fun t19 H =>
  wGuard t12 false H (fun k => wGet (binA .add t16 t19) H k) fun t20 H =>
  wGuard t12 false H (fun k => wGet (binA .gtr t20 (.val (.int .i64 60))) H k) fun t21 H =>
  wGet (pickA t12 (.val (.bool true)) t21) H fun t22 H =>
  wIf t22 (
    R (.ifc 1 (.val (.int .i64 4))) H) (
    wGet (faddr 0 t1) H fun t24 H =>
    wGet (load1 t24 H) H fun t25 H =>
    wGet (faddr 1 t1) H fun t26 H =>
    wGet (load1 t26 H) H fun t27 H =>
    wNewS 1 2 (fillA (List.replicate 2 [(.val (.slice none 0 0))]).flatten [(0, 1, t25), (1, 1, t27)]) H fun t28 H =>
    wGet (lenA t28) H fun t29 H =>
    wLoop 1 (fun I1 => I1 (.val (.int .i64 0)) H) fun I1 t30 H =>
      wGet (binA .lss t30 t29) H fun t31 H =>
      wIf t31 (
        wGet (iaddr 1 t28 t30) H fun t32 H =>
        wGet (load1 t32 H) H fun t33 H =>
        wGet (lenA t33) H fun t35 H =>
        wLoop 1 (fun I2 => I2 (.val (.int .i64 0)) H) fun I2 t36 H =>
          wGet (binA .lss t36 t35) H fun t37 H =>
          wIf t37 (
            wGet (iaddr 1 t33 t36) H fun t38 H =>
            wGet (load1 t38 H) H fun t39 H =>
            wGet (lenA t39) H fun t41 H =>
            wLoop 1 (fun I3 => I3 (.val (.int .i64 0)) H) fun I3 t42 H =>
              wGet (binA .lss t42 t41) H fun t43 H =>
              wIf t43 (
                wGet (iaddr 1 t39 t42) H fun t44 H =>
                wGet (load1 t44 H) H fun t45 H =>
                wCall E P 1 [t45] H fun t47 H =>
                wGet (unA .not t47) H fun t48 H =>
                wIf t48 (
                  R (.ifc 1 (.val (.int .i64 5))) H) (
                  wGet (binA .add t42 (.val (.int .i64 1))) H fun t50 H =>
                  I3 t50 H)) (
                wGet (binA .add t36 (.val (.int .i64 1))) H fun t51 H =>
                I2 t51 H)) (
            wGet (binA .add t30 (.val (.int .i64 1))) H fun t52 H =>
            I1 t52 H)) (
        R (.val (.nilIface)) H))

/-- signalbox/lasso.Right -/
def lasso_Right (E : Env) (P : Program) (a0 : AV) (H : AH) (R : Kt) : Prop :=
  wCall E P 35 [a0, (.val (.int .i64 20))] H fun t7 H =>
  wGet (extractA t7 0) H fun t8 H =>
  wGet (extractA t7 1) H fun t9 H =>
  wGet (binA .neq t9 (.val (.int .i64 0))) H fun t12 H =>
  wIf t12 (
    R (.ifc 1 t9) H) (
    wGet (binA .gtr t8 (.val (.int .i64 100))) H fun t17 H =>
    wIf t17 (
      R (.ifc 1 (.val (.int .i64 4))) H) (
      R (.val (.nilIface)) H))

/-- signalbox/lasso.holds -/
def lasso_holds (E : Env) (P : Program) (a0 a1 : AV) (H : AH) (R : Kt) : Prop :=
  wNew 2 (AV.cells? a0) H fun t2 H =>
  wGet (faddr 0 t2) H fun t22 H =>
  wGet (load1 t22 H) H fun t23 H =>
  wGet (lenA t23) H fun t24 H =>
  wGet (faddr 1 t2) H fun t25 H =>
  wGet (load1 t25 H) H fun t26 H =>
  wGet (lenA t26) H fun t27 H =>
  wGet (binA .add t24 t27) H fun t28 H =>
  wNew 1 (some [(.val (.int .i64 0))]) H fun t5 H =>
  wPut (store1 t5 t28 H) fun _u H =>
  wGet (load1 t5 H) H fun t29 H =>
  wMake 1 1 [(.val (.bool false))] t29 t29 H fun t30 H =>
  wNew 1 (some [(.val (.slice none 0 0))]) H fun t6 H =>
  wPut (store1 t6 t30 H) fun _u H =>
  wNew 1 (some [(.val (.nilFunc))]) H fun t7 H =>
  wPut (store1 t7 (.fn 36 [] [t5, t2]) H) fun _u H =>
  wNew 1 (some [(.val (.slice none 0 0))]) H fun t8 H =>
  wGet (nilA a1) H fun t33 H =>
  wGet (faddr 2 t33) H fun t34 H =>
  wGet (load1 t34 H) H fun t35 H =>
  wGet (lenA t35) H fun t36 H =>
  wLoop 1 (fun I1 => I1 (.val (.int .i64 0)) H) fun I1 t37 H =>
    wGet (binA .lss t37 t36) H fun t38 H =>
    wIf t38 (
      wGet (iaddr 1 t35 t37) H fun t39 H =>
      wGet (load1 t39 H) H fun t40 H =>
      wGet (load1 t8 H) H fun t41 H =>
      wGet (loadN 2 t2 H) H fun t42 H =>
      wCall E P 33 [t42, t40] H fun t44 H =>
      (wGet (load1 t8 H) H (fun y H2 => y = t41 ∧ H2 = H)) ∧
      wNewS 1 1 (fillA (List.replicate 1 [(.val (.slice none 0 0))]).flatten [(0, 1, t44)]) H fun t45 H =>
      (wGet (load1 t8 H) H (fun y H2 => y = t41 ∧ H2 = H)) ∧
      wApp 1 24 t41 t45 H fun t46 H =>
      wPut (store1 t8 t46 H) fun _u H =>
      wGet (binA .add t37 (.val (.int .i64 1))) H fun t47 H =>
      I1 t47 H) (
      wJoin 0 (fun J2 =>
        wGet (nilA a1) H fun t50 H =>
        wGet (faddr 0 t50) H fun t51 H =>
        wGet (load1 t51 H) H fun t52 H =>
        wGet (binA .eql t52 (.val (.int .i64 1))) H fun t54 H =>
        wIf t54 (
          wGet (load1 t6 H) H fun t55 H =>
          wGet (lenA t55) H fun t56 H =>
          wLoop 1 (fun I3 => I3 (.val (.int .i64 0)) H) fun I3 t57 H =>
            wGet (binA .lss t57 t56) H fun t58 H =>
            wIf t58 (
              wGet (faddr 1 t2) H fun t60 H =>
              wGet (load1 t60 H) H fun t61 H =>
              wGet (faddr 0 t2) H fun t63 H =>
              wGet (load1 t63 H) H fun t64 H =>
              wGet (lenA t64) H fun t65 H =>
              wGet (binA .sub t57 t65) H fun t66 H =>
              wJoin 2 (fun J4 =>
                wGet (binA .lss t66 (.val (.int .i64 0))) H fun t68 H =>
                wIf t68 (
                  wGet (faddr 0 t2) H fun t69 H =>
                  wGet (load1 t69 H) H fun t70 H =>
                  J4 t70 t57 H) (
                  J4 t61 t66 H)) fun t13 t14 H =>
                wGet (iaddr 1 t13 t14) H fun t74 H =>
                wGet (load1 t74 H) H fun t75 H =>
                wGet (lenA t75) H fun t76 H =>
                wLoop 1 (fun I5 => I5 (.val (.int .i64 0)) H) fun I5 t77 H =>
                  wGet (binA .lss t77 t76) H fun t78 H =>
                  wIf t78 (
                    wGet (iaddr 1 t75 t77) H fun t79 H =>
                    wGet (load1 t79 H) H fun t80 H =>
                    wGet (load1 t6 H) H fun t81 H =>
                    wGet (load1 t6 H) H fun t83 H =>
                    wGet (iaddr 1 t83 t57) H fun t85 H =>
                    wGet (load1 t85 H) H fun t86 H =>
                    wGuard t86 false H (fun k => k t80 H) fun t88 H =>
                    wGuard t86 false H (fun k => k a1 H) fun t89 H =>
                    wGuard t86 false H (fun k => wGet (nilA t89) H k) fun t90 H =>
                    wGuard t86 false H (fun k => wGet (faddr 1 t90) H k) fun t91 H =>
                    wGuard t86 false H (fun k => wGet (load1 t91 H) H k) fun t92 H =>
                    wGuard t86 false H (fun k => wGet (binA .eql t88 t92) H k) fun t93 H =>
                    wGet (pickA t86 (.val (.bool true)) t93) H fun t94 H =>
                    wGet (iaddr 1 t81 t57) H fun t95 H =>
                    wPut (store1 t95 t94 H) fun _u H =>
                    wGet (binA .add t77 (.val (.int .i64 1))) H fun t96 H =>
                    I5 t96 H) (
                    wGet (binA .add t57 (.val (.int .i64 1))) H fun t97 H =>
                    I3 t97 H)) (
              J2 H)) (
          wGet (binA .eql t52 (.val (.int .i64 2))) H fun t99 H =>
          wIf t99 (
            wGet (load1 t6 H) H fun t100 H =>
            wGet (lenA t100) H fun t101 H =>
            wLoop 1 (fun I6 => I6 (.val (.int .i64 0)) H) fun I6 t102 H =>
              wGet (binA .lss t102 t101) H fun t103 H =>
              wIf t103 (
                wGet (load1 t6 H) H fun t105 H =>
                wGet (iaddr 1 t105 t102) H fun t107 H =>
                wPut (store1 t107 (.val (.bool true)) H) fun _u H =>
                wGet (binA .add t102 (.val (.int .i64 1))) H fun t108 H =>
                I6 t108 H) (
                J2 H)) (
            wGet (binA .eql t52 (.val (.int .i64 3))) H fun t110 H =>
            wIf t110 (
              wGet (load1 t6 H) H fun t111 H =>
              wGet (lenA t111) H fun t112 H =>
              wLoop 1 (fun I7 => I7 (.val (.int .i64 0)) H) fun I7 t113 H =>
                wGet (binA .lss t113 t112) H fun t114 H =>
                wIf t114 (
                  wGet (load1 t6 H) H fun t116 H =>
                  wGet (load1 t8 H) H fun t118 H =>
                  wGet (iaddr 1 t118 (.val (.int .i64 0))) H fun t119 H =>
                  wGet (load1 t119 H) H fun t120 H =>
                  wGet (iaddr 1 t120 t113) H fun t122 H =>
                  wGet (load1 t122 H) H fun t123 H =>
                  wGet (unA .not t123) H fun t124 H =>
                  wGet (iaddr 1 t116 t113) H fun t125 H =>
                  wPut (store1 t125 t124 H) fun _u H =>
                  wGet (binA .add t113 (.val (.int .i64 1))) H fun t126 H =>
                  I7 t126 H) (
                  J2 H)) (
              wGet (binA .eql t52 (.val (.int .i64 4))) H fun t128 H =>
              wIf t128 (
                wGet (load1 t6 H) H fun t129 H =>
                wGet (lenA t129) H fun t130 H =>
                wLoop 1 (fun I8 => I8 (.val (.int .i64 0)) H) fun I8 t131 H =>
                  wGet (binA .lss t131 t130) H fun t132 H =>
                  wIf t132 (
                    wGet (load1 t6 H) H fun t134 H =>
                    wGet (load1 t8 H) H fun t136 H =>
                    wGet (iaddr 1 t136 (.val (.int .i64 0))) H fun t137 H =>
                    wGet (load1 t137 H) H fun t138 H =>
                    wGet (iaddr 1 t138 t131) H fun t140 H =>
                    wGet (load1 t140 H) H fun t141 H =>
                    wGuard t141 true H (fun k => wGet (load1 t8 H) H k) fun t143 H =>
                    wGuard t141 true H (fun k => wGet (iaddr 1 t143 (.val (.int .i64 1))) H k) fun t144 H =>
                    wGuard t141 true H (fun k => wGet (load1 t144 H) H k) fun t145 H =>
                    wGuard t141 true H (fun k => k t131 H) fun t146 H =>
                    wGuard t141 true H (fun k => wGet (iaddr 1 t145 t146) H k) fun t147 H =>
                    wGuard t141 true H (fun k => wGet (load1 t147 H) H k) fun t148 H =>
                    wGet (pickA t141 t148 (.val (.bool false))) H fun t149 H =>
                    wGet (iaddr 1 t134 t131) H fun t150 H =>
                    wPut (store1 t150 t149 H) fun _u H =>
                    wGet (binA .add t131 (.val (.int .i64 1))) H fun t151 H =>
                    I8 t151 H) (
                    J2 H)) (
                wGet (binA .eql t52 (.val (.int .i64 5))) H fun t153 H =>
                wIf t153 (
                  wGet (load1 t6 H) H fun t154 H =>
                  wGet (lenA t154) H fun t155 H =>
                  wLoop 1 (fun I9 => I9 (.val (.int .i64 0)) H) fun I9 t156 H =>
                    wGet (binA .lss t156 t155) H fun t157 H =>
                    wIf t157 (
                      wGet (load1 t6 H) H fun t159 H =>
                      wGet (load1 t8 H) H fun t161 H =>
                      wGet (iaddr 1 t161 (.val (.int .i64 0))) H fun t162 H =>
                      wGet (load1 t162 H) H fun t163 H =>
                      wGet (iaddr 1 t163 t156) H fun t165 H =>
                      wGet (load1 t165 H) H fun t166 H =>
                      wGuard t166 false H (fun k => wGet (load1 t8 H) H k) fun t168 H =>
                      wGuard t166 false H (fun k => wGet (iaddr 1 t168 (.val (.int .i64 1))) H k) fun t169 H =>
                      wGuard t166 false H (fun k => wGet (load1 t169 H) H k) fun t170 H =>
                      wGuard t166 false H (fun k => k t156 H) fun t171 H =>
                      wGuard t166 false H (fun k => wGet (iaddr 1 t170 t171) H k) fun t172 H =>
                      wGuard t166 false H (fun k => wGet (load1 t172 H) H k) fun t173 H =>
                      wGet (pickA t166 (.val (.bool true)) t173) H fun t174 H =>
                      wGet (iaddr 1 t159 t156) H fun t175 H =>
                      wPut (store1 t175 t174 H) fun _u H =>
                      wGet (binA .add t156 (.val (.int .i64 1))) H fun t176 H =>
                      I9 t176 H) (
                      J2 H)) (
                  wGet (binA .eql t52 (.val (.int .i64 6))) H fun t178 H =>
                  wIf t178 (
                    wGet (load1 t6 H) H fun t179 H =>
                    wGet (lenA t179) H fun t180 H =>
                    wLoop 1 (fun I10 => I10 (.val (.int .i64 0)) H) fun I10 t181 H =>
                      wGet (binA .lss t181 t180) H fun t182 H =>
                      wIf t182 (
                        wGet (load1 t6 H) H fun t184 H =>
                        wGet (load1 t8 H) H fun t186 H =>
                        wGet (iaddr 1 t186 (.val (.int .i64 0))) H fun t187 H =>
                        wGet (load1 t187 H) H fun t188 H =>
                        wGet (load1 t7 H) H fun t189 H =>
                        wCallV E P t189 [t181] H fun t191 H =>
                        (wGet (load1 t6 H) H (fun y H2 => y = t184 ∧ H2 = H)) ∧
                        (wGet (load1 t8 H) H (fun y H2 => y = t186 ∧ H2 = H)) ∧
                        (wGet (load1 t187 H) H (fun y H2 => y = t188 ∧ H2 = H)) ∧
                        wGet (iaddr 1 t188 t191) H fun t192 H =>
                        wGet (load1 t192 H) H fun t193 H =>
                        wGet (iaddr 1 t184 t181) H fun t194 H =>
                        wPut (store1 t194 t193 H) fun _u H =>
                        wGet (binA .add t181 (.val (.int .i64 1))) H fun t195 H =>
                        I10 t195 H) (
                        J2 H)) (
                    wGet (binA .eql t52 (.val (.int .i64 7))) H fun t197 H =>
                    wIf t197 (
                      wCallV E P (.fn 37 [] [t6, t5, t7]) [(.val (.bool false)), (.fn 38 [] [t8])] H fun t200 H =>
                      J2 H) (
                      wGet (binA .eql t52 (.val (.int .i64 8))) H fun t202 H =>
                      wIf t202 (
                        wCallV E P (.fn 37 [] [t6, t5, t7]) [(.val (.bool true)), (.fn 39 [] [t8])] H fun t205 H =>
                        J2 H) (
                        wGet (binA .eql t52 (.val (.int .i64 9))) H fun t207 H =>
                        wIf t207 (
                          wCallV E P (.fn 37 [] [t6, t5, t7]) [(.val (.bool false)), (.fn 40 [] [t8])] H fun t210 H =>
                          J2 H) (
                          wGet (binA .eql t52 (.val (.int .i64 10))) H fun t212 H =>
                          wIf t212 (
                            wCallV E P (.fn 37 [] [t6, t5, t7]) [(.val (.bool true)), (.fn 41 [] [t8])] H fun t215 H =>
                            J2 H) (
                            J2 H))))))))))) fun H =>
        wGet (load1 t6 H) H fun t216 H =>
        R t216 H)

/-- signalbox/signalboxkeep.sameBools -/
def keep_sameBools (E : Env) (P : Program) (a0 a1 : AV) (H : AH) (R : Kt) : Prop :=
  wGet (lenA a0) H fun t7 H =>
  wGet (lenA a1) H fun t9 H =>
  wGet (binA .neq t7 t9) H fun t10 H =>
  wIf t10 (
    R (.val (.bool false)) H) (
    wLoop 1 (fun I1 => I1 (.val (.int .i64 0)) H) fun I1 t5 H =>
      wGet (lenA a0) H fun t13 H =>
      wGet (binA .lss t5 t13) H fun t14 H =>
      wIf t14 (
        wGet (iaddr 1 a0 t5) H fun t19 H =>
        wGet (load1 t19 H) H fun t20 H =>
        wGet (iaddr 1 a1 t5) H fun t23 H =>
        wGet (load1 t23 H) H fun t24 H =>
        wBool (eqA .bool t20 t24) H true fun t25 H =>
        wIf t25 (
          R (.val (.bool false)) H) (
          wGet (binA .add t5 (.val (.int .i64 1))) H fun t16 H =>
          I1 t16 H)) (
        R (.val (.bool true)) H))

/-- signalbox/lasso.right -/
def lasso_right (E : Env) (P : Program) (a0 a1 : AV) (H : AH) (R : Kt) : Prop :=
  wBool (eqA .ptr a0 (.val (.pointer none))) H false fun t13 H =>
  wIf t13 (
    R (.tup [(.val (.int .i64 0)), (.val (.int .i64 7))]) H) (
    wGet (binA .eql a1 (.val (.int .i64 0))) H fun t16 H =>
    wIf t16 (
      R (.tup [(.val (.int .i64 0)), (.val (.int .i64 4))]) H) (
      wGet (nilA a0) H fun t19 H =>
      wGet (faddr 0 t19) H fun t20 H =>
      wGet (load1 t20 H) H fun t21 H =>
      wGet (binA .lss t21 (.val (.int .i64 1))) H fun t22 H =>
      wGuard t22 false H (fun k => k a0 H) fun t24 H =>
      wGuard t22 false H (fun k => wGet (nilA t24) H k) fun t25 H =>
      wGuard t22 false H (fun k => wGet (faddr 0 t25) H k) fun t26 H =>
      wGuard t22 false H (fun k => wGet (load1 t26 H) H k) fun t27 H =>
      wGuard t22 false H (fun k => wGet (binA .gtr t27 (.val (.int .i64 10))) H k) fun t28 H =>
      wGet (pickA t22 (.val (.bool true)) t28) H fun t29 H =>
      wGuard t29 false H (fun k => k a0 H) fun t31 H =>
      wGuard t29 false H (fun k => wGet (nilA t31) H k) fun t32 H =>
      wGuard t29 false H (fun k => wGet (faddr 2 t32) H k) fun t33 H =>
      wGuard t29 false H (fun k => wGet (load1 t33 H) H k) fun t34 H =>
      wGuard t29 false H (fun k => wGet (lenA t34) H k) fun t35 H =>
      wGuard t29 false H (fun k => k a0 H) fun t36 H =>
      wGuard t29 false H (fun k => wGet (nilA t36) H k) fun t37 H =>
      wGuard t29 false H (fun k => wGet (faddr 0 t37) H k) fun t38 H =>
      wGuard t29 false H (fun k => wGet (load1 t38 H) H k) fun t39 H =>
      wGuard t29 false H (fun k => wGet (iaddrArr 1 11 (gptr E 3) t39) H k) fun t40 H =>
      wGuard t29 false H (fun k => wGet (load1 t40 H) H k) fun t41 H =>
      wGuard t29 false H (fun k => wGet (binA .neq t35 t41) H k) fun t42 H =>
      wGet (pickA t29 (.val (.bool true)) t42) H fun t43 H =>
      wGuard t43 false H (fun k => k a0 H) fun t45 H =>
      wGuard t43 false H (fun k => wGet (nilA t45) H k) fun t46 H =>
      wGuard t43 false H (fun k => wGet (faddr 0 t46) H k) fun t47 H =>
      wGuard t43 false H (fun k => wGet (load1 t47 H) H k) fun t48 H =>
      wGuard t43 false H (fun k => wGet (binA .neq t48 (.val (.int .i64 1))) H k) fun t49 H =>
      wGuard t43 false H (fun k => k t49 H) fun t50 H =>
      wGuard t50 true H (fun k => k a0 H) fun t51 H =>
      wGuard t50 true H (fun k => wGet (nilA t51) H k) fun t52 H =>
      wGuard t50 true H (fun k => wGet (faddr 1 t52) H k) fun t53 H =>
      wGuard t50 true H (fun k => wGet (load1 t53 H) H k) fun t54 H =>
      wGuard t50 true H (fun k => wGet (binA .neq t54 (.val (.string ⟨#[]⟩))) H k) fun t55 H =>
      wGuard t43 false H (fun k => wGet (pickA t50 t55 (.val (.bool false))) H k) fun t56 H =>
      wGet (pickA t43 (.val (.bool true)) t56) H fun t57 H =>
      wIf t57 (
        R (.tup [(.val (.int .i64 0)), (.val (.int .i64 1))]) H) (
        wGet (nilA a0) H fun t60 H =>
        wGet (faddr 0 t60) H fun t61 H =>
        wGet (load1 t61 H) H fun t62 H =>
        wGet (binA .eql t62 (.val (.int .i64 1))) H fun t63 H =>
        wGuard t63 true H (fun k => k a0 H) fun t65 H =>
        wGuard t63 true H (fun k => wGet (nilA t65) H k) fun t66 H =>
        wGuard t63 true H (fun k => wGet (faddr 1 t66) H k) fun t67 H =>
        wGuard t63 true H (fun k => wGet (load1 t67 H) H k) fun t68 H =>
        wGuard t63 true H (fun k => wCall E P 1 [t68] H k) fun t69 H =>
        wGuard t63 true H (fun k => wGet (unA .not t69) H k) fun t70 H =>
        wGet (pickA t63 t70 (.val (.bool false))) H fun t71 H =>
        wIf t71 (
          R (.tup [(.val (.int .i64 0)), (.val (.int .i64 5))]) H) (
          wGet (nilA a0) H fun t73 H =>
          wGet (faddr 2 t73) H fun t74 H =>
          wGet (load1 t74 H) H fun t75 H =>
          wGet (lenA t75) H fun t76 H =>
          wLoop 2 (fun I1 => I1 (.val (.int .i64 1)) (.val (.int .i64 0)) H) fun I1 t6 t77 H =>
            wGet (binA .lss t77 t76) H fun t78 H =>
            wIf t78 (
              wGet (iaddr 1 t75 t77) H fun t79 H =>
              wGet (load1 t79 H) H fun t80 H =>
              wGet (binA .sub a1 (.val (.int .i64 1))) H fun t84 H =>
              wCall E P 35 [t80, t84] H fun t85 H =>
              wGet (extractA t85 0) H fun t86 H =>
              wGet (extractA t85 1) H fun t87 H =>
              wGet (binA .neq t87 (.val (.int .i64 0))) H fun t89 H =>
              wIf t89 (
                R (.tup [(.val (.int .i64 0)), t87]) H) (
                wGet (binA .add t6 t86) H fun t93 H =>
                wGet (binA .add t77 (.val (.int .i64 1))) H fun t94 H =>
                I1 t93 t94 H)) (
              R (.tup [t6, (.val (.int .i64 0))]) H)))))

/-- signalbox/lasso.holds$1 -/
def lasso_holds_c1 (E : Env) (P : Program) (a0 a1 a2 : AV) (H : AH) (R : Kt) : Prop :=
  wGet (binA .add a0 (.val (.int .i64 1))) H fun t6 H =>
  wGet (load1 a1 H) H fun t7 H =>
  wGet (binA .eql t6 t7) H fun t8 H =>
  wIf t8 (
    wGet (faddr 0 a2) H fun t9 H =>
    wGet (load1 t9 H) H fun t10 H =>
    wGet (lenA t10) H fun t11 H =>
    R t11 H) (
    wGet (binA .add a0 (.val (.int .i64 1))) H fun t13 H =>
    R t13 H)

/-- signalbox/lasso.holds$2 -/
def lasso_holds_c2 (E : Env) (P : Program) (a0 a1 a2 a3 a4 : AV) (H : AH) (R : Kt) : Prop :=
  wGet (load1 a2 H) H fun t11 H =>
  wGet (lenA t11) H fun t12 H =>
  wLoop 1 (fun I1 => I1 (.val (.int .i64 0)) H) fun I1 t13 H =>
    wGet (binA .lss t13 t12) H fun t14 H =>
    wIf t14 (
      wGet (load1 a2 H) H fun t16 H =>
      wGet (iaddr 1 t16 t13) H fun t19 H =>
      wPut (store1 t19 a0 H) fun _u H =>
      wGet (binA .add t13 (.val (.int .i64 1))) H fun t20 H =>
      I1 t20 H) (
      wLoop 1 (fun I2 => I2 (.val (.bool true)) H) fun I2 t8 H =>
        wIf t8 (
          wGet (load1 a3 H) H fun t22 H =>
          wGet (binA .sub t22 (.val (.int .i64 1))) H fun t23 H =>
          wLoop 2 (fun I3 => I3 (.val (.bool false)) t23 H) fun I3 t8_1 t9 H =>
            wGet (binA .geq t9 (.val (.int .i64 0))) H fun t25 H =>
            wIf t25 (
              wJoin 1 (fun J4 =>
                wGet (load1 a2 H) H fun t30 H =>
                wGet (load1 a4 H) H fun t31 H =>
                wCallV E P t31 [t9] H fun t33 H =>
                (wGet (load1 a2 H) H (fun y H2 => y = t30 ∧ H2 = H)) ∧
                wGet (iaddr 1 t30 t33) H fun t34 H =>
                wGet (load1 t34 H) H fun t35 H =>
                wCallV E P a1 [t9, t35] H fun t36 H =>
                wGet (load1 a2 H) H fun t38 H =>
                wGet (iaddr 1 t38 t9) H fun t40 H =>
                wGet (load1 t40 H) H fun t41 H =>
                wBool (eqA .bool t36 t41) H true fun t42 H =>
                wIf t42 (
                  wGet (load1 a2 H) H fun t43 H =>
                  wGet (iaddr 1 t43 t9) H fun t46 H =>
                  wPut (store1 t46 t36 H) fun _u H =>
                  J4 (.val (.bool true)) H) (
                  J4 t8_1 H)) fun t8_2 H =>
                wGet (binA .sub t9 (.val (.int .i64 1))) H fun t27 H =>
                I3 t8_2 t27 H) (
              I2 t8_1 H)) (
          R (.tup []) H))

/-- signalbox/lasso.holds$3 -/
def lasso_holds_c3 (E : Env) (P : Program) (a0 a1 a2 : AV) (H : AH) (R : Kt) : Prop :=
  wGet (load1 a2 H) H fun t6 H =>
  wGet (iaddr 1 t6 (.val (.int .i64 1))) H fun t7 H =>
  wGet (load1 t7 H) H fun t8 H =>
  wGet (iaddr 1 t8 a0) H fun t10 H =>
  wGet (load1 t10 H) H fun t11 H =>
  wGuard t11 false H (fun k => wGet (load1 a2 H) H k) fun t13 H =>
  wGuard t11 false H (fun k => wGet (iaddr 1 t13 (.val (.int .i64 0))) H k) fun t14 H =>
  wGuard t11 false H (fun k => wGet (load1 t14 H) H k) fun t15 H =>
  wGuard t11 false H (fun k => k a0 H) fun t16 H =>
  wGuard t11 false H (fun k => wGet (iaddr 1 t15 t16) H k) fun t17 H =>
  wGuard t11 false H (fun k => wGet (load1 t17 H) H k) fun t18 H =>
  wGuard t11 false H (fun k => k t18 H) fun t19 H =>
  wGuard t19 true H (fun k => k a1 H) fun t20 H =>
  wGuard t11 false H (fun k => wGet (pickA t19 t20 (.val (.bool false))) H k) fun t21 H =>
  wGet (pickA t11 (.val (.bool true)) t21) H fun t22 H =>
  R t22 H

/-- signalbox/lasso.holds$4 -/
def lasso_holds_c4 (E : Env) (P : Program) (a0 a1 a2 : AV) (H : AH) (R : Kt) : Prop :=
  wGet (load1 a2 H) H fun t6 H =>
  wGet (iaddr 1 t6 (.val (.int .i64 1))) H fun t7 H =>
  wGet (load1 t7 H) H fun t8 H =>
  wGet (iaddr 1 t8 a0) H fun t10 H =>
  wGet (load1 t10 H) H fun t11 H =>
  wGuard t11 true H (fun k => wGet (load1 a2 H) H k) fun t13 H =>
  wGuard t11 true H (fun k => wGet (iaddr 1 t13 (.val (.int .i64 0))) H k) fun t14 H =>
  wGuard t11 true H (fun k => wGet (load1 t14 H) H k) fun t15 H =>
  wGuard t11 true H (fun k => k a0 H) fun t16 H =>
  wGuard t11 true H (fun k => wGet (iaddr 1 t15 t16) H k) fun t17 H =>
  wGuard t11 true H (fun k => wGet (load1 t17 H) H k) fun t18 H =>
  wGuard t11 true H (fun k => k t18 H) fun t19 H =>
  wGuard t19 false H (fun k => k a1 H) fun t20 H =>
  wGuard t11 true H (fun k => wGet (pickA t19 (.val (.bool true)) t20) H k) fun t21 H =>
  wGet (pickA t11 t21 (.val (.bool false))) H fun t22 H =>
  R t22 H

/-- signalbox/lasso.holds$5 -/
def lasso_holds_c5 (E : Env) (P : Program) (a0 a1 a2 : AV) (H : AH) (R : Kt) : Prop :=
  wGet (load1 a2 H) H fun t6 H =>
  wGet (iaddr 1 t6 (.val (.int .i64 0))) H fun t7 H =>
  wGet (load1 t7 H) H fun t8 H =>
  wGet (iaddr 1 t8 a0) H fun t10 H =>
  wGet (load1 t10 H) H fun t11 H =>
  wGuard t11 false H (fun k => k a1 H) fun t13 H =>
  wGet (pickA t11 (.val (.bool true)) t13) H fun t14 H =>
  R t14 H

/-- signalbox/lasso.holds$6 -/
def lasso_holds_c6 (E : Env) (P : Program) (a0 a1 a2 : AV) (H : AH) (R : Kt) : Prop :=
  wGet (load1 a2 H) H fun t6 H =>
  wGet (iaddr 1 t6 (.val (.int .i64 0))) H fun t7 H =>
  wGet (load1 t7 H) H fun t8 H =>
  wGet (iaddr 1 t8 a0) H fun t10 H =>
  wGet (load1 t10 H) H fun t11 H =>
  wGuard t11 true H (fun k => k a1 H) fun t13 H =>
  wGet (pickA t11 t13 (.val (.bool false))) H fun t14 H =>
  R t14 H

end Go.Sc.F
namespace Go.Sc
open Go
set_option linter.unusedSimpArgs false
set_option linter.unusedVariables false

/-- a formula: none, or a kind, a name and parts -/
inductive Fm where
  | nil
  | mk (k : Int) (s : Str) (of : List Fm)
mutual
def Fm.enc : Fm → AV
  | .nil => nilP
  | .mk k s of => .ptrF [Z k, S s, .slN (Fm.encL of) of.length] 0
def Fm.encL : List Fm → List AV
  | [] => []
  | f :: l => f.enc :: Fm.encL l
end
theorem Fm.encL_map : ∀ l : List Fm, Fm.encL l = l.map Fm.enc
  | [] => by simp [Fm.encL]
  | f :: l => by simp [Fm.encL, Fm.encL_map l]
theorem Fm.enc_mk (k : Int) (s : Str) (of : List Fm) : (Fm.mk k s of).enc = .ptrF [Z k, S s, Lm Fm.enc of] 0 := by simp [Fm.enc, Fm.encL_map]
mutual
theorem Fm.closed : ∀ f : Fm, f.enc.closed
  | .nil => by simp [Fm.enc, AV.closed]
  | .mk k s of => by
    simp only [Fm.enc, AV.closed, AV.closedL, true_and, and_true]
    exact Fm.closedL of
theorem Fm.closedL : ∀ l : List Fm, AV.closedL (Fm.encL l)
  | [] => by simp [Fm.encL, AV.closedL]
  | f :: l => by
    simp only [Fm.encL, AV.closedL]
    exact ⟨Fm.closed f, Fm.closedL l⟩
end
theorem Fm.scalar (f : Fm) : f.enc.scalar = true := by cases f <;> simp [Fm.enc, AV.scalar]

/-- how many parts kinds have -/
def arity (k : Int) : Int := ([-1, 0, 0, 1, 2, 2, 1, 2, 2, 1, 1] : List Int).getD k.toNat 0
def arityL : List AV := [.val (.int .i64 (-1)), .val (.int .i64 0), .val (.int .i64 0), .val (.int .i64 1), .val (.int .i64 2), .val (.int .i64 2), .val (.int .i64 1), .val (.int .i64 2), .val (.int .i64 2), .val (.int .i64 1), .val (.int .i64 1)]
theorem arity_at {k : Int} (h1 : 1 ≤ k) (h2 : k ≤ 10) : arityL[k.toNat]? = some (Z (arity k)) := by
  have : k = 1 ∨ k = 2 ∨ k = 3 ∨ k = 4 ∨ k = 5 ∨ k = 6 ∨ k = 7 ∨ k = 8 ∨ k = 9 ∨ k = 10 := by omega
  rcases this with rfl | rfl | rfl | rfl | rfl | rfl | rfl | rfl | rfl | rfl <;> rfl
theorem arity_le {k : Int} (h1 : 1 ≤ k) (h2 : k ≤ 10) : 0 ≤ arity k ∧ arity k ≤ 2 := by
  have : k = 1 ∨ k = 2 ∨ k = 3 ∨ k = 4 ∨ k = 5 ∨ k = 6 ∨ k = 7 ∨ k = 8 ∨ k = 9 ∨ k = 10 := by omega
  rcases this with rfl | rfl | rfl | rfl | rfl | rfl | rfl | rfl | rfl | rfl <;> decide

/-- which formulas may be: how many parts, and the error -/
def rightL (r : Fm → Int × Int) : List Fm → Int → Int × Int
  | [], n => (n, 0)
  | x :: l, n => if (r x).2 = 0 then rightL r l (n + (r x).1) else (0, (r x).2)
def badKind (k : Int) (s : Str) (of : List Fm) : Bool := decide (k < 1) || decide (10 < k) || !decide ((of.length : Int) = arity k) || (!decide (k = 1) && !decide (s = []))
def rightF : Nat → Fm → Int × Int
  | _, .nil => (0, 7)
  | 0, .mk _ _ _ => (0, 4)
  | d + 1, .mk k s of => if badKind k s of then (0, 1) else if decide (k = 1) && !nameOk s then (0, 5) else rightL (rightF d) of 1

theorem rightL_bound {r : Fm → Int × Int} {M : Int} (h : ∀ x, 0 ≤ (r x).1 ∧ (r x).1 ≤ M) : ∀ (l : List Fm) (n : Int), 0 ≤ n → 0 ≤ M → 0 ≤ (rightL r l n).1 ∧ (rightL r l n).1 ≤ n + l.length * M
  | [], n, hn, _ => by simp [rightL, hn]
  | x :: l, n, hn, hM => by
    unfold rightL
    split
    · obtain ⟨h1, h2⟩ := h x
      obtain ⟨h3, h4⟩ := rightL_bound h l (n + (r x).1) (by omega) hM
      refine ⟨h3, ?_⟩
      have e : ((x :: l).length : Int) * M = l.length * M + M := by
        rw [List.length_cons, Int.natCast_add, Int.add_mul]; simp
      omega
    · refine ⟨by simp, ?_⟩
      have := Int.mul_nonneg (Int.natCast_nonneg (x :: l).length) hM
      simp only
      omega
theorem rightF_bound : ∀ (d : Nat) (f : Fm), 0 ≤ (rightF d f).1 ∧ (rightF d f).1 ≤ 2 ^ d - 1
  | d, .nil => by
    have : (0 : Int) < 2 ^ d := Int.pow_pos (by decide)
    cases d <;> simp [rightF] <;> omega
  | 0, .mk k s of => by simp [rightF]
  | d + 1, .mk k s of => by
    have hp : (0 : Int) < 2 ^ d := Int.pow_pos (by decide)
    have hq : (2 : Int) ^ (d + 1) = 2 ^ d * 2 := Int.pow_succ ..
    unfold rightF
    split
    · simp; omega
    · split
      · simp; omega
      · rename_i hb _
        obtain ⟨h1, h2⟩ := rightL_bound (M := 2 ^ d - 1) (rightF_bound d) of 1 (by omega) (by omega)
        refine ⟨h1, ?_⟩
        have hl : (of.length : Int) ≤ 2 := by
          simp only [badKind, Bool.or_eq_true, decide_eq_true_eq, Bool.not_eq_true', decide_eq_false_iff_not, not_or, Bool.and_eq_true] at hb
          have := arity_le (k := k) (by omega) (by omega)
          omega
        have : (of.length : Int) * (2 ^ d - 1) ≤ 2 * (2 ^ d - 1) := Int.mul_le_mul_of_nonneg_right hl (by omega)
        omega

section
variable {E : Env} {P : Program}
structure RightBodies (E : Env) (P : Program) : Prop where
  n : NameBodies E P
  ar : E.gl 3 = some arityL
  right : Body2 E P 35 F.lasso_right
  right1 : Body1 E P 32 F.lasso_Right
structure LassoBodies (E : Env) (P : Program) : Prop extends RightBodies E P where
  at_ : Body2 E P 30 F.plain_At
  formula : Body1 E P 26 F.plain_Formula
  check : Body1 E P 31 F.lasso_Check
theorem gptr_arity (B : RightBodies E P) : gptr E 3 = .ptrF arityL 0 := by simp [gptr, B.ar]

theorem right_spec (B : RightBodies E P) : ∀ (d : Nat), d ≤ 20 → ∀ f : Fm, FX E P 35 [f.enc, Z d] (.tup [Z (rightF d f).1, Z (rightF d f).2]) := by
  intro d
  induction d with
  | zero =>
    intro hd f
    refine FX.of' (by simp [AV.closedL, AV.closed, Fm.closed]) (by simp [AV.closed, AV.closedL]) fun n R hR => B.right _ _ _ _ ?_
    unfold F.lasso_right
    cases f with
    | nil =>
      simp only [Fm.enc]
      simp only [nd0, Y1n, Y1o, Y1p, Y1q, Y1w, Y1x, Y1y, Y1z, Y20, Y21, Y28, Y2a, AV.cells?, Nat.reduceAdd, Nat.reduceMul]
      exact hR _ _ (by simp [rightF])
    | mk k s of =>
      rw [Fm.enc_mk]
      simp only [nd0, Y1n, Y1o, Y1p, Y1q, Y1w, Y1x, Y1y, Y1z, Y20, Y21, Y28, Y2a, AV.cells?, Nat.reduceAdd, Nat.reduceMul, show ((0 : Nat) : Int) = 0 from rfl]
      exact hR _ _ (by simp [rightF])
  | succ d ih =>
    intro hd f
    refine FX.of' (by simp [AV.closedL, AV.closed, Fm.closed]) (by simp [AV.closed, AV.closedL]) fun n R hR => B.right _ _ _ _ ?_
    unfold F.lasso_right
    cases f with
    | nil =>
      simp only [Fm.enc]
      simp only [nd0, Y1n, Y1o, Y1p, Y1q, Y1w, Y1x, Y1y, Y1z, Y20, Y21, Y28, Y2a, AV.cells?, Nat.reduceAdd, Nat.reduceMul]
      exact hR _ _ (by simp [rightF])
    | mk k s of =>
      rw [Fm.enc_mk]
      have hne : ¬ (((d + 1 : Nat) : Int) = 0) := by omega
      simp only [nd0, Y1n, Y1o, Y1p, Y1q, Y1w, Y1x, Y1y, Y1z, Y20, Y21, Y28, Y2a, AV.cells?, Nat.reduceAdd, Nat.reduceMul, hne, gptr_arity B, show (AV.val (.string ⟨#[]⟩)) = S [] from rfl]
      have out : ∀ H, badKind k s of = true → R (.tup [Z 0, Z 1]) H := fun H h => hR _ _ (by simp [rightF, h])
      by_cases h1 : k < 1
      case pos =>
        simp only [nd0, Y1n, Y1o, Y1p, Y1q, Y1w, Y1x, Y1y, Y1z, Y20, Y21, Y28, Y2a, AV.cells?, Nat.reduceAdd, Nat.reduceMul, h1]
        exact out _ (by simp [badKind, h1])
      simp only [nd0, Y1n, Y1o, Y1p, Y1q, Y1w, Y1x, Y1y, Y1z, Y20, Y21, Y28, Y2a, AV.cells?, Nat.reduceAdd, Nat.reduceMul, h1]
      by_cases h2 : 10 < k
      case pos =>
        simp only [nd0, Y1n, Y1o, Y1p, Y1q, Y1w, Y1x, Y1y, Y1z, Y20, Y21, Y28, Y2a, AV.cells?, Nat.reduceAdd, Nat.reduceMul, h2]
        exact out _ (by simp [badKind, h2])
      simp only [nd0, Y1n, Y1o, Y1p, Y1q, Y1w, Y1x, Y1y, Y1z, Y20, Y21, Y28, Y2a, AV.cells?, Nat.reduceAdd, Nat.reduceMul, h2]
      rw [iaddrArr_F (by omega)]
      simp only [nd0, Y1n, Y1o, Y1p, Y1q, Y1w, Y1x, Y1y, Y1z, Y20, Y21, Y28, Y2a, AV.cells?, Nat.reduceAdd, Nat.reduceMul, arity_at (k := k) (by omega) (by omega)]
      by_cases h3 : (of.length : Int) = arity k
      case neg =>
        simp only [nd0, Y1n, Y1o, Y1p, Y1q, Y1w, Y1x, Y1y, Y1z, Y20, Y21, Y28, Y2a, AV.cells?, Nat.reduceAdd, Nat.reduceMul, decide_eq_false h3]
        exact out _ (by simp [badKind, h3])
      simp only [nd0, Y1n, Y1o, Y1p, Y1q, Y1w, Y1x, Y1y, Y1z, Y20, Y21, Y28, Y2a, AV.cells?, Nat.reduceAdd, Nat.reduceMul, decide_eq_true h3]
      have hk2 := (arity_le (k := k) (by omega) (by omega)).2
      by_cases h4 : k = 1
      case' pos =>
        simp only [nd0, Y1n, Y1o, Y1p, Y1q, Y1w, Y1x, Y1y, Y1z, Y20, Y21, Y28, Y2a, AV.cells?, Nat.reduceAdd, Nat.reduceMul, decide_eq_true h4]
        refine wCall.fx (Name_spec B.n s) fun n => ?_
        simp only [nd0, Y1n, Y1o, Y1p, Y1q, Y1w, Y1x, Y1y, Y1z, Y20, Y21, Y28, Y2a, AV.cells?, Nat.reduceAdd, Nat.reduceMul]
        by_cases h5 : nameOk s = true
        case' neg =>
          simp only [nd0, Y1n, Y1o, Y1p, Y1q, Y1w, Y1x, Y1y, Y1z, Y20, Y21, Y28, Y2a, AV.cells?, Nat.reduceAdd, Nat.reduceMul, h5]
          exact hR _ _ (by simp [rightF, badKind, h1, h2, h3, h4, h5])
        simp only [nd0, Y1n, Y1o, Y1p, Y1q, Y1w, Y1x, Y1y, Y1z, Y20, Y21, Y28, Y2a, AV.cells?, Nat.reduceAdd, Nat.reduceMul, h5]
      case' neg =>
        simp only [nd0, Y1n, Y1o, Y1p, Y1q, Y1w, Y1x, Y1y, Y1z, Y20, Y21, Y28, Y2a, AV.cells?, Nat.reduceAdd, Nat.reduceMul, h4]
        by_cases h5 : s = []
        case' neg =>
          simp only [nd0, Y1n, Y1o, Y1p, Y1q, Y1w, Y1x, Y1y, Y1z, Y20, Y21, Y28, Y2a, AV.cells?, Nat.reduceAdd, Nat.reduceMul, h5]
          exact out _ (by simp [badKind, h4, h5])
        simp only [nd0, Y1n, Y1o, Y1p, Y1q, Y1w, Y1x, Y1y, Y1z, Y20, Y21, Y28, Y2a, AV.cells?, Nat.reduceAdd, Nat.reduceMul, h5]
      all_goals
        refine wLoop.two (fun m t i H => ∃ pre rest, of = pre ++ rest ∧ i = Z pre.length ∧ m = rest.length ∧ ∃ z : Int, t = Z z ∧ 0 ≤ z ∧ z ≤ 1 + pre.length * 1048576 ∧ rightL (rightF d) of 1 = rightL (rightF d) rest z) of.length (gh2.mk ⟨[], of, rfl, rfl, rfl, 1, rfl, by simp, by simp, rfl⟩) ?_
        rintro m t i H ⟨pre, rest, hof, rfl, rfl, z, rfl, hz0, hz1, he⟩
        have hgood : rightF (d + 1) (.mk k s of) = rightL (rightF d) of 1 := by simp [rightF, badKind, h1, h2, h3, h4, h5]
        have hpl : pre.length ≤ 2 := by
          have : of.length = pre.length + rest.length := by rw [hof]; simp
          omega
        cases rest with
        | nil =>
          simp only [List.append_nil] at hof
          subst hof
          simp only [nd0, Y1n, Y1o, Y1p, Y1q, Y1w, Y1x, Y1y, Y1z, Y20, Y21, Y28, Y2a, AV.cells?, Nat.reduceAdd, Nat.reduceMul, Int.lt_irrefl]
          refine hR _ _ ?_
          rw [hgood, he]
          simp [rightL]
        | cons x rest =>
          subst hof
          simp only [nd0, Y1n, Y1o, Y1p, Y1q, Y1w, Y1x, Y1y, Y1z, Y20, Y21, Y28, Y2a, AV.cells?, Nat.reduceAdd, Nat.reduceMul, decide_eq_true (show (pre.length : Int) < ((pre ++ x :: rest).length : Int) by simp; omega)]
          rw [iaddr_Nn lt_mid]
          simp only [nd0, Y1n, Y1o, Y1p, Y1q, Y1w, Y1x, Y1y, Y1z, Y20, Y21, Y28, Y2a, AV.cells?, Nat.reduceAdd, Nat.reduceMul, at_mid]
          rw [binA_sub (by omega)]
          simp only [nd0, Y1n, Y1o, Y1p, Y1q, Y1w, Y1x, Y1y, Y1z, Y20, Y21, Y28, Y2a, AV.cells?, Nat.reduceAdd, Nat.reduceMul, show (((d + 1 : Nat) : Int) - 1) = (d : Int) by omega]
          refine wCall.fx (ih (by omega) x) fun n => ?_
          simp only [nd0, Y1n, Y1o, Y1p, Y1q, Y1w, Y1x, Y1y, Y1z, Y20, Y21, Y28, Y2a, AV.cells?, Nat.reduceAdd, Nat.reduceMul]
          obtain ⟨b1, b2⟩ := rightF_bound d x
          have b3 : (2 : Int) ^ d ≤ 2 ^ 20 := by
            have : (2 : Nat) ^ d ≤ 2 ^ 20 := Nat.pow_le_pow_right (by decide) (by omega)
            exact_mod_cast this
          by_cases h6 : (rightF d x).2 = 0
          · simp only [nd0, Y1n, Y1o, Y1p, Y1q, Y1w, Y1x, Y1y, Y1z, Y20, Y21, Y28, Y2a, AV.cells?, Nat.reduceAdd, Nat.reduceMul, h6]
            rw [binA_add (by omega)]
            simp only [nd0, Y1n, Y1o, Y1p, Y1q, Y1w, Y1x, Y1y, Y1z, Y20, Y21, Y28, Y2a, AV.cells?, Nat.reduceAdd, Nat.reduceMul]
            rw [binA_succ (by omega)]
            simp only [nd0, Y1n, Y1o, Y1p, Y1q, Y1w, Y1x, Y1y, Y1z, Y20, Y21, Y28, Y2a, AV.cells?, Nat.reduceAdd, Nat.reduceMul]
            refine back2.mk rest.length (by simp) ⟨pre ++ [x], rest, by simp, by simp, rfl, z + (rightF d x).1, rfl, by omega, by simp; omega, ?_⟩
            rw [he]
            simp only [rightL, h6, if_true]
          · simp only [nd0, Y1n, Y1o, Y1p, Y1q, Y1w, Y1x, Y1y, Y1z, Y20, Y21, Y28, Y2a, AV.cells?, Nat.reduceAdd, Nat.reduceMul, h6]
            refine hR _ _ ?_
            rw [hgood, he]
            simp only [rightL, h6, if_false]

def rightE (f : Fm) : Int := if (rightF 20 f).2 ≠ 0 then (rightF 20 f).2 else if 100 < (rightF 20 f).1 then 4 else 0
theorem Right_spec (B : RightBodies E P) (f : Fm) : FX E P 32 [f.enc] (Er (rightE f)) := by
  refine FX.of' (by simp [AV.closedL, AV.closed, Fm.closed]) (Er_closed _) fun n R hR => B.right1 _ _ _ ?_
  unfold F.lasso_Right
  refine wCall.fx (right_spec B 20 (by decide) f) fun n => ?_
  simp only [nd0, Y1n, Y1o, Y1p, Y1q, Y1w, Y1x, Y1y, Y1z, Y20, Y21, Y28, Y2a, AV.cells?, Nat.reduceAdd, Nat.reduceMul]
  by_cases h1 : (rightF 20 f).2 = 0
  · simp only [nd0, Y1n, Y1o, Y1p, Y1q, Y1w, Y1x, Y1y, Y1z, Y20, Y21, Y28, Y2a, AV.cells?, Nat.reduceAdd, Nat.reduceMul, h1]
    by_cases h2 : 100 < (rightF 20 f).1
    · simp only [nd0, Y1n, Y1o, Y1p, Y1q, Y1w, Y1x, Y1y, Y1z, Y20, Y21, Y28, Y2a, AV.cells?, Nat.reduceAdd, Nat.reduceMul, h2]
      exact hR _ _ (by simp [rightE, Er, h1, h2])
    · simp only [nd0, Y1n, Y1o, Y1p, Y1q, Y1w, Y1x, Y1y, Y1z, Y20, Y21, Y28, Y2a, AV.cells?, Nat.reduceAdd, Nat.reduceMul, h2]
      exact hR _ _ (by simp [rightE, Er, h1, h2])
  · simp only [nd0, Y1n, Y1o, Y1p, Y1q, Y1w, Y1x, Y1y, Y1z, Y20, Y21, Y28, Y2a, AV.cells?, Nat.reduceAdd, Nat.reduceMul, h1]
    exact hR _ _ (by simp [rightE, Er, h1])

/-- lists of texts, and of those -/
def LS (l : List Str) : AV := Lm (fun s => S s) l
def LL (l : List (List Str)) : AV := Lm LS l
theorem LS_closed (l : List Str) : (LS l).closed := by simp [LS, Lm, AV.closed, closed_S]
theorem LL_closed (l : List (List Str)) : (LL l).closed := by simp only [LL, Lm, AV.closed]; exact closed_map LS_closed l
theorem LS_scalar (l : List Str) : (LS l).scalar = true := rfl
theorem LL_scalar (l : List (List Str)) : (LL l).scalar = true := rfl
/-- a word -/
structure Wd where
  ahead : List (List Str)
  round : List (List Str)
def Wd.enc (w : Wd) : AV := .agg [LL w.ahead, LL w.round]
def Wd.n (w : Wd) : Nat := w.ahead.length + w.round.length
/-- no slice is beyond what a machine holds -/
def Wd.sized (w : Wd) : Prop := w.ahead.length < 140737488355328 ∧ w.round.length < 140737488355328 ∧ ∀ l ∈ w.ahead ++ w.round, l.length < 140737488355328
theorem Wd.closed (w : Wd) : w.enc.closed := by simp [Wd.enc, AV.closed, AV.closedL, LL_closed]
def checkE (w : Wd) : Int := if w.round.length < 1 ∨ 60 < w.n then 4 else if (w.ahead ++ w.round).all (fun l => l.all nameOk) then 0 else 5
theorem Check_spec (B : LassoBodies E P) (w : Wd) (hs : w.sized) : FX E P 31 [w.enc] (Er (checkE w)) := by
  refine FX.of' (by simp [AV.closedL, Wd.closed]) (Er_closed _) fun n R hR => B.check _ _ _ ?_
  unfold F.lasso_Check Wd.enc
  obtain ⟨ah, ro⟩ := w
  obtain ⟨hs1, hs2, hs3⟩ := hs
  simp only at hs1 hs2 hs3
  refine wNew.F' (l := [LL ah, LL ro]) rfl ?_
  unfold LL
  simp only [nd0, Y1n, Y1o, Y1p, Y1q, Y1w, Y1x, Y1y, Y1z, Y20, Y21, Y28, Y2a, AV.cells?, Nat.reduceAdd, Nat.reduceMul]
  have out4 : ∀ H, (ro.length < 1 ∨ 60 < ah.length + ro.length) → R (.ifc 1 (Z 4)) H := fun H h => hR _ _ (by unfold checkE Wd.n; simp only; rw [if_pos h]; rfl)
  by_cases h1 : (ro.length : Int) < 1
  · simp only [nd0, Y1n, Y1o, Y1p, Y1q, Y1w, Y1x, Y1y, Y1z, Y20, Y21, Y28, Y2a, AV.cells?, Nat.reduceAdd, Nat.reduceMul, decide_eq_true h1]
    exact out4 _ (by omega)
  simp only [nd0, Y1n, Y1o, Y1p, Y1q, Y1w, Y1x, Y1y, Y1z, Y20, Y21, Y28, Y2a, AV.cells?, Nat.reduceAdd, Nat.reduceMul, decide_eq_false h1]
  rw [binA_add (by omega)]
  simp only [nd0, Y1n, Y1o, Y1p, Y1q, Y1w, Y1x, Y1y, Y1z, Y20, Y21, Y28, Y2a, AV.cells?, Nat.reduceAdd, Nat.reduceMul]
  by_cases h2 : (60 : Int) < (ah.length : Int) + ro.length
  · simp only [nd0, Y1n, Y1o, Y1p, Y1q, Y1w, Y1x, Y1y, Y1z, Y20, Y21, Y28, Y2a, AV.cells?, Nat.reduceAdd, Nat.reduceMul, decide_eq_true h2]
    exact out4 _ (by omega)
  simp only [nd0, Y1n, Y1o, Y1p, Y1q, Y1w, Y1x, Y1y, Y1z, Y20, Y21, Y28, Y2a, AV.cells?, Nat.reduceAdd, Nat.reduceMul, decide_eq_false h2]
  have hno : ¬ (ro.length < 1 ∨ 60 < ah.length + ro.length) := by omega
  refine wNewS.F' (l := [LL ah, LL ro]) rfl rfl ?_
  simp only [nd0, Y1n, Y1o, Y1p, Y1q, Y1w, Y1x, Y1y, Y1z, Y20, Y21, Y28, Y2a, AV.cells?, Nat.reduceAdd, Nat.reduceMul]
  have out5 : ∀ H s l, l ∈ ah ++ ro → s ∈ l → nameOk s = false → R (.ifc 1 (Z 5)) H := fun H s l hl hs hn => hR _ _ (by
    have : (ah ++ ro).all (fun l => l.all nameOk) = false := by
      rw [List.all_eq_false]
      exact ⟨l, hl, by rw [Bool.not_eq_true, List.all_eq_false]; exact ⟨s, hs, by simp [hn]⟩⟩
    unfold checkE Wd.n
    simp only
    rw [if_neg hno, this]
    rfl)
  refine wLoop.one (fun m i H => ∃ pre rest : List (List (List Str)), [ah, ro] = pre ++ rest ∧ i = Z pre.length ∧ m = rest.length ∧ ∀ p ∈ pre, p.all (fun l => l.all nameOk) = true) 2 (gh1.mk ⟨[], [ah, ro], rfl, rfl, rfl, by simp⟩) ?_
  rintro m i H ⟨pre, rest, hp, rfl, rfl, hok⟩
  have hpl : pre.length ≤ 2 := by have := congrArg List.length hp; simp at this; omega
  have hl2 : [LL ah, LL ro] = (pre ++ rest).map LL := by rw [← hp]; rfl
  cases rest with
  | nil =>
    simp only [List.append_nil] at hp
    subst hp
    simp only [nd0, Y1n, Y1o, Y1p, Y1q, Y1w, Y1x, Y1y, Y1z, Y20, Y21, Y28, Y2a, AV.cells?, Nat.reduceAdd, Nat.reduceMul, Int.lt_irrefl]
    refine hR _ _ ?_
    have h1 := hok ah (by simp)
    have h2 := hok ro (by simp)
    have : (ah ++ ro).all (fun l => l.all nameOk) = true := by rw [List.all_append, h1, h2]; rfl
    unfold checkE Wd.n
    simp only
    rw [if_neg hno, this]
    rfl
  | cons p rest =>
    have hlen : pre.length < 2 := by have := congrArg List.length hp; simp at this; omega
    simp only [nd0, Y1n, Y1o, Y1p, Y1q, Y1w, Y1x, Y1y, Y1z, Y20, Y21, Y28, Y2a, AV.cells?, Nat.reduceAdd, Nat.reduceMul, decide_eq_true (show (pre.length : Int) < ((2 : Nat) : Int) by omega)]
    rw [iaddr_Nn hlen]
    simp only [nd0, Y1n, Y1o, Y1p, Y1q, Y1w, Y1x, Y1y, Y1z, Y20, Y21, Y28, Y2a, AV.cells?, Nat.reduceAdd, Nat.reduceMul, hl2, at_mid]
    have hpm : p ∈ [ah, ro] := by rw [hp]; simp
    have hsub : ∀ l ∈ p, l ∈ ah ++ ro := by
      intro l hl
      simp at hpm
      rcases hpm with rfl | rfl <;> simp [hl]
    have hplen : p.length < 140737488355328 := by
      simp at hpm
      rcases hpm with rfl | rfl <;> assumption
    simp only [nd0, Y1n, Y1o, Y1p, Y1q, Y1w, Y1x, Y1y, Y1z, Y20, Y21, Y28, Y2a, AV.cells?, Nat.reduceAdd, Nat.reduceMul, LL]
    refine wLoop.one (fun m i H => ∃ pr re : List (List Str), p = pr ++ re ∧ i = Z pr.length ∧ m = re.length ∧ ∀ l ∈ pr, l.all nameOk = true) p.length (gh1.mk ⟨[], p, rfl, rfl, rfl, by simp⟩) ?_
    rintro m i H ⟨pr, re, rfl, rfl, rfl, hok2⟩
    cases re with
    | nil =>
      simp only [nd0, Y1n, Y1o, Y1p, Y1q, Y1w, Y1x, Y1y, Y1z, Y20, Y21, Y28, Y2a, AV.cells?, Nat.reduceAdd, Nat.reduceMul, List.append_nil, decide_eq_false (Int.lt_irrefl _)]
      rw [binA_succ (by omega)]
      simp only [nd0, Y1n, Y1o, Y1p, Y1q, Y1w, Y1x, Y1y, Y1z, Y20, Y21, Y28, Y2a, AV.cells?, Nat.reduceAdd, Nat.reduceMul]
      refine back1.mk rest.length (by simp) ⟨pre ++ [pr], rest, by simpa using hp, by simp, rfl, fun q hq => ?_⟩
      rcases List.mem_append.1 hq with hq | hq
      · exact hok q hq
      · simp at hq
        subst hq
        rw [List.all_eq_true]
        exact hok2
    | cons l re =>
      simp only [nd0, Y1n, Y1o, Y1p, Y1q, Y1w, Y1x, Y1y, Y1z, Y20, Y21, Y28, Y2a, AV.cells?, Nat.reduceAdd, Nat.reduceMul, decide_eq_true (show (pr.length : Int) < ((pr ++ l :: re).length : Int) by simp; omega)]
      rw [iaddr_Nn lt_mid]
      simp only [nd0, Y1n, Y1o, Y1p, Y1q, Y1w, Y1x, Y1y, Y1z, Y20, Y21, Y28, Y2a, AV.cells?, Nat.reduceAdd, Nat.reduceMul, at_mid, LS]
      have hll := hs3 l (hsub l (by simp))
      refine wLoop.one (fun m i H => ∃ p2 r2 : List Str, l = p2 ++ r2 ∧ i = Z p2.length ∧ m = r2.length ∧ ∀ s ∈ p2, nameOk s = true) l.length (gh1.mk ⟨[], l, rfl, rfl, rfl, by simp⟩) ?_
      rintro m i H ⟨p2, r2, rfl, rfl, rfl, hok3⟩
      cases r2 with
      | nil =>
        simp only [nd0, Y1n, Y1o, Y1p, Y1q, Y1w, Y1x, Y1y, Y1z, Y20, Y21, Y28, Y2a, AV.cells?, Nat.reduceAdd, Nat.reduceMul, List.append_nil, decide_eq_false (Int.lt_irrefl _)]
        rw [binA_succ (by simp at hplen; omega)]
        simp only [nd0, Y1n, Y1o, Y1p, Y1q, Y1w, Y1x, Y1y, Y1z, Y20, Y21, Y28, Y2a, AV.cells?, Nat.reduceAdd, Nat.reduceMul]
        refine back1.mk re.length (by simp) ⟨pr ++ [p2], re, by simp, by simp, rfl, fun q hq => ?_⟩
        rcases List.mem_append.1 hq with hq | hq
        · exact hok2 q hq
        · simp at hq
          subst hq
          rw [List.all_eq_true]
          exact hok3
      | cons s r2 =>
        simp only [nd0, Y1n, Y1o, Y1p, Y1q, Y1w, Y1x, Y1y, Y1z, Y20, Y21, Y28, Y2a, AV.cells?, Nat.reduceAdd, Nat.reduceMul, decide_eq_true (show (p2.length : Int) < ((p2 ++ s :: r2).length : Int) by simp; omega)]
        rw [iaddr_Nn lt_mid]
        simp only [nd0, Y1n, Y1o, Y1p, Y1q, Y1w, Y1x, Y1y, Y1z, Y20, Y21, Y28, Y2a, AV.cells?, Nat.reduceAdd, Nat.reduceMul, at_mid]
        refine wCall.fx (Name_spec B.n s) fun n => ?_
        simp only [nd0, Y1n, Y1o, Y1p, Y1q, Y1w, Y1x, Y1y, Y1z, Y20, Y21, Y28, Y2a, AV.cells?, Nat.reduceAdd, Nat.reduceMul]
        by_cases h5 : nameOk s = true
        · simp only [nd0, Y1n, Y1o, Y1p, Y1q, Y1w, Y1x, Y1y, Y1z, Y20, Y21, Y28, Y2a, AV.cells?, Nat.reduceAdd, Nat.reduceMul, h5]
          rw [binA_succ (by simp at hll; omega)]
          simp only [nd0, Y1n, Y1o, Y1p, Y1q, Y1w, Y1x, Y1y, Y1z, Y20, Y21, Y28, Y2a, AV.cells?, Nat.reduceAdd, Nat.reduceMul]
          refine back1.mk r2.length (by simp) ⟨p2 ++ [s], r2, by simp, by simp, rfl, fun q hq => ?_⟩
          rcases List.mem_append.1 hq with hq | hq
          · exact hok3 q hq
          · simp at hq
            subst hq
            exact h5
        · simp only [nd0, Y1n, Y1o, Y1p, Y1q, Y1w, Y1x, Y1y, Y1z, Y20, Y21, Y28, Y2a, AV.cells?, Nat.reduceAdd, Nat.reduceMul, h5]
          exact out5 _ s (p2 ++ s :: r2) (hsub _ (by simp)) (by simp) (by simpa using h5)

/-- a place in a list of so many -/
theorem At_spec (B : LassoBodies E P) (a : Int) (n : Nat) (h0 : 0 < n) (h1 : n < 4611686018427387904) : FX E P 30 [Z a, Z n] (Z (atN a n)) := by
  refine FX.of' (by simp [AV.closedL, AV.closed]) (by simp [AV.closed]) fun m R hR => B.at_ _ _ _ _ ?_
  unfold F.plain_At
  simp only [nd0, Y1n, Y1o, Y1p, Y1q, Y1w, Y1x, Y1y, Y1z, Y20, Y21, Y28, Y2a, AV.cells?, Nat.reduceAdd, Nat.reduceMul, wrap_u64]
  have e : ((n : Int) % 18446744073709551616) = n := Int.emod_eq_of_lt (by omega) (by omega)
  have hlt := atN_lt (a := a) h0
  have h2 := Int.emod_nonneg a (show (18446744073709551616 : Int) ≠ 0 by decide)
  have hrem : binA .rem (.val (.int .u64 (a % 18446744073709551616))) (.val (.int .u64 ((n : Int) % 18446744073709551616))) = some (.val (.int .u64 (atN a n))) := by
    rw [e]
    simp only [binA, intBin, if_true, show ¬ ((n : Int) = 0) by omega, if_false, Option.map_some]
    rw [Int.tmod_eq_emod_of_nonneg h2]
    unfold atN
    rw [Int.toNat_of_nonneg (Int.emod_nonneg _ (by omega))]
  rw [hrem]
  simp only [nd0, Y1n, Y1o, Y1p, Y1q, Y1w, Y1x, Y1y, Y1z, Y20, Y21, Y28, Y2a, AV.cells?, Nat.reduceAdd, Nat.reduceMul]
  rw [wrap_i64 (by omega)]
  exact hR _ _ rfl

/-- a step of plain's -/
structure St where
  k : Int
  a : Int
  b : Int
  s : Str
def St.cells (x : St) : List AV := [Z x.k, Z x.a, Z x.b, S x.s]
def ST (l : List St) : AV := .slN (l.flatMap St.cells) l.length
theorem St.closedL : ∀ l : List St, AV.closedL (l.flatMap St.cells)
  | [] => by simp [AV.closedL]
  | x :: l => by simp [St.cells, AV.closedL, AV.closed, St.closedL l]
theorem St.len : ∀ l : List St, (l.flatMap St.cells).length = l.length * 4
  | [] => rfl
  | x :: l => by simp [St.cells, St.len l]; omega
theorem St.at {pre rest : List St} {x : St} : subL ((pre ++ x :: rest).flatMap St.cells) (pre.length * 4) 4 = some x.cells := by
  have h1 := St.len pre
  have h2 := St.len rest
  rw [List.flatMap_append, List.flatMap_cons]
  unfold subL
  rw [if_pos (by rw [List.length_append, List.length_append, h1, h2]; simp [St.cells]), List.drop_append_of_le_length (by omega), List.drop_of_length_le (by omega)]
  rfl
def one4 (k : Int) : Prop := k = 3 ∨ k = 6 ∨ k = 9 ∨ k = 10
def two4 (k : Int) : Prop := k = 4 ∨ k = 5 ∨ k = 7 ∨ k = 8
instance (k : Int) : Decidable (one4 k) := by unfold one4; exact inferInstance
instance (k : Int) : Decidable (two4 k) := by unfold two4; exact inferInstance
def stepF (all : List Fm) (x : St) : Fm :=
  if x.k = 2 then .mk 2 [] []
  else if one4 x.k then .mk x.k [] [all.getD (atN x.a all.length) .nil]
  else if two4 x.k then .mk x.k [] [all.getD (atN x.a all.length) .nil, all.getD (atN x.b all.length) .nil]
  else .mk 1 x.s []
def formAll : List St → List Fm → List Fm
  | [], all => all
  | x :: l, all => formAll l (all ++ [stepF all x])
def formF (l : List St) : Fm := (formAll l [.mk 2 [] []]).getLastD .nil

theorem map_getD {l : List Fm} {i : Nat} (h : i < l.length) : (l.map Fm.enc)[i]? = some (l.getD i .nil).enc := by
  simp [List.getD, List.getElem?_eq_getElem h]
theorem Formula_spec (B : LassoBodies E P) (l : List St) (hl : l.length < 4398046511104) : FX E P 26 [ST l] (formF l).enc := by
  refine FX.of' (by simp [ST, AV.closedL, AV.closed, St.closedL]) (Fm.closed _) fun n R hR => B.formula _ _ _ ?_
  unfold F.plain_Formula ST
  refine ⟨⟨[Z 2, S [], nilS], rfl, ?_⟩⟩
  refine wNew.F (l := [Z 2, S [], nilS]) (l' := [Z 2, S [], .slN (Fm.encL []) 0]) rfl (.cons (.refl _) (.cons (.refl _) (.one .nil))) ?_
  refine wNewS.T (l := [(Fm.mk 2 [] []).enc]) rfl (.refl _) rfl ?_
  simp only [nd0, Y1n, Y1o, Y1p, Y1q, Y1w, Y1x, Y1y, Y1z, Y20, Y21, Y28, Y2a, AV.cells?, Nat.reduceAdd, Nat.reduceMul]
  refine wLoop.two (fun m t i H => ∃ pre rest z all, l = pre ++ rest ∧ i = Z pre.length ∧ m = rest.length ∧ H.bs = [z, .dead, .dead] ∧ Gr 1 z 0 t (all.map Fm.enc) all.length ∧ all.length = pre.length + 1 ∧ formAll l [.mk 2 [] []] = formAll rest all) l.length
    (gh2.of (ghost_room [.dead, .dead] (by simp)) ⟨[], l, _, [.mk 2 [] []], rfl, rfl, rfl, rfl, .mk, rfl, rfl⟩) ?_
  rintro m t i ⟨bs, c⟩ ⟨pre, rest, z, all, rfl, rfl, rfl, hbs, hg, hal, hf⟩
  simp only at hbs
  subst hbs
  cases rest with
  | nil =>
    simp only [List.append_nil] at hl hR hf
    simp only [nd0, Y1n, Y1o, Y1p, Y1q, Y1w, Y1x, Y1y, Y1z, Y20, Y21, Y28, Y2a, AV.cells?, Nat.reduceAdd, Nat.reduceMul, List.append_nil, Int.lt_irrefl, hg.len]
    rw [binA_sub (by omega)]
    simp only [nd0, Y1n, Y1o, Y1p, Y1q, Y1w, Y1x, Y1y, Y1z, Y20, Y21, Y28, Y2a, AV.cells?, Nat.reduceAdd, Nat.reduceMul]
    rw [hg.at (by omega)]
    have e : ((all.length : Int) - 1).toNat * 1 = all.length - 1 := by omega
    simp only [nd0, Y1n, Y1o, Y1p, Y1q, Y1w, Y1x, Y1y, Y1z, Y20, Y21, Y28, Y2a, AV.cells?, Nat.reduceAdd, Nat.reduceMul, e]
    rw [map_getD (by omega)]
    simp only [nd0, Y1n, Y1o, Y1p, Y1q, Y1w, Y1x, Y1y, Y1z, Y20, Y21, Y28, Y2a, AV.cells?, Nat.reduceAdd, Nat.reduceMul]
    refine hR _ _ ?_
    unfold formF
    rw [hf]
    simp only [formAll]
    congr 1
    rw [List.getLastD_eq_getLast?, List.getLast?_eq_getElem?]
    rfl
  | cons x rest =>
    simp only [nd0, Y1n, Y1o, Y1p, Y1q, Y1w, Y1x, Y1y, Y1z, Y20, Y21, Y28, Y2a, AV.cells?, Nat.reduceAdd, Nat.reduceMul, decide_eq_true (show (pre.length : Int) < ((pre ++ x :: rest).length : Int) by simp; omega)]
    rw [iaddr_N (by simp; omega)]
    simp only [nd0, Y1n, Y1o, Y1p, Y1q, Y1w, Y1x, Y1y, Y1z, Y20, Y21, Y28, Y2a, AV.cells?, Nat.reduceAdd, Nat.reduceMul, St.at, hg.len, St.cells]
    have hall : 0 < all.length := by omega
    have ha := atN_lt (a := x.a) hall
    have hb := atN_lt (a := x.b) hall
    have hm : all.length < 4611686018427387904 := by simp at hl; omega
    refine wNew.S 1 rfl rfl ?_
    simp only [nd0, Y1n, Y1o, Y1p, Y1q, Y1w, Y1x, Y1y, Y1z, Y20, Y21, Y28, Y2a, AV.cells?, Nat.reduceAdd, Nat.reduceMul]
    rw [storeN_L (n := 4) (xs := [Z x.k, Z x.a, Z x.b, S x.s]) rfl rfl]
    simp only [nd0, Y1n, Y1o, Y1p, Y1q, Y1w, Y1x, Y1y, Y1z, Y20, Y21, Y28, Y2a, AV.cells?, Nat.reduceAdd, Nat.reduceMul, show ∀ a b c d a' b' c' d' : AV, putL [a, b, c, d] 0 [a', b', c', d'] = some [a', b', c', d'] from fun _ _ _ _ _ _ _ _ => rfl]
    refine ⟨⟨[Z x.k, S [], nilS], rfl, ?_⟩⟩
    simp only [nd0, Y1n, Y1o, Y1p, Y1q, Y1w, Y1x, Y1y, Y1z, Y20, Y21, Y28, Y2a, AV.cells?, Nat.reduceAdd, Nat.reduceMul]
    refine wNew.S 2 rfl rfl ?_
    simp only [nd0, Y1n, Y1o, Y1p, Y1q, Y1w, Y1x, Y1y, Y1z, Y20, Y21, Y28, Y2a, AV.cells?, Nat.reduceAdd, Nat.reduceMul]
    refine wCall.fx (At_spec B x.a all.length hall hm) fun n => ?_
    simp only [nd0, Y1n, Y1o, Y1p, Y1q, Y1w, Y1x, Y1y, Y1z, Y20, Y21, Y28, Y2a, AV.cells?, Nat.reduceAdd, Nat.reduceMul, and_self, true_and]
    rw [hg.at (by omega)]
    simp only [nd0, Y1n, Y1o, Y1p, Y1q, Y1w, Y1x, Y1y, Y1z, Y20, Y21, Y28, Y2a, AV.cells?, Nat.reduceAdd, Nat.reduceMul, map_getD ha]
    refine wCall.fx (At_spec B x.b all.length hall hm) fun n => ?_
    simp only [nd0, Y1n, Y1o, Y1p, Y1q, Y1w, Y1x, Y1y, Y1z, Y20, Y21, Y28, Y2a, AV.cells?, Nat.reduceAdd, Nat.reduceMul, map_getD ha, and_self, true_and]
    rw [hg.at (by omega)]
    simp only [nd0, Y1n, Y1o, Y1p, Y1q, Y1w, Y1x, Y1y, Y1z, Y20, Y21, Y28, Y2a, AV.cells?, Nat.reduceAdd, Nat.reduceMul, map_getD hb, and_self, true_and]
    refine wJoin.zero (fun H => ∃ sl k' s' of' n', H = ⟨[z, .cells c 4 [Z x.k, Z x.a, Z x.b, S x.s], .cells (c + 1) 3 [Z k', S s', sl]], n'⟩ ∧ Sub sl (Lm Fm.enc of') ∧ stepF all x = .mk k' s' of') ?_ ?_
    · refine wIf.dec (fun h2 => ?_) fun h2 => ?_
      · exact gh0.mk ⟨nilS, x.k, [], [], _, rfl, .nil, by simp [stepF, h2]⟩
      refine wJoin.one (fun t H => t = Bo (decide (one4 x.k)) ∧ ∃ n', H = ⟨[z, .cells c 4 [Z x.k, Z x.a, Z x.b, S x.s], .cells (c + 1) 3 [Z x.k, S [], nilS]], n'⟩) ?_ ?_
      · refine wIf.dec (fun h => gh1.mk ⟨by simp [one4, h], _, rfl⟩) fun h3 => ?_
        refine wIf.dec (fun h => gh1.mk ⟨by simp [one4, h], _, rfl⟩) fun h6 => ?_
        refine wIf.dec (fun h => gh1.mk ⟨by simp [one4, h], _, rfl⟩) fun h9 => ?_
        exact gh1.mk ⟨by simp [one4, h3, h6, h9], _, rfl⟩
      rintro t' H' ⟨rfl, n', rfl⟩
      refine wIf.dec (fun h1 => ?_) fun h1 => ?_
      · refine wNewS.F' (l := [(all.getD (atN x.a all.length) .nil).enc]) (by simp [fillA_one (Fm.scalar _), fillA_nil]) rfl ?_
        rw [store1_L rfl]
        simp only [nd0, Y1n, Y1o, Y1p, Y1q, Y1w, Y1x, Y1y, Y1z, Y20, Y21, Y28, Y2a, AV.cells?, Nat.reduceAdd, Nat.reduceMul, Nat.reduceLT]
        exact gh0.mk ⟨_, x.k, [], [all.getD (atN x.a all.length) .nil], _, rfl, .refl _, by simp [stepF, h2, h1]⟩
      refine wJoin.one (fun t H => t = Bo (decide (two4 x.k)) ∧ ∃ n', H = ⟨[z, .cells c 4 [Z x.k, Z x.a, Z x.b, S x.s], .cells (c + 1) 3 [Z x.k, S [], nilS]], n'⟩) ?_ ?_
      · refine wIf.dec (fun h => gh1.mk ⟨by simp [two4, h], _, rfl⟩) fun h3 => ?_
        refine wIf.dec (fun h => gh1.mk ⟨by simp [two4, h], _, rfl⟩) fun h6 => ?_
        refine wIf.dec (fun h => gh1.mk ⟨by simp [two4, h], _, rfl⟩) fun h9 => ?_
        exact gh1.mk ⟨by simp [two4, h3, h6, h9], _, rfl⟩
      rintro t' H' ⟨rfl, n', rfl⟩
      refine wIf.dec (fun h3 => ?_) fun h3 => ?_
      · refine wNewS.F' (l := [(all.getD (atN x.a all.length) .nil).enc, (all.getD (atN x.b all.length) .nil).enc]) (by simp [fillA_one (Fm.scalar _), fillA_nil]) rfl ?_
        rw [store1_L rfl]
        simp only [nd0, Y1n, Y1o, Y1p, Y1q, Y1w, Y1x, Y1y, Y1z, Y20, Y21, Y28, Y2a, AV.cells?, Nat.reduceAdd, Nat.reduceMul, Nat.reduceLT]
        exact gh0.mk ⟨_, x.k, [], [all.getD (atN x.a all.length) .nil, all.getD (atN x.b all.length) .nil], _, rfl, .refl _, by simp [stepF, h2, h1, h3]⟩
      simp only [nd0, Y1n, Y1o, Y1p, Y1q, Y1w, Y1x, Y1y, Y1z, Y20, Y21, Y28, Y2a, AV.cells?, Nat.reduceAdd, Nat.reduceMul]
      rw [store1_L rfl]
      simp only [nd0, Y1n, Y1o, Y1p, Y1q, Y1w, Y1x, Y1y, Y1z, Y20, Y21, Y28, Y2a, AV.cells?, Nat.reduceAdd, Nat.reduceMul, Nat.reduceLT, and_self, true_and]
      rw [store1_L rfl]
      simp only [nd0, Y1n, Y1o, Y1p, Y1q, Y1w, Y1x, Y1y, Y1z, Y20, Y21, Y28, Y2a, AV.cells?, Nat.reduceAdd, Nat.reduceMul, Nat.reduceLT]
      exact gh0.mk ⟨nilS, 1, x.s, [], _, rfl, .nil, by simp [stepF, h2, h1, h3]⟩
    · rintro H ⟨sl, k', s', of', n', rfl, hsl, hst⟩
      refine wNewS.F' (l := [.ptrL 2 0 (c + 1)]) rfl rfl ?_
      refine wApp.one hg rfl (by simp) (.refl _) rfl (by simp [mostBytes]; simp at hl; omega) fun z' x' c' hg' => ?_
      simp only [nd0, Y1n, Y1o, Y1p, Y1q, Y1w, Y1x, Y1y, Y1z, Y20, Y21, Y28, Y2a, AV.cells?, Nat.reduceAdd, Nat.reduceMul]
      rw [binA_succ (by simp at hl; omega)]
      simp only [nd0, Y1n, Y1o, Y1p, Y1q, Y1w, Y1x, Y1y, Y1z, Y20, Y21, Y28, Y2a, AV.cells?, Nat.reduceAdd, Nat.reduceMul]
      have hp : Fk ⟨[z', .cells c 4 [Z x.k, Z x.a, Z x.b, S x.s], .cells (c + 1) 3 [Z k', S s', sl]], c'⟩ (fun i => i == 1 || i == 2) (.ptrL 2 0 (c + 1)) (stepF all x).enc := by
        rw [hst, Fm.enc_mk]
        exact Fk.ptrF 3 rfl rfl (.cons (.same _) (.cons (.same _) (.cons (.sub hsl) .nil)))
      obtain ⟨t'', hg'', hfk⟩ := hg'.fk (FkL.append (FkL.same _) (.cons hp .nil))
      have hgh : Ghost [x', Z ((pre.length + 1 : Nat) : Int)] ⟨[z', .cells c 4 [Z x.k, Z x.a, Z x.b, S x.s], .cells (c + 1) 3 [Z k', S s', sl]], c'⟩ [t'', Z ((pre.length + 1 : Nat) : Int)] ⟨[z', .dead, .dead], c'⟩ :=
        ghost_kill (H := ⟨[z', .cells c 4 [Z x.k, Z x.a, Z x.b, S x.s], .cells (c + 1) 3 [Z k', S s', sl]], c'⟩) (H' := ⟨[z', .dead, .dead], c'⟩) (S := fun i => i == 1 || i == 2) rfl (.keep rfl (KB.same _) (.dead rfl (.dead rfl .nil))) (.cons hfk (.cons (.same _) .nil))
      refine back2.of rest.length (by simp) hgh ⟨pre ++ [x], rest, z', all ++ [stepF all x], by simp, by simp, rfl, rfl, by simpa using hg'', by simp; omega, ?_⟩
      rw [hf]
      rfl
end
end Go.Sc
