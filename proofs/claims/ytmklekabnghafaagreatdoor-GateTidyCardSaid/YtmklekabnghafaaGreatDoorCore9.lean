/- CONTRACTS: package expr: an expression is made tidy. THE LAW ExprTidies, out of the contracts. CONTRACTS: package cover: pairs of values that show a name. CONTRACTS: package gate: the solver. (of the seat YtmklekabnghafaaGreatDoor) -/
import Derived.Test.YtmklekabnghafaaGreatDoorCore8
namespace Go.Sc
open Go
set_option linter.unusedSimpArgs false
set_option linter.unusedVariables false
set_option linter.unnecessarySimpa false
structure TidyBodies (E : Env) (P : Program) : Prop where
  n : NameBodies E P
  w : WriteBodies E P
  tidy : Body1 E P 170 F.expr_Tidy
  parts : Body2 E P 173 F.expr_parts
  parts1 : Body3 E P 175 F.expr_parts_c1
  con : Body2 E P 176 F.slices_ContainsFunc_Lexpr_Expr_expr_Expr
  ix : Body2 E P 177 F.slices_IndexFunc_Lexpr_Expr_expr_Expr
/-- what has been found so far: the parts, and their texts -/
def PH (g0 g1 : Nat) (acc : List Ex) (H : AH) : Prop := ∃ x0 x1 z0 z1 c, H = ⟨[.cells g0 1 [x0], .cells g1 1 [x1], z0, z1], c⟩ ∧ Gr 1 z0 2 x0 (Ex.encL acc) acc.length ∧ Gr 1 z1 3 x1 ((acc.map (Ex.wr 0)).map fun s => S s) acc.length
theorem hasT_dec (l : List Ex) (t : Str) : decide (t ∈ l.map (Ex.wr 0)) = hasT l t := by
  rw [Bool.eq_iff_iff]
  unfold hasT
  simp [List.any_eq_true]
theorem kill4 {a b z0 z1 e : Blk} {c : Nat} {t : Str} : Ghost [S t] ⟨[a, b, z0, z1, e], c⟩ [S t] ⟨[a, b, z0, z1], c⟩ :=
  ghost_kill (H := ⟨[a, b, z0, z1, e], c⟩) (H' := ⟨[a, b, z0, z1], c⟩) (S := fun i => decide (i = 4)) rfl (.keep rfl (KB.same _) (.keep rfl (KB.same _) (.keep rfl (KB.same _) (.keep rfl (KB.same _) (.cut fun j x hx => by
    cases j with
    | zero => exact .inl rfl
    | succ j => simp at hx))))) (FkL.same _)
section
variable {E : Env} {P : Program}
theorem containsT (B : TidyBodies E P) {acc : List Ex} {z : Blk} {b : Nat} {x : AV} (hg : Gr 1 z b x ((acc.map (Ex.wr 0)).map fun s => S s) acc.length) (hn : acc.length ≤ 1000000) (t : Str) {H : AH} {K : Kt} (hK : ∀ n, K (Bo (hasT acc t)) ⟨H.bs, n⟩) : wCall E P 5 [x, S t] H K := by
  have hlen : (acc.map (Ex.wr 0)).length = acc.length := List.length_map _
  refine wCall.fxs (ContainsS_spec (IndexS_spec B.n.index) B.n.contains (acc.map (Ex.wr 0)) t (by rw [hlen]; omega)) (.cons (by
    have := hg.sub
    rw [Lm_S, hlen]; exact this) (.refl _)) fun n => ?_
  rw [hasT_dec]
  exact hK n
set_option maxHeartbeats 2000000 in
theorem add_spec (B : TidyBodies E P) {g0 g1 : Nat} {acc : List Ex} {y : Ex} (hn : acc.length ≤ 1000000) (hw : y.wt ≤ 900000) (hf : y.fine) {H : AH} (hH : PH g0 g1 acc H) :
    ACalls E P 175 [y.enc, .ptrL 1 0 g1, .ptrL 0 0 g0] H fun r H' => match addP acc y with
      | none => r = Bo true ∧ PH g0 g1 acc H'
      | some acc' => r = Bo false ∧ PH g0 g1 acc' H' := by
  obtain ⟨x0, x1, z0, z1, c, rfl, hg0, hg1⟩ := hH
  refine B.parts1 _ _ _ _ _ ?_
  unfold F.expr_parts_c1
  have hb : (acc.length + 1) * 16 ≤ mostBytes ∧ acc.length + 1 ≤ mostBytes := by simp [mostBytes]; omega
  refine wCall.fx (Text_spec B.w y (by omega) hf) fun n1 => ?_
  simp only [nd0, Y1n, Y1o, Y1p, Y1q, Y1w, Y1x, Y1y, Y1z, Y20, Y21, Y28, Y2a, AV.cells?, Nat.reduceAdd, Nat.reduceMul]
  refine containsT B hg1 hn _ fun n2 => ?_
  unfold addP
  by_cases h1 : hasT acc (y.wr 0) = true
  · rw [if_pos h1]
    rw [h1]
    simp only [nd0, Y1n, Y1o, Y1p, Y1q, Y1w, Y1x, Y1y, Y1z, Y20, Y21, Y28, Y2a, AV.cells?, Nat.reduceAdd, Nat.reduceMul]
    exact ⟨trivial, x0, x1, z0, z1, n2, rfl, hg0, hg1⟩
  rw [if_neg h1, Bool.not_eq_true] at *
  rw [h1]
  simp only [nd0, Y1n, Y1o, Y1p, Y1q, Y1w, Y1x, Y1y, Y1z, Y20, Y21, Y28, Y2a, AV.cells?, Nat.reduceAdd, Nat.reduceMul, show fillA [nilE] [(0, 1, y.enc)] = some [y.enc] from by rw [fillA_one (Ex.enc_scalar y) (by simp)]; rfl]
  have hnot : FX E P 127 [.ifc 10 (.agg [y.enc])] (S ((Ex.not y).wr 0)) := Text_spec B.w (.not y) (by simp only [Ex.wt]; omega) hf
  refine wCall.fx hnot fun n3 => ?_
  refine wJoin.one (fun t H => t = S (y.other.wr 0) ∧ ∃ n, H = ⟨[.cells g0 1 [x0], .cells g1 1 [x1], z0, z1], n⟩) ?_ ?_
  · have done : ∀ (o : Blk) (t : Str) n, t = y.other.wr 0 → gh1 (fun t H => t = S (y.other.wr 0) ∧ ∃ n, H = ⟨[.cells g0 1 [x0], .cells g1 1 [x1], z0, z1], n⟩) (S t) ⟨[.cells g0 1 [x0], .cells g1 1 [x1], z0, z1, o], n⟩ := fun o t n ht => gh1.of kill4 ⟨by rw [ht], n, rfl⟩
    have hsub1 : ∀ w : Ex, putL [nilE] 0 [w.enc] = some [w.enc] := fun _ => rfl
    have hz : putL [nilE] 0 [nilE] = some [nilE] := rfl
    cases y with
    | not w =>
      simp only [Ex.wt] at hw
      simp only [Ex.enc]
      simp only [nd0, Y1n, Y1o, Y1p, Y1q, Y1w, Y1x, Y1y, Y1z, Y20, Y21, Y28, Y2a, AV.cells?, Nat.reduceAdd, Nat.reduceMul, asA, show (10 : Nat) = 10 ↔ True by decide]
      refine wNew.L (l := [nilE]) rfl ?_
      simp only [nd0, Y1n, Y1o, Y1p, Y1q, Y1w, Y1x, Y1y, Y1z, Y20, Y21, Y28, Y2a, AV.cells?, Nat.reduceAdd, Nat.reduceMul]
      rw [storeN_L (n := 1) (xs := [w.enc]) rfl (by simp [Ex.enc_scalar])]
      simp only [nd0, Y1n, Y1o, Y1p, Y1q, Y1w, Y1x, Y1y, Y1z, Y20, Y21, Y28, Y2a, AV.cells?, Nat.reduceAdd, Nat.reduceMul, hsub1]
      refine wCall.fx (Text_spec B.w w (by omega) hf) fun n4 => ?_
      exact done _ _ _ rfl
    | k b =>
      simp only [Ex.enc]
      simp only [nd0, Y1n, Y1o, Y1p, Y1q, Y1w, Y1x, Y1y, Y1z, Y20, Y21, Y28, Y2a, AV.cells?, Nat.reduceAdd, Nat.reduceMul, asA, show (11 : Nat) = 10 ↔ False by decide]
      refine wNew.L (l := [nilE]) rfl ?_
      simp only [nd0, Y1n, Y1o, Y1p, Y1q, Y1w, Y1x, Y1y, Y1z, Y20, Y21, Y28, Y2a, AV.cells?, Nat.reduceAdd, Nat.reduceMul]
      rw [storeN_L (n := 1) (xs := [nilE]) rfl rfl]
      simp only [nd0, Y1n, Y1o, Y1p, Y1q, Y1w, Y1x, Y1y, Y1z, Y20, Y21, Y28, Y2a, AV.cells?, Nat.reduceAdd, Nat.reduceMul, hz]
      exact done _ _ _ rfl
    | bit b =>
      simp only [Ex.enc]
      simp only [nd0, Y1n, Y1o, Y1p, Y1q, Y1w, Y1x, Y1y, Y1z, Y20, Y21, Y28, Y2a, AV.cells?, Nat.reduceAdd, Nat.reduceMul, asA, show (14 : Nat) = 10 ↔ False by decide]
      refine wNew.L (l := [nilE]) rfl ?_
      simp only [nd0, Y1n, Y1o, Y1p, Y1q, Y1w, Y1x, Y1y, Y1z, Y20, Y21, Y28, Y2a, AV.cells?, Nat.reduceAdd, Nat.reduceMul]
      rw [storeN_L (n := 1) (xs := [nilE]) rfl rfl]
      simp only [nd0, Y1n, Y1o, Y1p, Y1q, Y1w, Y1x, Y1y, Y1z, Y20, Y21, Y28, Y2a, AV.cells?, Nat.reduceAdd, Nat.reduceMul, hz]
      exact done _ _ _ rfl
    | rise b =>
      simp only [Ex.enc]
      simp only [nd0, Y1n, Y1o, Y1p, Y1q, Y1w, Y1x, Y1y, Y1z, Y20, Y21, Y28, Y2a, AV.cells?, Nat.reduceAdd, Nat.reduceMul, asA, show (12 : Nat) = 10 ↔ False by decide]
      refine wNew.L (l := [nilE]) rfl ?_
      simp only [nd0, Y1n, Y1o, Y1p, Y1q, Y1w, Y1x, Y1y, Y1z, Y20, Y21, Y28, Y2a, AV.cells?, Nat.reduceAdd, Nat.reduceMul]
      rw [storeN_L (n := 1) (xs := [nilE]) rfl rfl]
      simp only [nd0, Y1n, Y1o, Y1p, Y1q, Y1w, Y1x, Y1y, Y1z, Y20, Y21, Y28, Y2a, AV.cells?, Nat.reduceAdd, Nat.reduceMul, hz]
      exact done _ _ _ rfl
    | fall b =>
      simp only [Ex.enc]
      simp only [nd0, Y1n, Y1o, Y1p, Y1q, Y1w, Y1x, Y1y, Y1z, Y20, Y21, Y28, Y2a, AV.cells?, Nat.reduceAdd, Nat.reduceMul, asA, show (13 : Nat) = 10 ↔ False by decide]
      refine wNew.L (l := [nilE]) rfl ?_
      simp only [nd0, Y1n, Y1o, Y1p, Y1q, Y1w, Y1x, Y1y, Y1z, Y20, Y21, Y28, Y2a, AV.cells?, Nat.reduceAdd, Nat.reduceMul]
      rw [storeN_L (n := 1) (xs := [nilE]) rfl rfl]
      simp only [nd0, Y1n, Y1o, Y1p, Y1q, Y1w, Y1x, Y1y, Y1z, Y20, Y21, Y28, Y2a, AV.cells?, Nat.reduceAdd, Nat.reduceMul, hz]
      exact done _ _ _ rfl
    | and b =>
      simp only [Ex.enc]
      simp only [nd0, Y1n, Y1o, Y1p, Y1q, Y1w, Y1x, Y1y, Y1z, Y20, Y21, Y28, Y2a, AV.cells?, Nat.reduceAdd, Nat.reduceMul, asA, show (9 : Nat) = 10 ↔ False by decide]
      refine wNew.L (l := [nilE]) rfl ?_
      simp only [nd0, Y1n, Y1o, Y1p, Y1q, Y1w, Y1x, Y1y, Y1z, Y20, Y21, Y28, Y2a, AV.cells?, Nat.reduceAdd, Nat.reduceMul]
      rw [storeN_L (n := 1) (xs := [nilE]) rfl rfl]
      simp only [nd0, Y1n, Y1o, Y1p, Y1q, Y1w, Y1x, Y1y, Y1z, Y20, Y21, Y28, Y2a, AV.cells?, Nat.reduceAdd, Nat.reduceMul, hz]
      exact done _ _ _ rfl
    | or b =>
      simp only [Ex.enc]
      simp only [nd0, Y1n, Y1o, Y1p, Y1q, Y1w, Y1x, Y1y, Y1z, Y20, Y21, Y28, Y2a, AV.cells?, Nat.reduceAdd, Nat.reduceMul, asA, show (8 : Nat) = 10 ↔ False by decide]
      refine wNew.L (l := [nilE]) rfl ?_
      simp only [nd0, Y1n, Y1o, Y1p, Y1q, Y1w, Y1x, Y1y, Y1z, Y20, Y21, Y28, Y2a, AV.cells?, Nat.reduceAdd, Nat.reduceMul]
      rw [storeN_L (n := 1) (xs := [nilE]) rfl rfl]
      simp only [nd0, Y1n, Y1o, Y1p, Y1q, Y1w, Y1x, Y1y, Y1z, Y20, Y21, Y28, Y2a, AV.cells?, Nat.reduceAdd, Nat.reduceMul, hz]
      exact done _ _ _ rfl
  · rintro t H ⟨rfl, n4, rfl⟩
    simp only [nd0, Y1n, Y1o, Y1p, Y1q, Y1w, Y1x, Y1y, Y1z, Y20, Y21, Y28, Y2a, AV.cells?, Nat.reduceAdd, Nat.reduceMul]
    refine containsT B hg1 hn _ fun n5 => ?_
    by_cases h2 : hasT acc (y.other.wr 0) = true
    · rw [if_pos h2, h2]
      simp only [nd0, Y1n, Y1o, Y1p, Y1q, Y1w, Y1x, Y1y, Y1z, Y20, Y21, Y28, Y2a, AV.cells?, Nat.reduceAdd, Nat.reduceMul]
      exact ⟨trivial, x0, x1, z0, z1, n5, rfl, hg0, hg1⟩
    rw [if_neg h2]
    rw [Bool.not_eq_true] at h2
    rw [h2]
    simp only [nd0, Y1n, Y1o, Y1p, Y1q, Y1w, Y1x, Y1y, Y1z, Y20, Y21, Y28, Y2a, AV.cells?, Nat.reduceAdd, Nat.reduceMul]
    refine wJoin.zero (fun H => PH g0 g1 (acc ++ [y]) H) ?_ (fun H h => ⟨trivial, h⟩)
    have henc : (Ex.encL acc).length = acc.length := Ex.encL_len acc
    have htx : ((acc.map (Ex.wr 0)).map fun s => S s).length = acc.length := by simp
    have fin : ∀ {x0' x1' : AV} {z0' z1' : Blk} {n : Nat}, Gr 1 z0' 2 x0' (Ex.encL acc ++ [y.enc]) (acc.length + 1) → Gr 1 z1' 3 x1' (((acc.map (Ex.wr 0)).map fun s => S s) ++ [S (y.wr 0)]) (acc.length + 1) →
        gh0 (fun H => PH g0 g1 (acc ++ [y]) H) ⟨[.cells g0 1 [x0'], .cells g1 1 [x1'], z0', z1'], n⟩ := fun {x0' x1' z0' z1' n} k0 k1 => gh0.mk ⟨x0', x1', z0', z1', n, rfl, by rw [Ex.encL_snoc, List.length_append]; exact k0, by rw [List.length_append, List.map_append, List.map_append]; exact k1⟩
    refine ⟨?_, ?_⟩
    · refine wNewS.F' (l := [y.enc]) (fill1 (Ex.enc_scalar y)) rfl ?_
      simp only [nd0, Y1n, Y1o, Y1p, Y1q, Y1w, Y1x, Y1y, Y1z, Y20, Y21, Y28, Y2a, AV.cells?, Nat.reduceAdd, Nat.reduceMul, and_self, true_and]
      refine ⟨?_, ?_⟩
      · refine wApp.one hg0 rfl henc (.refl _) (Ex.enc_scalar y) hb fun z0' x0' c1 k0 => ?_
        simp only [nd0, Y1n, Y1o, Y1p, Y1q, Y1w, Y1x, Y1y, Y1z, Y20, Y21, Y28, Y2a, AV.cells?, Nat.reduceAdd, Nat.reduceMul, and_self, true_and]
        refine wNewS.F' (l := [S (y.wr 0)]) (fill1 rfl) rfl ?_
        simp only [nd0, Y1n, Y1o, Y1p, Y1q, Y1w, Y1x, Y1y, Y1z, Y20, Y21, Y28, Y2a, AV.cells?, Nat.reduceAdd, Nat.reduceMul, and_self, true_and]
        refine wApp.one hg1 rfl htx (.refl _) rfl hb fun z1' x1' c2 k1 => ?_
        simp only [nd0, Y1n, Y1o, Y1p, Y1q, Y1w, Y1x, Y1y, Y1z, Y20, Y21, Y28, Y2a, AV.cells?, Nat.reduceAdd, Nat.reduceMul, and_self, true_and]
        rw [store1_L k0.scalar]
        simp only [nd0, Y1n, Y1o, Y1p, Y1q, Y1w, Y1x, Y1y, Y1z, Y20, Y21, Y28, Y2a, AV.cells?, Nat.reduceAdd, Nat.reduceMul, Nat.reduceLT]
        rw [store1_L k1.scalar]
        simp only [nd0, Y1n, Y1o, Y1p, Y1q, Y1w, Y1x, Y1y, Y1z, Y20, Y21, Y28, Y2a, AV.cells?, Nat.reduceAdd, Nat.reduceMul, Nat.reduceLT]
        exact fin k0 k1
      · refine wNewS.F' (l := [S (y.wr 0)]) (fill1 rfl) rfl ?_
        simp only [nd0, Y1n, Y1o, Y1p, Y1q, Y1w, Y1x, Y1y, Y1z, Y20, Y21, Y28, Y2a, AV.cells?, Nat.reduceAdd, Nat.reduceMul, and_self, true_and]
        refine wApp.one hg0 rfl henc (.refl _) (Ex.enc_scalar y) hb fun z0' x0' c1 k0 => ?_
        simp only [nd0, Y1n, Y1o, Y1p, Y1q, Y1w, Y1x, Y1y, Y1z, Y20, Y21, Y28, Y2a, AV.cells?, Nat.reduceAdd, Nat.reduceMul, and_self, true_and]
        refine wApp.one hg1 rfl htx (.refl _) rfl hb fun z1' x1' c2 k1 => ?_
        simp only [nd0, Y1n, Y1o, Y1p, Y1q, Y1w, Y1x, Y1y, Y1z, Y20, Y21, Y28, Y2a, AV.cells?, Nat.reduceAdd, Nat.reduceMul, and_self, true_and]
        rw [store1_L k0.scalar]
        simp only [nd0, Y1n, Y1o, Y1p, Y1q, Y1w, Y1x, Y1y, Y1z, Y20, Y21, Y28, Y2a, AV.cells?, Nat.reduceAdd, Nat.reduceMul, Nat.reduceLT]
        rw [store1_L k1.scalar]
        simp only [nd0, Y1n, Y1o, Y1p, Y1q, Y1w, Y1x, Y1y, Y1z, Y20, Y21, Y28, Y2a, AV.cells?, Nat.reduceAdd, Nat.reduceMul, Nat.reduceLT]
        exact fin k0 k1
    · refine wNewS.F' (l := [S (y.wr 0)]) (fill1 rfl) rfl ?_
      simp only [nd0, Y1n, Y1o, Y1p, Y1q, Y1w, Y1x, Y1y, Y1z, Y20, Y21, Y28, Y2a, AV.cells?, Nat.reduceAdd, Nat.reduceMul, and_self, true_and]
      refine wNewS.F' (l := [y.enc]) (fill1 (Ex.enc_scalar y)) rfl ?_
      simp only [nd0, Y1n, Y1o, Y1p, Y1q, Y1w, Y1x, Y1y, Y1z, Y20, Y21, Y28, Y2a, AV.cells?, Nat.reduceAdd, Nat.reduceMul, and_self, true_and]
      refine wApp.one hg0 rfl henc (.refl _) (Ex.enc_scalar y) hb fun z0' x0' c1 k0 => ?_
      simp only [nd0, Y1n, Y1o, Y1p, Y1q, Y1w, Y1x, Y1y, Y1z, Y20, Y21, Y28, Y2a, AV.cells?, Nat.reduceAdd, Nat.reduceMul, and_self, true_and]
      refine wApp.one hg1 rfl htx (.refl _) rfl hb fun z1' x1' c2 k1 => ?_
      simp only [nd0, Y1n, Y1o, Y1p, Y1q, Y1w, Y1x, Y1y, Y1z, Y20, Y21, Y28, Y2a, AV.cells?, Nat.reduceAdd, Nat.reduceMul, and_self, true_and]
      rw [store1_L k0.scalar]
      simp only [nd0, Y1n, Y1o, Y1p, Y1q, Y1w, Y1x, Y1y, Y1z, Y20, Y21, Y28, Y2a, AV.cells?, Nat.reduceAdd, Nat.reduceMul, Nat.reduceLT]
      rw [store1_L k1.scalar]
      simp only [nd0, Y1n, Y1o, Y1p, Y1q, Y1w, Y1x, Y1y, Y1z, Y20, Y21, Y28, Y2a, AV.cells?, Nat.reduceAdd, Nat.reduceMul, Nat.reduceLT]
      exact fin k0 k1
/-- one piece after the other -/
theorem ixAdd_spec (B : TidyBodies E P) {g0 g1 : Nat} {acc ps : List Ex} (hn : acc.length + ps.length ≤ 1000000) (hp : ∀ y ∈ ps, y.wt ≤ 900000 ∧ y.fine) {H : AH} (hH : PH g0 g1 acc H) :
    ACalls E P 177 [.slN (Ex.encL ps) ps.length, .fn 175 [] [.ptrL 1 0 g1, .ptrL 0 0 g0]] H fun r H' => match addAll acc ps with
      | none => (∃ i : Nat, r = Z i) ∧ ∃ acc', PH g0 g1 acc' H'
      | some acc' => r = Z (-1) ∧ PH g0 g1 acc' H' := by
  refine B.ix _ _ _ _ ?_
  unfold F.slices_IndexFunc_Lexpr_Expr_expr_Expr
  simp only [nd0, Y1n, Y1o, Y1p, Y1q, Y1w, Y1x, Y1y, Y1z, Y20, Y21, Y28, Y2a, AV.cells?, Nat.reduceAdd, Nat.reduceMul]
  refine wLoop.one (fun m i H => ∃ pre rest acc1, ps = pre ++ rest ∧ i = Z pre.length ∧ m = rest.length ∧ PH g0 g1 acc1 H ∧ acc1.length ≤ acc.length + pre.length ∧ addAll acc ps = addAll acc1 rest) ps.length (gh1.mk ⟨[], ps, acc, rfl, rfl, rfl, hH, by simp, rfl⟩) ?_
  rintro m i H ⟨pre, rest, acc1, hpr, rfl, rfl, hH1, hl1, he⟩
  cases rest with
  | nil =>
    rw [List.append_nil] at hpr
    subst hpr
    rw [he]
    simp only [nd0, Y1n, Y1o, Y1p, Y1q, Y1w, Y1x, Y1y, Y1z, Y20, Y21, Y28, Y2a, AV.cells?, Nat.reduceAdd, Nat.reduceMul, Int.lt_irrefl]
    exact ⟨trivial, hH1⟩
  | cons y rest =>
    have hym : y ∈ ps := by rw [hpr]; simp
    have hlt : pre.length < ps.length := by rw [hpr]; simp
    simp only [nd0, Y1n, Y1o, Y1p, Y1q, Y1w, Y1x, Y1y, Y1z, Y20, Y21, Y28, Y2a, AV.cells?, Nat.reduceAdd, Nat.reduceMul, decide_eq_true (show (pre.length : Int) < (ps.length : Int) by omega)]
    rw [iaddr_Nn hlt]
    simp only [nd0, Y1n, Y1o, Y1p, Y1q, Y1w, Y1x, Y1y, Y1z, Y20, Y21, Y28, Y2a, AV.cells?, Nat.reduceAdd, Nat.reduceMul, show (Ex.encL ps)[pre.length]? = some y.enc by rw [Ex.encL_map, hpr]; simp]
    refine ⟨⟨175, [], [.ptrL 1 0 g1, .ptrL 0 0 g0], rfl, _, add_spec B (by omega) (hp y hym).1 (hp y hym).2 hH1, ?_⟩⟩
    intro r H' hr
    have he2 : addAll acc1 (y :: rest) = match addP acc1 y with
      | none => none
      | some l' => addAll l' rest := by rw [addAll] <;> (cases addP acc1 y <;> rfl)
    rw [he2] at he
    cases ha : addP acc1 y with
    | none =>
      rw [ha] at hr he
      obtain ⟨rfl, hH2⟩ := hr
      rw [he]
      simp only [nd0, Y1n, Y1o, Y1p, Y1q, Y1w, Y1x, Y1y, Y1z, Y20, Y21, Y28, Y2a, AV.cells?, Nat.reduceAdd, Nat.reduceMul]
      exact ⟨⟨_, rfl⟩, _, hH2⟩
    | some acc2 =>
      rw [ha] at hr he
      obtain ⟨rfl, hH2⟩ := hr
      simp only [nd0, Y1n, Y1o, Y1p, Y1q, Y1w, Y1x, Y1y, Y1z, Y20, Y21, Y28, Y2a, AV.cells?, Nat.reduceAdd, Nat.reduceMul]
      rw [binA_succ (by omega)]
      simp only [nd0, Y1n, Y1o, Y1p, Y1q, Y1w, Y1x, Y1y, Y1z, Y20, Y21, Y28, Y2a, AV.cells?, Nat.reduceAdd, Nat.reduceMul]
      refine back1.mk rest.length (by simp) ⟨pre ++ [y], rest, acc2, by rw [hpr]; simp, by simp, rfl, hH2, ?_, he⟩
      rcases addP_sub ha with rfl | rfl
      · simp; omega
      · simp; omega
theorem conAdd_spec (B : TidyBodies E P) {g0 g1 : Nat} {acc ps : List Ex} (hn : acc.length + ps.length ≤ 1000000) (hp : ∀ y ∈ ps, y.wt ≤ 900000 ∧ y.fine) {H : AH} (hH : PH g0 g1 acc H) :
    ACalls E P 176 [.slN (Ex.encL ps) ps.length, .fn 175 [] [.ptrL 1 0 g1, .ptrL 0 0 g0]] H fun r H' => match addAll acc ps with
      | none => r = Bo true ∧ ∃ acc', PH g0 g1 acc' H'
      | some acc' => r = Bo false ∧ PH g0 g1 acc' H' := by
  refine B.con _ _ _ _ ?_
  unfold F.slices_ContainsFunc_Lexpr_Expr_expr_Expr
  refine ⟨⟨_, ixAdd_spec B hn hp hH, ?_⟩⟩
  intro r H' hr
  cases ha : addAll acc ps with
  | none =>
    rw [ha] at hr
    obtain ⟨⟨i, rfl⟩, hH2⟩ := hr
    simp only [nd0, Y1n, Y1o, Y1p, Y1q, Y1w, Y1x, Y1y, Y1z, Y20, Y21, Y28, Y2a, AV.cells?, Nat.reduceAdd, Nat.reduceMul, decide_eq_true (show (0 : Int) ≤ (i : Int) by omega)]
    exact ⟨trivial, hH2⟩
  | some acc2 =>
    rw [ha] at hr
    obtain ⟨rfl, hH2⟩ := hr
    simp only [nd0, Y1n, Y1o, Y1p, Y1q, Y1w, Y1x, Y1y, Y1z, Y20, Y21, Y28, Y2a, AV.cells?, Nat.reduceAdd, Nat.reduceMul, show decide ((0 : Int) ≤ -1) = false from rfl]
    exact ⟨trivial, hH2⟩
/-- what 'parts' answers -/
def partsA (o : Option (List Ex)) : AV := match o with
  | none => .tup [nilS, Bo true]
  | some l => .tup [.slN (Ex.encL l) l.length, Bo false]
theorem partsA_closed (o : Option (List Ex)) : (partsA o).closed := by
  cases o with
  | none => exact ⟨trivial, trivial, trivial⟩
  | some l => exact ⟨Ex.encL_closed l, trivial, trivial⟩
set_option maxHeartbeats 2000000 in
theorem parts_spec (B : TidyBodies E P) (mode : Bool) (l : List Ex) (hl : ∀ x ∈ l, FX E P 170 [x.enc] x.tidy.enc) (hw : Ex.wtL l + 3 * l.length ≤ 900000) (hf : Ex.fineL l) :
    FX E P 173 [.slN (Ex.encL l) l.length, Bo mode] (partsA (Ex.tidyL mode l [])) := by
  refine FX.of ⟨Ex.encL_closed l, trivial, trivial⟩ (partsA_closed _) fun n R hR => B.parts _ _ _ _ ?_
  unfold F.expr_parts
  refine wNew.L (l := [nilS]) rfl ?_
  refine wNew.L (l := [nilS]) rfl ?_
  simp only [nd0, Y1n, Y1o, Y1p, Y1q, Y1w, Y1x, Y1y, Y1z, Y20, Y21, Y28, Y2a, AV.cells?, Nat.reduceAdd, Nat.reduceMul]
  have hpw : ∀ x ∈ l, ∀ ps, pieces mode x.tidy = some ps → WtS (fun x => x.wt + 3) ps ≤ x.wt + 3 := fun x hx ps h => by
    have := pieces_wt h
    have := x.tidy_le
    omega
  have hlenS : ∀ m : List Ex, 3 * m.length ≤ WtS (fun x => x.wt + 3) m := fun m => by rw [wtL_S]; omega
  have hmemS : ∀ (m : List Ex) (y : Ex), y ∈ m → y.wt ≤ WtS (fun x => x.wt + 3) m := fun m y hy => by rw [wtL_S]; have := Ex.wt_mem hy; omega
  refine wLoop.one (fun m i H => ∃ pre rest acc, l = pre ++ rest ∧ i = Z pre.length ∧ m = rest.length ∧ PH n (n + 1) acc H ∧ WtS (fun x => x.wt + 3) acc ≤ WtS (fun x => x.wt + 3) pre ∧ Ex.tidyL mode l [] = Ex.tidyL mode rest acc) l.length
    (gh1.of (ghost_room [.dead, .dead] (by simp)) ⟨[], l, [], rfl, rfl, rfl, ⟨nilS, nilS, .dead, .dead, _, rfl, .nil, .nil⟩, by simp [WtS], rfl⟩) ?_
  rintro m i H ⟨pre, rest, acc, hpr, rfl, rfl, hH, hwa, he⟩
  have hwl : WtS (fun x => x.wt + 3) l ≤ 900000 := by rw [wtL_S]; exact hw
  cases rest with
  | nil =>
    rw [List.append_nil] at hpr
    subst hpr
    simp only [nd0, Y1n, Y1o, Y1p, Y1q, Y1w, Y1x, Y1y, Y1z, Y20, Y21, Y28, Y2a, AV.cells?, Nat.reduceAdd, Nat.reduceMul, Int.lt_irrefl]
    obtain ⟨x0, x1, z0, z1, c, rfl, hg0, hg1⟩ := hH
    simp only [Ex.tidyL] at he
    simp only [nd0, Y1n, Y1o, Y1p, Y1q, Y1w, Y1x, Y1y, Y1z, Y20, Y21, Y28, Y2a, AV.cells?, Nat.reduceAdd, Nat.reduceMul]
    refine hR _ _ ?_
    rw [he]
    exact .tup (.cons (.sub hg0.sub) (FkL.same _))
  | cons x rest =>
    have hxm : x ∈ l := by rw [hpr]; simp
    have hlt : pre.length < l.length := by rw [hpr]; simp
    have hfx := Ex.tidy_fine (Ex.fine_mem hf hxm)
    simp only [nd0, Y1n, Y1o, Y1p, Y1q, Y1w, Y1x, Y1y, Y1z, Y20, Y21, Y28, Y2a, AV.cells?, Nat.reduceAdd, Nat.reduceMul, decide_eq_true (show (pre.length : Int) < (l.length : Int) by omega)]
    rw [iaddr_Nn hlt]
    simp only [nd0, Y1n, Y1o, Y1p, Y1q, Y1w, Y1x, Y1y, Y1z, Y20, Y21, Y28, Y2a, AV.cells?, Nat.reduceAdd, Nat.reduceMul, show (Ex.encL l)[pre.length]? = some x.enc by rw [Ex.encL_map, hpr]; simp]
    have hsum : WtS (fun x => x.wt + 3) pre + (x.wt + 3) ≤ 900000 := by
      have : WtS (fun x => x.wt + 3) l = WtS (fun x => x.wt + 3) pre + ((x.wt + 3) + WtS (fun x => x.wt + 3) rest) := by rw [hpr, WtS_append]; rfl
      omega
    simp only [Ex.tidyL] at he
    refine wJoin.one (fun t H => PH n (n + 1) acc H ∧ ∃ ps, pieces mode x.tidy = some ps ∧ t = .slN (Ex.encL ps) ps.length) ?_ ?_
    case refine_2 =>
      rintro t H ⟨hH, ps, hps, rfl⟩
      rw [hps] at he
      simp only at he
      have hps1 := hpw x hxm ps hps
      have h3 := hlenS acc
      have h4 := hlenS ps
      refine ⟨⟨_, conAdd_spec B (by omega) (fun y hy => ⟨by have := hmemS ps y hy; omega, pieces_fine hps hfx y hy⟩) hH, ?_⟩⟩
      intro r H' hr
      cases ha : addAll acc ps with
      | none =>
        rw [ha] at hr he
        simp only at he
        obtain ⟨rfl, acc', hH'⟩ := hr
        simp only [nd0, Y1n, Y1o, Y1p, Y1q, Y1w, Y1x, Y1y, Y1z, Y20, Y21, Y28, Y2a, AV.cells?, Nat.reduceAdd, Nat.reduceMul]
        refine hR _ _ ?_
        rw [he]
        exact .same _
      | some acc' =>
        rw [ha] at hr he
        simp only at he
        obtain ⟨rfl, hH'⟩ := hr
        simp only [nd0, Y1n, Y1o, Y1p, Y1q, Y1w, Y1x, Y1y, Y1z, Y20, Y21, Y28, Y2a, AV.cells?, Nat.reduceAdd, Nat.reduceMul]
        rw [binA_succ (by omega)]
        simp only [nd0, Y1n, Y1o, Y1p, Y1q, Y1w, Y1x, Y1y, Y1z, Y20, Y21, Y28, Y2a, AV.cells?, Nat.reduceAdd, Nat.reduceMul]
        refine back1.mk rest.length (by simp) ⟨pre ++ [x], rest, acc', by rw [hpr]; simp, by simp, rfl, hH', ?_, he⟩
        have := addAll_wt (fun x => x.wt + 3) ha
        rw [WtS_append]
        simp only [WtS]
        omega
    · obtain ⟨x0, x1, z0, z1, c, rfl, hg0, hg1⟩ := hH
      refine wCall.fx (hl x hxm) fun n2 => ?_
      have hPH : ∀ n2, PH n (n + 1) acc ⟨[.cells n 1 [x0], .cells (n + 1) 1 [x1], z0, z1], n2⟩ := fun n2 => ⟨x0, x1, z0, z1, n2, rfl, hg0, hg1⟩
      cases ht : x.tidy with
      | k b =>
        rw [ht] at he
        simp only [Ex.enc]
        simp only [nd0, Y1n, Y1o, Y1p, Y1q, Y1w, Y1x, Y1y, Y1z, Y20, Y21, Y28, Y2a, AV.cells?, Nat.reduceAdd, Nat.reduceMul, asA, show (11 : Nat) = 11 ↔ True by decide]
        simp only [pieces] at he
        by_cases hb : b = mode
        · subst hb
          simp only [nd0, Y1n, Y1o, Y1p, Y1q, Y1w, Y1x, Y1y, Y1z, Y20, Y21, Y28, Y2a, AV.cells?, Nat.reduceAdd, Nat.reduceMul, eqA_bool, beq_self_eq_true]
          exact gh1.of (ghost_sub (.one .nil)) ⟨hPH n2, [], by simp [pieces], rfl⟩
        · rw [if_neg hb] at he
          simp only [nd0, Y1n, Y1o, Y1p, Y1q, Y1w, Y1x, Y1y, Y1z, Y20, Y21, Y28, Y2a, AV.cells?, Nat.reduceAdd, Nat.reduceMul, eqA_bool, show (b == mode) = false by simpa using hb]
          refine hR _ _ ?_
          rw [he]
          exact .same _
      | and l' =>
        simp only [Ex.enc]
        simp only [nd0, Y1n, Y1o, Y1p, Y1q, Y1w, Y1x, Y1y, Y1z, Y20, Y21, Y28, Y2a, AV.cells?, Nat.reduceAdd, Nat.reduceMul, asA, show (9 : Nat) = 11 ↔ False by decide, show (9 : Nat) = 9 ↔ True by decide]
        refine wNewS.F' (l := [(Ex.and l').enc]) rfl rfl ?_
        cases mode with
        | true => simp only [nd0, Y1n, Y1o, Y1p, Y1q, Y1w, Y1x, Y1y, Y1z, Y20, Y21, Y28, Y2a, AV.cells?, Nat.reduceAdd, Nat.reduceMul]; exact gh1.mk ⟨hPH n2, l', rfl, rfl⟩
        | false => simp only [nd0, Y1n, Y1o, Y1p, Y1q, Y1w, Y1x, Y1y, Y1z, Y20, Y21, Y28, Y2a, AV.cells?, Nat.reduceAdd, Nat.reduceMul]; exact gh1.mk ⟨hPH n2, [.and l'], rfl, rfl⟩
      | or l' =>
        simp only [Ex.enc]
        simp only [nd0, Y1n, Y1o, Y1p, Y1q, Y1w, Y1x, Y1y, Y1z, Y20, Y21, Y28, Y2a, AV.cells?, Nat.reduceAdd, Nat.reduceMul, asA, show (8 : Nat) = 11 ↔ False by decide, show (8 : Nat) = 9 ↔ False by decide, show (8 : Nat) = 8 ↔ True by decide]
        refine wNewS.F' (l := [(Ex.or l').enc]) rfl rfl ?_
        cases mode with
        | true => simp only [nd0, Y1n, Y1o, Y1p, Y1q, Y1w, Y1x, Y1y, Y1z, Y20, Y21, Y28, Y2a, AV.cells?, Nat.reduceAdd, Nat.reduceMul]; exact gh1.mk ⟨hPH n2, [.or l'], rfl, rfl⟩
        | false => simp only [nd0, Y1n, Y1o, Y1p, Y1q, Y1w, Y1x, Y1y, Y1z, Y20, Y21, Y28, Y2a, AV.cells?, Nat.reduceAdd, Nat.reduceMul]; exact gh1.mk ⟨hPH n2, l', rfl, rfl⟩
      | not y =>
        simp only [Ex.enc]
        simp only [nd0, Y1n, Y1o, Y1p, Y1q, Y1w, Y1x, Y1y, Y1z, Y20, Y21, Y28, Y2a, AV.cells?, Nat.reduceAdd, Nat.reduceMul, asA, show (10 : Nat) = 11 ↔ False by decide, show (10 : Nat) = 9 ↔ False by decide, show (10 : Nat) = 8 ↔ False by decide]
        refine wNewS.F' (l := [(Ex.not y).enc]) rfl rfl ?_
        exact gh1.mk ⟨hPH n2, [.not y], rfl, rfl⟩
      | bit y =>
        simp only [Ex.enc]
        simp only [nd0, Y1n, Y1o, Y1p, Y1q, Y1w, Y1x, Y1y, Y1z, Y20, Y21, Y28, Y2a, AV.cells?, Nat.reduceAdd, Nat.reduceMul, asA, show (14 : Nat) = 11 ↔ False by decide, show (14 : Nat) = 9 ↔ False by decide, show (14 : Nat) = 8 ↔ False by decide]
        refine wNewS.F' (l := [(Ex.bit y).enc]) rfl rfl ?_
        exact gh1.mk ⟨hPH n2, [.bit y], rfl, rfl⟩
      | rise y =>
        simp only [Ex.enc]
        simp only [nd0, Y1n, Y1o, Y1p, Y1q, Y1w, Y1x, Y1y, Y1z, Y20, Y21, Y28, Y2a, AV.cells?, Nat.reduceAdd, Nat.reduceMul, asA, show (12 : Nat) = 11 ↔ False by decide, show (12 : Nat) = 9 ↔ False by decide, show (12 : Nat) = 8 ↔ False by decide]
        refine wNewS.F' (l := [(Ex.rise y).enc]) rfl rfl ?_
        exact gh1.mk ⟨hPH n2, [.rise y], rfl, rfl⟩
      | fall y =>
        simp only [Ex.enc]
        simp only [nd0, Y1n, Y1o, Y1p, Y1q, Y1w, Y1x, Y1y, Y1z, Y20, Y21, Y28, Y2a, AV.cells?, Nat.reduceAdd, Nat.reduceMul, asA, show (13 : Nat) = 11 ↔ False by decide, show (13 : Nat) = 9 ↔ False by decide, show (13 : Nat) = 8 ↔ False by decide]
        refine wNewS.F' (l := [(Ex.fall y).enc]) rfl rfl ?_
        exact gh1.mk ⟨hPH n2, [.fall y], rfl, rfl⟩
set_option maxHeartbeats 2000000 in
theorem Tidy_spec (B : TidyBodies E P) : ∀ (n : Nat) (x : Ex), x.wt < n → x.wt ≤ 900000 → x.fine → FX E P 170 [x.enc] x.tidy.enc := by
  intro n
  induction n with
  | zero => intro x h; omega
  | succ n ih =>
    intro x hx hw hf
    refine FX.of' ⟨Ex.enc_closed x, trivial⟩ (Ex.enc_closed _) fun c R hR => B.tidy _ _ _ ?_
    unfold F.expr_Tidy
    have i0 : ∀ (y : AV), iaddr 1 (.slN [y] 1) (.val (.int .i64 0)) = some (.ptrF [y] 0) := fun _ => rfl
    cases x with
    | k b => simp only [Ex.enc]; simp only [nd0, Y1n, Y1o, Y1p, Y1q, Y1w, Y1x, Y1y, Y1z, Y20, Y21, Y28, Y2a, AV.cells?, Nat.reduceAdd, Nat.reduceMul, asA, show (11 : Nat) = 10 ↔ False by decide, show (11 : Nat) = 9 ↔ False by decide, show (11 : Nat) = 8 ↔ False by decide]; exact hR _ _ rfl
    | bit b => simp only [Ex.enc]; simp only [nd0, Y1n, Y1o, Y1p, Y1q, Y1w, Y1x, Y1y, Y1z, Y20, Y21, Y28, Y2a, AV.cells?, Nat.reduceAdd, Nat.reduceMul, asA, show (14 : Nat) = 10 ↔ False by decide, show (14 : Nat) = 9 ↔ False by decide, show (14 : Nat) = 8 ↔ False by decide]; exact hR _ _ rfl
    | rise b => simp only [Ex.enc]; simp only [nd0, Y1n, Y1o, Y1p, Y1q, Y1w, Y1x, Y1y, Y1z, Y20, Y21, Y28, Y2a, AV.cells?, Nat.reduceAdd, Nat.reduceMul, asA, show (12 : Nat) = 10 ↔ False by decide, show (12 : Nat) = 9 ↔ False by decide, show (12 : Nat) = 8 ↔ False by decide]; exact hR _ _ rfl
    | fall b => simp only [Ex.enc]; simp only [nd0, Y1n, Y1o, Y1p, Y1q, Y1w, Y1x, Y1y, Y1z, Y20, Y21, Y28, Y2a, AV.cells?, Nat.reduceAdd, Nat.reduceMul, asA, show (13 : Nat) = 10 ↔ False by decide, show (13 : Nat) = 9 ↔ False by decide, show (13 : Nat) = 8 ↔ False by decide]; exact hR _ _ rfl
    | not y =>
      simp only [Ex.wt] at hx hw
      simp only [Ex.enc]
      simp only [nd0, Y1n, Y1o, Y1p, Y1q, Y1w, Y1x, Y1y, Y1z, Y20, Y21, Y28, Y2a, AV.cells?, Nat.reduceAdd, Nat.reduceMul, asA, show (10 : Nat) = 10 ↔ True by decide]
      refine wNew.L (l := [nilE]) rfl ?_
      simp only [nd0, Y1n, Y1o, Y1p, Y1q, Y1w, Y1x, Y1y, Y1z, Y20, Y21, Y28, Y2a, AV.cells?, Nat.reduceAdd, Nat.reduceMul]
      rw [storeN_L (n := 1) (xs := [y.enc]) rfl (by simp [Ex.enc_scalar])]
      simp only [nd0, Y1n, Y1o, Y1p, Y1q, Y1w, Y1x, Y1y, Y1z, Y20, Y21, Y28, Y2a, AV.cells?, Nat.reduceAdd, Nat.reduceMul, show putL [nilE] 0 [y.enc] = some [y.enc] from rfl]
      refine wCall.fx (ih y (by omega) (by omega) hf) fun n2 => ?_
      simp only [Ex.tidy] at hR
      cases ht : y.tidy with
      | k b =>
        rw [ht] at hR
        simp only [Ex.enc]
        simp only [nd0, Y1n, Y1o, Y1p, Y1q, Y1w, Y1x, Y1y, Y1z, Y20, Y21, Y28, Y2a, AV.cells?, Nat.reduceAdd, Nat.reduceMul, asA, show (11 : Nat) = 11 ↔ True by decide]
        exact hR _ _ rfl
      | not w =>
        rw [ht] at hR
        simp only [Ex.enc]
        simp only [nd0, Y1n, Y1o, Y1p, Y1q, Y1w, Y1x, Y1y, Y1z, Y20, Y21, Y28, Y2a, AV.cells?, Nat.reduceAdd, Nat.reduceMul, asA, show (10 : Nat) = 11 ↔ False by decide, show (10 : Nat) = 10 ↔ True by decide]
        refine wNew.L (l := [nilE]) rfl ?_
        simp only [nd0, Y1n, Y1o, Y1p, Y1q, Y1w, Y1x, Y1y, Y1z, Y20, Y21, Y28, Y2a, AV.cells?, Nat.reduceAdd, Nat.reduceMul]
        rw [storeN_L (n := 1) (xs := [w.enc]) rfl (by simp [Ex.enc_scalar])]
        simp only [nd0, Y1n, Y1o, Y1p, Y1q, Y1w, Y1x, Y1y, Y1z, Y20, Y21, Y28, Y2a, AV.cells?, Nat.reduceAdd, Nat.reduceMul, show putL [nilE] 0 [w.enc] = some [w.enc] from rfl]
        exact hR _ _ rfl
      | bit w =>
        rw [ht] at hR
        simp only [Ex.enc]
        simp only [nd0, Y1n, Y1o, Y1p, Y1q, Y1w, Y1x, Y1y, Y1z, Y20, Y21, Y28, Y2a, AV.cells?, Nat.reduceAdd, Nat.reduceMul, asA, show (14 : Nat) = 11 ↔ False by decide, show (14 : Nat) = 10 ↔ False by decide, show fillA [nilE] [(0, 1, .ifc 14 (S w))] = some [.ifc 14 (S w)] from rfl]
        exact hR _ _ rfl
      | rise w =>
        rw [ht] at hR
        simp only [Ex.enc]
        simp only [nd0, Y1n, Y1o, Y1p, Y1q, Y1w, Y1x, Y1y, Y1z, Y20, Y21, Y28, Y2a, AV.cells?, Nat.reduceAdd, Nat.reduceMul, asA, show (12 : Nat) = 11 ↔ False by decide, show (12 : Nat) = 10 ↔ False by decide, show fillA [nilE] [(0, 1, .ifc 12 (S w))] = some [.ifc 12 (S w)] from rfl]
        exact hR _ _ rfl
      | fall w =>
        rw [ht] at hR
        simp only [Ex.enc]
        simp only [nd0, Y1n, Y1o, Y1p, Y1q, Y1w, Y1x, Y1y, Y1z, Y20, Y21, Y28, Y2a, AV.cells?, Nat.reduceAdd, Nat.reduceMul, asA, show (13 : Nat) = 11 ↔ False by decide, show (13 : Nat) = 10 ↔ False by decide, show fillA [nilE] [(0, 1, .ifc 13 (S w))] = some [.ifc 13 (S w)] from rfl]
        exact hR _ _ rfl
      | and l =>
        rw [ht] at hR
        simp only [Ex.enc]
        simp only [nd0, Y1n, Y1o, Y1p, Y1q, Y1w, Y1x, Y1y, Y1z, Y20, Y21, Y28, Y2a, AV.cells?, Nat.reduceAdd, Nat.reduceMul, asA, show (9 : Nat) = 11 ↔ False by decide, show (9 : Nat) = 10 ↔ False by decide, show fillA [nilE] [(0, 1, .ifc 9 (.slN (Ex.encL l) l.length))] = some [.ifc 9 (.slN (Ex.encL l) l.length)] from rfl]
        exact hR _ _ rfl
      | or l =>
        rw [ht] at hR
        simp only [Ex.enc]
        simp only [nd0, Y1n, Y1o, Y1p, Y1q, Y1w, Y1x, Y1y, Y1z, Y20, Y21, Y28, Y2a, AV.cells?, Nat.reduceAdd, Nat.reduceMul, asA, show (8 : Nat) = 11 ↔ False by decide, show (8 : Nat) = 10 ↔ False by decide, show fillA [nilE] [(0, 1, .ifc 8 (.slN (Ex.encL l) l.length))] = some [.ifc 8 (.slN (Ex.encL l) l.length)] from rfl]
        exact hR _ _ rfl
    | and l =>
      simp only [Ex.wt] at hx hw
      simp only [Ex.enc]
      simp only [nd0, Y1n, Y1o, Y1p, Y1q, Y1w, Y1x, Y1y, Y1z, Y20, Y21, Y28, Y2a, AV.cells?, Nat.reduceAdd, Nat.reduceMul, asA, show (9 : Nat) = 10 ↔ False by decide, show (9 : Nat) = 9 ↔ True by decide]
      refine wCall.fx (parts_spec B true l (fun y hy => ih y (by have := Ex.wt_mem hy; omega) (by have := Ex.wt_mem hy; omega) (Ex.fine_mem hf.2 hy)) (by omega) hf.2) fun n2 => ?_
      simp only [Ex.tidy] at hR
      cases ho : Ex.tidyL true l [] with
      | none => rw [ho] at hR; simp only [partsA]; simp only [nd0, Y1n, Y1o, Y1p, Y1q, Y1w, Y1x, Y1y, Y1z, Y20, Y21, Y28, Y2a, AV.cells?, Nat.reduceAdd, Nat.reduceMul]; exact hR _ _ rfl
      | some l' =>
        rw [ho] at hR
        simp only [partsA]
        simp only [nd0, Y1n, Y1o, Y1p, Y1q, Y1w, Y1x, Y1y, Y1z, Y20, Y21, Y28, Y2a, AV.cells?, Nat.reduceAdd, Nat.reduceMul]
        match l', hR with
        | [], hR => simp only [nd0, Y1n, Y1o, Y1p, Y1q, Y1w, Y1x, Y1y, Y1z, Y20, Y21, Y28, Y2a, AV.cells?, Nat.reduceAdd, Nat.reduceMul, show decide (((0 : Nat) : Int) = 0) = true from rfl]; exact hR _ _ rfl
        | [y], hR =>
          simp only [nd0, Y1n, Y1o, Y1p, Y1q, Y1w, Y1x, Y1y, Y1z, Y20, Y21, Y28, Y2a, AV.cells?, Nat.reduceAdd, Nat.reduceMul, i0, Ex.encL, show decide (((1 : Nat) : Int) = 0) = false from rfl, show decide (((1 : Nat) : Int) = 1) = true from rfl]
          exact hR _ _ rfl
        | y :: z :: r, hR =>
          simp only [nd0, Y1n, Y1o, Y1p, Y1q, Y1w, Y1x, Y1y, Y1z, Y20, Y21, Y28, Y2a, AV.cells?, Nat.reduceAdd, Nat.reduceMul, decide_eq_false (show ¬ ((((y :: z :: r) : List Ex).length : Int) = 0) by simp; omega), decide_eq_false (show ¬ ((((y :: z :: r) : List Ex).length : Int) = 1) by simp; omega), decide_eq_false (show ¬ (((r.length + 1 + 1 : Nat) : Int) = 0) by omega), decide_eq_false (show ¬ (((r.length + 1 + 1 : Nat) : Int) = 1) by omega)]
          exact hR _ _ rfl
    | or l =>
      simp only [Ex.wt] at hx hw
      simp only [Ex.enc]
      simp only [nd0, Y1n, Y1o, Y1p, Y1q, Y1w, Y1x, Y1y, Y1z, Y20, Y21, Y28, Y2a, AV.cells?, Nat.reduceAdd, Nat.reduceMul, asA, show (8 : Nat) = 10 ↔ False by decide, show (8 : Nat) = 9 ↔ False by decide, show (8 : Nat) = 8 ↔ True by decide]
      refine wCall.fx (parts_spec B false l (fun y hy => ih y (by have := Ex.wt_mem hy; omega) (by have := Ex.wt_mem hy; omega) (Ex.fine_mem hf.2 hy)) (by omega) hf.2) fun n2 => ?_
      simp only [Ex.tidy] at hR
      cases ho : Ex.tidyL false l [] with
      | none => rw [ho] at hR; simp only [partsA]; simp only [nd0, Y1n, Y1o, Y1p, Y1q, Y1w, Y1x, Y1y, Y1z, Y20, Y21, Y28, Y2a, AV.cells?, Nat.reduceAdd, Nat.reduceMul]; exact hR _ _ rfl
      | some l' =>
        rw [ho] at hR
        simp only [partsA]
        simp only [nd0, Y1n, Y1o, Y1p, Y1q, Y1w, Y1x, Y1y, Y1z, Y20, Y21, Y28, Y2a, AV.cells?, Nat.reduceAdd, Nat.reduceMul]
        match l', hR with
        | [], hR => simp only [nd0, Y1n, Y1o, Y1p, Y1q, Y1w, Y1x, Y1y, Y1z, Y20, Y21, Y28, Y2a, AV.cells?, Nat.reduceAdd, Nat.reduceMul, show decide (((0 : Nat) : Int) = 0) = true from rfl]; exact hR _ _ rfl
        | [y], hR =>
          simp only [nd0, Y1n, Y1o, Y1p, Y1q, Y1w, Y1x, Y1y, Y1z, Y20, Y21, Y28, Y2a, AV.cells?, Nat.reduceAdd, Nat.reduceMul, i0, Ex.encL, show decide (((1 : Nat) : Int) = 0) = false from rfl, show decide (((1 : Nat) : Int) = 1) = true from rfl]
          exact hR _ _ rfl
        | y :: z :: r, hR =>
          simp only [nd0, Y1n, Y1o, Y1p, Y1q, Y1w, Y1x, Y1y, Y1z, Y20, Y21, Y28, Y2a, AV.cells?, Nat.reduceAdd, Nat.reduceMul, decide_eq_false (show ¬ (((r.length + 1 + 1 : Nat) : Int) = 0) by omega), decide_eq_false (show ¬ (((r.length + 1 + 1 : Nat) : Int) = 1) by omega)]
          exact hR _ _ rfl
end
end Go.Sc
namespace Go.Sc
open Go
set_option linter.unusedSimpArgs false
set_option linter.unusedVariables false
set_option linter.unnecessarySimpa false
/-! ### bits -/
def ixN (L : List Str) (s : Str) : Nat := (idx L s).toNat
theorem mem_split {L : List Str} {s : Str} (h : s ∈ L) : ∃ pre rest, L = pre ++ s :: rest ∧ s ∉ pre := by
  induction L with
  | nil => simp at h
  | cons a l ih =>
    by_cases e : s = a
    · subst e; exact ⟨[], l, rfl, by simp⟩
    · obtain ⟨pre, rest, h1, h2⟩ := ih (by simpa [e] using h)
      exact ⟨a :: pre, rest, by rw [h1]; rfl, by simp [e, h2]⟩
theorem ixN_app {pre rest : List Str} {s : Str} (hn : s ∉ pre) : ixN (pre ++ s :: rest) s = pre.length := by unfold ixN; rw [idx_app hn]; simp
theorem ixN_lt {L : List Str} {s : Str} (h : s ∈ L) : ixN L s < L.length := by
  obtain ⟨pre, rest, rfl, hn⟩ := mem_split h
  rw [ixN_app hn]; simp
theorem ixN_get {L : List Str} {s : Str} (h : s ∈ L) : L[ixN L s]? = some s := by
  obtain ⟨pre, rest, rfl, hn⟩ := mem_split h
  rw [ixN_app hn]; simp
/-- what an expression says of values of some names -/
def sv (x : Ex) (L : List Str) (v : Nat) : Bool := x.says (fun s => v.testBit (ixN L s)) (fun s => v.testBit (ixN L s))
section
variable {E : Env} {P : Program}
def cond (x : Ex) (k v : Nat) : Bool := !v.testBit k && (sv x x.names v != sv x x.names (v ||| 2 ^ k))
end
end Go.Sc
namespace Go.Sc.F
open Go Go.Sc
set_option linter.unusedVariables false
/-- signalbox/signalboxkeep.GateTidy -/
def keep_GateTidy (E : Env) (P : Program) (a0 a1 a2 a3 : AV) (H : AH) (R : Kt) : Prop :=
  wGet (lenS a0) H fun t18 H =>
  wGet (binA .gtr t18 (.val (.int .i64 200))) H fun t19 H =>
  wGuard t19 false H (fun k => k a1 H) fun t21 H =>
  wGuard t19 false H (fun k => wGet (lenS t21) H k) fun t22 H =>
  wGuard t19 false H (fun k => wGet (binA .gtr t22 (.val (.int .i64 200))) H k) fun t23 H =>
  wGet (pickA t19 (.val (.bool true)) t23) H fun t24 H =>
  wGuard t24 false H (fun k => k a2 H) fun t26 H =>
  wGuard t24 false H (fun k => wGet (lenA t26) H k) fun t27 H =>
  wGuard t24 false H (fun k => wGet (binA .gtr t27 (.val (.int .i64 20))) H k) fun t28 H =>
  wGet (pickA t24 (.val (.bool true)) t28) H fun t29 H =>
  wGuard t29 false H (fun k => k a3 H) fun t31 H =>
  wGuard t29 false H (fun k => wGet (lenA t31) H k) fun t32 H =>
  wGuard t29 false H (fun k => wGet (binA .gtr t32 (.val (.int .i64 20))) H k) fun t33 H =>
  wGet (pickA t29 (.val (.bool true)) t33) H fun t34 H =>
  wIf t34 (
    R (.val (.bool true)) H) (
    wCall E P 126 [a0] H fun t37 H =>
    wGet (extractA t37 0) H fun t38 H =>
    wGet (extractA t37 1) H fun t39 H =>
    wCall E P 126 [a1] H fun t42 H =>
    wGet (extractA t42 0) H fun t43 H =>
    wGet (extractA t42 1) H fun t44 H =>
    wCall E P 230 [] H fun t45 H =>
    wGet (unA .not t45) H fun t46 H =>
    wGuard t46 false H (fun k => k t39 H) fun t48 H =>
    wGuard t46 false H (fun k => wBool (eqA .iface t48 (.val (.nilIface))) H true k) fun t49 H =>
    wGet (pickA t46 (.val (.bool true)) t49) H fun t50 H =>
    wGuard t50 false H (fun k => k t44 H) fun t52 H =>
    wGuard t50 false H (fun k => wBool (eqA .iface t52 (.val (.nilIface))) H true k) fun t53 H =>
    wGet (pickA t50 (.val (.bool true)) t53) H fun t54 H =>
    wIf t54 (
      wCall E P 230 [] H fun t55 H =>
      R t55 H) (
      wCall E P 181 [t38] H fun t57 H =>
      wGet (lenA t57) H fun t58 H =>
      wCall E P 184 [t38] H fun t60 H =>
      wGet (lenA t60) H fun t61 H =>
      wGet (binA .add t58 t61) H fun t62 H =>
      wCall E P 181 [t43] H fun t64 H =>
      wGet (lenA t64) H fun t65 H =>
      wGet (binA .add t62 t65) H fun t66 H =>
      wCall E P 184 [t43] H fun t68 H =>
      wGet (lenA t68) H fun t69 H =>
      wGet (binA .add t66 t69) H fun t70 H =>
      wGet (binA .gtr t70 (.val (.int .i64 6))) H fun t71 H =>
      wGuard t71 false H (fun k => k t38 H) fun t73 H =>
      wGuard t71 false H (fun k => wCall E P 156 [t73] H k) fun t74 H =>
      wGuard t71 false H (fun k => wGet (binA .gtr t74 (.val (.int .i64 60))) H k) fun t75 H =>
      wGet (pickA t71 (.val (.bool true)) t75) H fun t76 H =>
      wGuard t76 false H (fun k => k t38 H) fun t78 H =>
      wGuard t76 false H (fun k => wCall E P 156 [t78] H k) fun t79 H =>
      wGuard t76 false H (fun k => k t43 H) fun t80 H =>
      wGuard t76 false H (fun k => wCall E P 156 [t80] H k) fun t81 H =>
      wGuard t76 false H (fun k => wGet (binA .add t79 t81) H k) fun t82 H =>
      wGuard t76 false H (fun k => wGet (binA .gtr t82 (.val (.int .i64 80))) H k) fun t83 H =>
      wGet (pickA t76 (.val (.bool true)) t83) H fun t84 H =>
      wIf t84 (
        R (.val (.bool true)) H) (
        wCall E P 170 [t38] H fun t88 H =>
        wCall E P 231 [t38, t88] H fun t89 H =>
        wGet (extractA t89 0) H fun t90 H =>
        wGet (extractA t89 1) H fun t91 H =>
        wCall E P 231 [t38, t43] H fun t95 H =>
        wGet (extractA t95 0) H fun t96 H =>
        wGet (extractA t95 1) H fun t97 H =>
        wCall E P 231 [t43, t38] H fun t101 H =>
        wGet (extractA t101 0) H fun t102 H =>
        wGet (extractA t101 1) H fun t103 H =>
        wBool (eqA .iface t91 (.val (.nilIface))) H false fun t105 H =>
        wGuard t105 true H (fun k => k t97 H) fun t107 H =>
        wGuard t105 true H (fun k => wBool (eqA .iface t107 (.val (.nilIface))) H false k) fun t108 H =>
        wGet (pickA t105 t108 (.val (.bool false))) H fun t109 H =>
        wGuard t109 true H (fun k => k t103 H) fun t111 H =>
        wGuard t109 true H (fun k => wBool (eqA .iface t111 (.val (.nilIface))) H false k) fun t112 H =>
        wGet (pickA t109 t112 (.val (.bool false))) H fun t113 H =>
        wGuard t113 true H (fun k => k t90 H) fun t115 H =>
        wGet (pickA t113 t115 (.val (.bool false))) H fun t116 H =>
        wGuard t116 true H (fun k => k t96 H) fun t118 H =>
        wGuard t116 true H (fun k => k t102 H) fun t119 H =>
        wGuard t116 true H (fun k => wBool (eqA .bool t118 t119) H false k) fun t120 H =>
        wGet (pickA t116 t120 (.val (.bool false))) H fun t121 H =>
        wGuard t121 true H (fun k => k t96 H) fun t123 H =>
        wGuard t121 true H (fun k => wGet (unA .not t123) H k) fun t124 H =>
        wGuard t121 true H (fun k => k t124 H) fun t125 H =>
        wGuard t125 false H (fun k => k t38 H) fun t126 H =>
        wGuard t125 false H (fun k => k a2 H) fun t127 H =>
        wGuard t125 false H (fun k => wCall E P 157 [t127] H k) fun t128 H =>
        wGuard t125 false H (fun k => k a3 H) fun t129 H =>
        wGuard t125 false H (fun k => wCall E P 157 [t129] H k) fun t130 H =>
        wGuard t125 false H (fun k => wCall E P 158 [t126, t128, t130] H k) fun t131 H =>
        wGuard t125 false H (fun k => k t43 H) fun t132 H =>
        wGuard t125 false H (fun k => k a2 H) fun t133 H =>
        wGuard t125 false H (fun k => wCall E P 157 [t133] H k) fun t134 H =>
        wGuard t125 false H (fun k => k a3 H) fun t135 H =>
        wGuard t125 false H (fun k => wCall E P 157 [t135] H k) fun t136 H =>
        wGuard t125 false H (fun k => wCall E P 158 [t132, t134, t136] H k) fun t137 H =>
        wGuard t125 false H (fun k => wBool (eqA .bool t131 t137) H false k) fun t138 H =>
        wGuard t121 true H (fun k => wGet (pickA t125 (.val (.bool true)) t138) H k) fun t139 H =>
        wGet (pickA t121 t139 (.val (.bool false))) H fun t140 H =>
        R t140 H)))

/-- signalbox/signalboxkeep.gated -/
def keep_gated (E : Env) (P : Program) (H : AH) (R : Kt) : Prop :=
  wCall E P 126 [(.val (.string ⟨#[33, 40, 97, 32, 38, 32, 98, 41]⟩))] H fun t10 H =>
  wGet (extractA t10 0) H fun t11 H =>
  wGet (extractA t10 1) H fun t12 H =>
  wCall E P 126 [(.val (.string ⟨#[33, 97, 32, 124, 32, 33, 98]⟩))] H fun t14 H =>
  wGet (extractA t14 0) H fun t15 H =>
  wGet (extractA t14 1) H fun t16 H =>
  wCall E P 126 [(.val (.string ⟨#[33, 97, 32, 38, 32, 33, 98]⟩))] H fun t18 H =>
  wGet (extractA t18 0) H fun t19 H =>
  wGet (extractA t18 1) H fun t20 H =>
  wBool (eqA .iface t12 (.val (.nilIface))) H true fun t22 H =>
  wGuard t22 false H (fun k => k t16 H) fun t24 H =>
  wGuard t22 false H (fun k => wBool (eqA .iface t24 (.val (.nilIface))) H true k) fun t25 H =>
  wGet (pickA t22 (.val (.bool true)) t25) H fun t26 H =>
  wGuard t26 false H (fun k => k t20 H) fun t28 H =>
  wGuard t26 false H (fun k => wBool (eqA .iface t28 (.val (.nilIface))) H true k) fun t29 H =>
  wGet (pickA t26 (.val (.bool true)) t29) H fun t30 H =>
  wIf t30 (
    R (.val (.bool false)) H) (
    wCall E P 231 [t11, t15] H fun t34 H =>
    wGet (extractA t34 0) H fun t35 H =>
    wGet (extractA t34 1) H fun t36 H =>
    wCall E P 231 [t11, t19] H fun t40 H =>
    wGet (extractA t40 0) H fun t41 H =>
    wGet (extractA t40 1) H fun t42 H =>
    wBool (eqA .iface t36 (.val (.nilIface))) H false fun t44 H =>
    wGuard t44 true H (fun k => k t42 H) fun t46 H =>
    wGuard t44 true H (fun k => wBool (eqA .iface t46 (.val (.nilIface))) H false k) fun t47 H =>
    wGet (pickA t44 t47 (.val (.bool false))) H fun t48 H =>
    wGuard t48 true H (fun k => k t35 H) fun t50 H =>
    wGet (pickA t48 t50 (.val (.bool false))) H fun t51 H =>
    wGuard t51 true H (fun k => k t41 H) fun t53 H =>
    wGuard t51 true H (fun k => wGet (unA .not t53) H k) fun t54 H =>
    wGet (pickA t51 t54 (.val (.bool false))) H fun t55 H =>
    R t55 H)

/-- signalbox/gate.Same -/
def gate_Same (E : Env) (P : Program) (a0 a1 : AV) (H : AH) (R : Kt) : Prop :=
  wBool (eqA .iface a0 (.val (.nilIface))) H false fun t11 H =>
  wGuard t11 false H (fun k => k a1 H) fun t13 H =>
  wGuard t11 false H (fun k => wBool (eqA .iface t13 (.val (.nilIface))) H false k) fun t14 H =>
  wGet (pickA t11 (.val (.bool true)) t14) H fun t15 H =>
  wIf t15 (
    R (.tup [(.val (.bool false)), (.ifc 1 (.val (.int .i64 7)))]) H) (
    wAgg (fillA [(.val (.nilIface))] [(0, 1, a1)]) H fun t19 H =>
    wNewS 1 2 (fillA (List.replicate 2 [(.val (.nilIface))]).flatten [(0, 1, a0), (1, 1, (.ifc 10 t19))]) H fun t21 H =>
    wAgg (fillA [(.val (.nilIface))] [(0, 1, a0)]) H fun t24 H =>
    wNewS 1 2 (fillA (List.replicate 2 [(.val (.nilIface))]).flatten [(0, 1, (.ifc 10 t24)), (1, 1, a1)]) H fun t27 H =>
    wNewS 1 2 (fillA (List.replicate 2 [(.val (.nilIface))]).flatten [(0, 1, (.ifc 9 t21)), (1, 1, (.ifc 9 t27))]) H fun t29 H =>
    wCall E P 233 [(.ifc 8 t29)] H fun t33 H =>
    wGet (extractA t33 0) H fun t34 H =>
    wGet (extractA t33 1) H fun t35 H =>
    wGet (extractA t33 2) H fun t36 H =>
    wNew 2 (some [(.val (.int .i64 0)), (.val (.slice none 0 0))]) H fun t7 H =>
    wPut (storeN 2 t7 t34 H) fun _u H =>
    wBool (eqA .iface t36 (.val (.nilIface))) H true fun t38 H =>
    wIf t38 (
      R (.tup [(.val (.bool false)), t36]) H) (
      wGet (faddr 1 t7) H fun t40 H =>
      wGet (load1 t40 H) H fun t41 H =>
      wNewS 1 1 (fillA (List.replicate 1 [(.val (.int .i64 0))]).flatten [(0, 1, t35)]) H fun t43 H =>
      wNewS 1 1 (fillA (List.replicate 1 [(.val (.slice none 0 0))]).flatten [(0, 1, t43)]) H fun t44 H =>
      wApp 1 24 t41 t44 H fun t45 H =>
      wGet (faddr 1 t7) H fun t46 H =>
      wPut (store1 t46 t45 H) fun _u H =>
      wGet (loadN 2 t7 H) H fun t48 H =>
      wCall E P 100 [t48] H fun t49 H =>
      wGet (extractA t49 0) H fun t50 H =>
      wGet (extractA t49 1) H fun t51 H =>
      wCall E P 53 [t51] H fun t53 H =>
      wGet (binA .eql t53 (.val (.int .i64 0))) H fun t55 H =>
      wIf t55 (
        R (.tup [(.val (.bool false)), (.val (.nilIface))]) H) (
        wGet (binA .eql t53 (.val (.int .i64 8))) H fun t57 H =>
        wIf t57 (
          R (.tup [(.val (.bool true)), (.val (.nilIface))]) H) (
          R (.tup [(.val (.bool false)), t51]) H))))

/-- signalbox/gate.Of -/
def gate_Of (E : Env) (P : Program) (a0 : AV) (H : AH) (R : Kt) : Prop :=
  wNew 2 (some [(.val (.int .i64 0)), (.val (.slice none 0 0))]) H fun t2 H =>
  wBool (eqA .iface a0 (.val (.nilIface))) H false fun t12 H =>
  wIf t12 (
    wAgg (fillA [(.val (.int .i64 0)), (.val (.slice none 0 0))] []) H fun t13 H =>
    wPut (storeN 2 t2 t13 H) fun _u H =>
    wGet (retPack [loadN 2 t2 H, some (.val (.int .i64 0)), some (.ifc 1 (.val (.int .i64 7)))]) H R) (
    wCall E P 156 [a0] H fun t16 H =>
    wGet (binA .gtr t16 (.val (.int .i64 300))) H fun t17 H =>
    wIf t17 (
      wAgg (fillA [(.val (.int .i64 0)), (.val (.slice none 0 0))] []) H fun t18 H =>
      wPut (storeN 2 t2 t18 H) fun _u H =>
      wGet (retPack [loadN 2 t2 H, some (.val (.int .i64 0)), some (.ifc 1 (.val (.int .i64 4)))]) H R) (
      wMapN H fun t20 H =>
      wAgg (fillA [(.val (.int .i64 0)), (.val (.slice none 0 0)), (.val (.map none))] [(2, 1, t20)]) H fun t21 H =>
      wNew 3 (AV.cells? t21) H fun t22 H =>
      wCall E P 181 [a0] H fun t24 H =>
      wGet (lenA t24) H fun t25 H =>
      wLoop 1 (fun I1 => I1 (.val (.int .i64 0)) H) fun I1 t26 H =>
        wGet (binA .lss t26 t25) H fun t27 H =>
        wIf t27 (
          wGet (iaddr 1 t24 t26) H fun t28 H =>
          wGet (load1 t28 H) H fun t29 H =>
          wGet (nilA t22) H fun t31 H =>
          wGet (faddr 2 t31) H fun t32 H =>
          wGet (load1 t32 H) H fun t33 H =>
          wCall E P 234 [t22] H fun t36 H =>
          (wGet (load1 t32 H) H (fun y H2 => y = t33 ∧ H2 = H)) ∧
          wPut (insertA .string t33 t29 t36 H) fun _u H =>
          wGet (binA .add t26 (.val (.int .i64 1))) H fun t37 H =>
          I1 t37 H) (
          wCall E P 184 [a0] H fun t39 H =>
          wGet (lenA t39) H fun t40 H =>
          wLoop 1 (fun I2 => I2 (.val (.int .i64 0)) H) fun I2 t41 H =>
            wGet (binA .lss t41 t40) H fun t42 H =>
            wIf t42 (
              wGet (iaddr 1 t39 t41) H fun t43 H =>
              wGet (load1 t43 H) H fun t44 H =>
              wGet (nilA t22) H fun t46 H =>
              wGet (faddr 2 t46) H fun t47 H =>
              wGet (load1 t47 H) H fun t48 H =>
              wGet (binA .add (.val (.string ⟨#[94]⟩)) t44) H fun t50 H =>
              wCall E P 234 [t22] H fun t52 H =>
              (wGet (load1 t47 H) H (fun y H2 => y = t48 ∧ H2 = H)) ∧
              wPut (insertA .string t48 t50 t52 H) fun _u H =>
              wGet (binA .add t41 (.val (.int .i64 1))) H fun t53 H =>
              I2 t53 H) (
              wCall E P 235 [t22, a0] H fun t56 H =>
              wGet (nilA t22) H fun t58 H =>
              wGet (faddr 0 t58) H fun t59 H =>
              wGet (loadN 2 t59 H) H fun t60 H =>
              wPut (storeN 2 t2 t60 H) fun _u H =>
              wGet (retPack [loadN 2 t2 H, some t56, some (.val (.nilIface))]) H R))))

/-- (*signalbox/gate.builder).fresh -/
def pgate_builder_fresh (E : Env) (P : Program) (a0 : AV) (H : AH) (R : Kt) : Prop :=
  wGet (nilA a0) H fun t4 H =>
  wGet (faddr 0 t4) H fun t5 H =>
  wGet (faddr 0 t5) H fun t6 H =>
  wGet (load1 t6 H) H fun t7 H =>
  wGet (binA .add t7 (.val (.int .i64 1))) H fun t8 H =>
  wGet (nilA a0) H fun t9 H =>
  wGet (faddr 0 t9) H fun t10 H =>
  wGet (faddr 0 t10) H fun t11 H =>
  wPut (store1 t11 t8 H) fun _u H =>
  wGet (nilA a0) H fun t13 H =>
  wGet (faddr 0 t13) H fun t14 H =>
  wGet (faddr 0 t14) H fun t15 H =>
  wGet (load1 t15 H) H fun t16 H =>
  R t16 H

/-- (*signalbox/gate.builder).lit -/
def pgate_builder_lit (E : Env) (P : Program) (a0 a1 : AV) (H : AH) (R : Kt) : Prop :=
  wGet (assertA 14 (.val (.string ⟨#[]⟩)) a1) H fun t21 H =>
  wGet (extractA t21 1) H fun t22 H =>
  wGet (extractA t21 0) H fun t23 H =>
  wIf t22 (
    wGet (nilA a0) H fun t25 H =>
    wGet (faddr 2 t25) H fun t26 H =>
    wGet (load1 t26 H) H fun t27 H =>
    wGet (lookupA .string (.val (.int .i64 0)) false t27 t23 H) H fun t29 H =>
    R t29 H) (
    wGet (assertA 12 (.val (.string ⟨#[]⟩)) a1) H fun t30 H =>
    wGet (extractA t30 1) H fun t31 H =>
    wGet (extractA t30 0) H fun t32 H =>
    wIf t31 (
      wGet (nilA a0) H fun t35 H =>
      wGet (faddr 2 t35) H fun t36 H =>
      wGet (load1 t36 H) H fun t37 H =>
      wGet (nilA a0) H fun t41 H =>
      wGet (faddr 2 t41) H fun t42 H =>
      wGet (load1 t42 H) H fun t43 H =>
      wGet (binA .add (.val (.string ⟨#[94]⟩)) t32) H fun t45 H =>
      (
        wGet (lookupA .string (.val (.int .i64 0)) false t37 t32 H) H fun t39 H =>
        (wGet (load1 t42 H) H (fun y H2 => y = t43 ∧ H2 = H)) ∧
        wGet (lookupA .string (.val (.int .i64 0)) false t43 t45 H) H fun t46 H =>
        (wGet (load1 t36 H) H (fun y H2 => y = t37 ∧ H2 = H)) ∧
        wGet (unA .neg t46) H fun t47 H =>
        wNewS 1 2 (fillA (List.replicate 2 [(.val (.int .i64 0))]).flatten [(0, 1, t39), (1, 1, t47)]) H fun t48 H =>
        wCall E P 236 [a0, t48] H fun t49 H =>
        R t49 H) ∧
      (
        wGet (lookupA .string (.val (.int .i64 0)) false t43 t45 H) H fun t46_1 H =>
        (wGet (load1 t36 H) H (fun y H2 => y = t37 ∧ H2 = H)) ∧
        wGet (unA .neg t46_1) H fun t47_1 H =>
        wGet (lookupA .string (.val (.int .i64 0)) false t37 t32 H) H fun t39_1 H =>
        (wGet (load1 t42 H) H (fun y H2 => y = t43 ∧ H2 = H)) ∧
        wNewS 1 2 (fillA (List.replicate 2 [(.val (.int .i64 0))]).flatten [(0, 1, t39_1), (1, 1, t47_1)]) H fun t48_1 H =>
        wCall E P 236 [a0, t48_1] H fun t49_1 H =>
        R t49_1 H)) (
      wGet (assertA 13 (.val (.string ⟨#[]⟩)) a1) H fun t50 H =>
      wGet (extractA t50 1) H fun t51 H =>
      wGet (extractA t50 0) H fun t52 H =>
      wIf t51 (
        wGet (nilA a0) H fun t55 H =>
        wGet (faddr 2 t55) H fun t56 H =>
        wGet (load1 t56 H) H fun t57 H =>
        wGet (nilA a0) H fun t62 H =>
        wGet (faddr 2 t62) H fun t63 H =>
        wGet (load1 t63 H) H fun t64 H =>
        wGet (binA .add (.val (.string ⟨#[94]⟩)) t52) H fun t66 H =>
        (
          wGet (lookupA .string (.val (.int .i64 0)) false t57 t52 H) H fun t59 H =>
          (wGet (load1 t63 H) H (fun y H2 => y = t64 ∧ H2 = H)) ∧
          wGet (unA .neg t59) H fun t60 H =>
          wGet (lookupA .string (.val (.int .i64 0)) false t64 t66 H) H fun t67 H =>
          (wGet (load1 t56 H) H (fun y H2 => y = t57 ∧ H2 = H)) ∧
          wNewS 1 2 (fillA (List.replicate 2 [(.val (.int .i64 0))]).flatten [(0, 1, t60), (1, 1, t67)]) H fun t68 H =>
          wCall E P 236 [a0, t68] H fun t69 H =>
          R t69 H) ∧
        (
          wGet (lookupA .string (.val (.int .i64 0)) false t64 t66 H) H fun t67_1 H =>
          (wGet (load1 t56 H) H (fun y H2 => y = t57 ∧ H2 = H)) ∧
          wGet (lookupA .string (.val (.int .i64 0)) false t57 t52 H) H fun t59_1 H =>
          (wGet (load1 t63 H) H (fun y H2 => y = t64 ∧ H2 = H)) ∧
          wGet (unA .neg t59_1) H fun t60_1 H =>
          wNewS 1 2 (fillA (List.replicate 2 [(.val (.int .i64 0))]).flatten [(0, 1, t60_1), (1, 1, t67_1)]) H fun t68_1 H =>
          wCall E P 236 [a0, t68_1] H fun t69_1 H =>
          R t69_1 H)) (
        wGet (assertA 10 (.agg [(.val (.nilIface))]) a1) H fun t70 H =>
        wGet (extractA t70 1) H fun t71 H =>
        wGet (extractA t70 0) H fun t72 H =>
        wIf t71 (
          wNew 1 (some [(.val (.nilIface))]) H fun t8 H =>
          wPut (storeN 1 t8 t72 H) fun _u H =>
          wGet (faddr 0 t8) H fun t74 H =>
          wGet (load1 t74 H) H fun t75 H =>
          wCall E P 235 [a0, t75] H fun t76 H =>
          wGet (unA .neg t76) H fun t77 H =>
          R t77 H) (
          wGet (assertA 9 (.val (.slice none 0 0)) a1) H fun t78 H =>
          wGet (extractA t78 1) H fun t79 H =>
          wGet (extractA t78 0) H fun t80 H =>
          wIf t79 (
            wGet (lenA t80) H fun t82 H =>
            wLoop 2 (fun I1 => I1 (.val (.slice none 0 0)) (.val (.int .i64 0)) H) fun I1 t10 t83 H =>
              wGet (binA .lss t83 t82) H fun t84 H =>
              wIf t84 (
                wGet (iaddr 1 t80 t83) H fun t85 H =>
                wGet (load1 t85 H) H fun t86 H =>
                wCall E P 235 [a0, t86] H fun t90 H =>
                wNewS 1 1 (fillA (List.replicate 1 [(.val (.int .i64 0))]).flatten [(0, 1, t90)]) H fun t91 H =>
                wApp 1 8 t10 t91 H fun t92 H =>
                wGet (binA .add t83 (.val (.int .i64 1))) H fun t93 H =>
                I1 t92 t93 H) (
                wCall E P 236 [a0, t10] H fun t96 H =>
                R t96 H)) (
            wGet (assertA 8 (.val (.slice none 0 0)) a1) H fun t97 H =>
            wGet (extractA t97 1) H fun t98 H =>
            wGet (extractA t97 0) H fun t99 H =>
            wIf t98 (
              wGet (lenA t99) H fun t101 H =>
              wLoop 2 (fun I2 => I2 (.val (.slice none 0 0)) (.val (.int .i64 0)) H) fun I2 t14 t102 H =>
                wGet (binA .lss t102 t101) H fun t103 H =>
                wIf t103 (
                  wGet (iaddr 1 t99 t102) H fun t104 H =>
                  wGet (load1 t104 H) H fun t105 H =>
                  wCall E P 235 [a0, t105] H fun t109 H =>
                  wGet (unA .neg t109) H fun t110 H =>
                  wNewS 1 1 (fillA (List.replicate 1 [(.val (.int .i64 0))]).flatten [(0, 1, t110)]) H fun t111 H =>
                  wApp 1 8 t14 t111 H fun t112 H =>
                  wGet (binA .add t102 (.val (.int .i64 1))) H fun t113 H =>
                  I2 t112 t113 H) (
                  wCall E P 236 [a0, t14] H fun t116 H =>
                  wGet (unA .neg t116) H fun t117 H =>
                  R t117 H)) (
              wCall E P 234 [a0] H fun t119 H =>
              wJoin 0 (fun J3 =>
                wGet (assertA 11 (.val (.bool false)) a1) H fun t122 H =>
                wGet (extractA t122 0) H fun t123 H =>
                wGet (extractA t122 1) H fun t124 H =>
                wGuard t124 true H (fun k => k t123 H) fun t127 H =>
                wGet (pickA t124 t127 (.val (.bool false))) H fun t128 H =>
                wIf t128 (
                  wNewS 1 1 (fillA (List.replicate 1 [(.val (.int .i64 0))]).flatten [(0, 1, t119)]) H fun t131 H =>
                  wCall E P 237 [a0, t131] H fun t132 H =>
                  J3 H) (
                  wGet (unA .neg t119) H fun t135 H =>
                  wNewS 1 1 (fillA (List.replicate 1 [(.val (.int .i64 0))]).flatten [(0, 1, t135)]) H fun t136 H =>
                  wCall E P 237 [a0, t136] H fun t137 H =>
                  J3 H)) fun H =>
                R t119 H))))))

/-- (*signalbox/gate.builder).and -/
def pgate_builder_and (E : Env) (P : Program) (a0 a1 : AV) (H : AH) (R : Kt) : Prop :=
  wCall E P 234 [a0] H fun t10 H =>
  wNewS 1 1 (fillA (List.replicate 1 [(.val (.int .i64 0))]).flatten [(0, 1, t10)]) H fun t12 H =>
  wGet (lenA a1) H fun t14 H =>
  wLoop 2 (fun I1 => I1 t12 (.val (.int .i64 0)) H) fun I1 t6 t15 H =>
    wGet (binA .lss t15 t14) H fun t16 H =>
    wIf t16 (
      wGet (iaddr 1 a1 t15) H fun t17 H =>
      wGet (load1 t17 H) H fun t18 H =>
      wGet (unA .neg t10) H fun t21 H =>
      wNewS 1 2 (fillA (List.replicate 2 [(.val (.int .i64 0))]).flatten [(0, 1, t21), (1, 1, t18)]) H fun t23 H =>
      wCall E P 237 [a0, t23] H fun t24 H =>
      wGet (unA .neg t18) H fun t27 H =>
      wNewS 1 1 (fillA (List.replicate 1 [(.val (.int .i64 0))]).flatten [(0, 1, t27)]) H fun t28 H =>
      wApp 1 8 t6 t28 H fun t29 H =>
      wGet (binA .add t15 (.val (.int .i64 1))) H fun t30 H =>
      I1 t29 t30 H) (
      wCall E P 237 [a0, t6] H fun t33 H =>
      R t10 H)

/-- (*signalbox/gate.builder).add -/
def pgate_builder_add (E : Env) (P : Program) (a0 a1 : AV) (H : AH) (R : Kt) : Prop :=
  wGet (nilA a0) H fun t6 H =>
  wGet (faddr 0 t6) H fun t7 H =>
  wGet (faddr 1 t7) H fun t8 H =>
  wGet (load1 t8 H) H fun t9 H =>
  wNewS 1 1 (fillA (List.replicate 1 [(.val (.slice none 0 0))]).flatten [(0, 1, a1)]) H fun t11 H =>
  wApp 1 24 t9 t11 H fun t12 H =>
  wGet (nilA a0) H fun t13 H =>
  wGet (faddr 0 t13) H fun t14 H =>
  wGet (faddr 1 t14) H fun t15 H =>
  wPut (store1 t15 t12 H) fun _u H =>
  R (.tup []) H

end Go.Sc.F
namespace Go.Sc.F
open Go Go.Sc
set_option linter.unusedVariables false
/-- signalbox/gate.Solve -/
def gate_Solve (E : Env) (P : Program) (a0 : AV) (H : AH) (R : Kt) : Prop :=
  wNew 2 (AV.cells? a0) H fun t1 H =>
  wGet (loadN 2 t1 H) H fun t11 H =>
  wCall E P 101 [t11] H fun t12 H =>
  wBool (eqA .iface t12 (.val (.nilIface))) H true fun t14 H =>
  wIf t14 (
    R (.tup [(.val (.slice none 0 0)), t12]) H) (
    wGet (loadN 2 t1 H) H fun t16 H =>
    wGet (faddr 0 t1) H fun t17 H =>
    wGet (load1 t17 H) H fun t18 H =>
    wGet (binA .add t18 (.val (.int .i64 1))) H fun t19 H =>
    wMake 1 8 [(.val (.int .i64 0))] t19 t19 H fun t20 H =>
    (wGet (loadN 2 t1 H) H (fun y H2 => y = t16 ∧ H2 = H)) ∧
    wAgg (fillA [(.val (.int .i64 0)), (.val (.slice none 0 0)), (.val (.slice none 0 0)), (.val (.slice none 0 0)), (.val (.int .i64 0))] [(0, 2, t16), (2, 1, t20)]) H fun t21 H =>
    wNew 5 (AV.cells? t21) H fun t22 H =>
    wCall E P 105 [t22] H fun t25 H =>
    wGet (extractA t25 0) H fun t26 H =>
    wGet (extractA t25 1) H fun t27 H =>
    wBool (eqA .iface t27 (.val (.nilIface))) H true fun t30 H =>
    wIf t30 (
      R (.tup [(.val (.slice none 0 0)), t27]) H) (
      wGet (unA .not t26) H fun t34 H =>
      wIf t34 (
        R (.tup [(.val (.slice none 0 0)), (.ifc 1 (.val (.int .i64 8)))]) H) (
        wGet (nilA t22) H fun t37 H =>
        wGet (faddr 2 t37) H fun t38 H =>
        wGet (load1 t38 H) H fun t39 H =>
        wGet (sliceA 1 t39 (some (.val (.int .i64 1))) none H) H fun t40 H =>
        wGet (lenA t40) H fun t41 H =>
        wLoop 2 (fun I1 => I1 (.val (.slice none 0 0)) (.val (.int .i64 0)) H) fun I1 t8 t42 H =>
          wGet (binA .lss t42 t41) H fun t43 H =>
          wIf t43 (
            wGet (iaddr 1 t40 t42) H fun t44 H =>
            wGet (load1 t44 H) H fun t45 H =>
            wGet (binA .eql t45 (.val (.int .i64 1))) H fun t48 H =>
            wNewS 1 1 (fillA (List.replicate 1 [(.val (.bool false))]).flatten [(0, 1, t48)]) H fun t49 H =>
            wApp 1 1 t8 t49 H fun t50 H =>
            wGet (binA .add t42 (.val (.int .i64 1))) H fun t51 H =>
            I1 t50 t51 H) (
            R (.tup [t8, (.val (.nilIface))]) H))))

/-- signalbox/gate.Check -/
def gate_Check (E : Env) (P : Program) (a0 : AV) (H : AH) (R : Kt) : Prop :=
  wNew 2 (AV.cells? a0) H fun t1 H =>
  wGet (faddr 0 t1) H fun t5 H =>
  wGet (load1 t5 H) H fun t6 H =>
  wGet (binA .lss t6 (.val (.int .i64 0))) H fun t7 H =>
  wGuard t7 false H (fun k => wGet (faddr 0 t1) H k) fun t9 H =>
  wGuard t7 false H (fun k => wGet (load1 t9 H) H k) fun t10 H =>
  wGuard t7 false H (fun k => wGet (binA .gtr t10 (.val (.int .i64 1000))) H k) fun t11 H =>
  wGet (pickA t7 (.val (.bool true)) t11) H fun t12 H =>
  wGuard t12 false H (fun k => wGet (faddr 1 t1) H k) fun t14 H =>
  wGuard t12 false H (fun k => wGet (load1 t14 H) H k) fun t15 H =>
  wGuard t12 false H (fun k => wGet (lenA t15) H k) fun t16 H =>
  wGuard t12 false H (fun k => wGet (binA .gtr t16 (.val (.int .i64 3000))) H k) fun t17 H =>
  wGet (pickA t12 (.val (.bool true)) t17) H fun t18 H =>
  wIf t18 (
    R (.ifc 1 (.val (.int .i64 4))) H) (
    wGet (faddr 1 t1) H fun t20 H =>
    wGet (load1 t20 H) H fun t21 H =>
    wGet (lenA t21) H fun t22 H =>
    wLoop 1 (fun I1 => I1 (.val (.int .i64 0)) H) fun I1 t23 H =>
      wGet (binA .lss t23 t22) H fun t24 H =>
      wIf t24 (
        wGet (iaddr 1 t21 t23) H fun t26 H =>
        wGet (load1 t26 H) H fun t27 H =>
        wCall E P 59 [t27, (.fn 106 [] [t1])] H fun t30 H =>
        wIf t30 (
          wAgg (fillA [(.val (.int .i64 0)), (.val (.int .i64 0))] [(0, 1, (.val (.int .i64 2))), (1, 1, t23)]) H fun t32 H =>
          wNew 2 (AV.cells? t32) H fun t33 H =>
          R (.ifc 2 t33) H) (
          wGet (binA .add t23 (.val (.int .i64 1))) H fun t35 H =>
          I1 t35 H)) (
        R (.val (.nilIface)) H))

/-- (*signalbox/gate.solver).search -/
def pgate_solver_search (E : Env) (P : Program) (a0 : AV) (H : AH) (R : Kt) : Prop :=
  wGet (nilA a0) H fun t12 H =>
  wGet (faddr 4 t12) H fun t13 H =>
  wGet (load1 t13 H) H fun t14 H =>
  wGet (binA .add t14 (.val (.int .i64 1))) H fun t15 H =>
  wGet (nilA a0) H fun t16 H =>
  wGet (faddr 4 t16) H fun t17 H =>
  wPut (store1 t17 t15 H) fun _u H =>
  wGet (nilA a0) H fun t19 H =>
  wGet (faddr 4 t19) H fun t20 H =>
  wGet (load1 t20 H) H fun t21 H =>
  wGet (binA .gtr t21 (.val (.int .i64 20000))) H fun t22 H =>
  wIf t22 (
    R (.tup [(.val (.bool false)), (.ifc 1 (.val (.int .i64 4)))]) H) (
    wGet (nilA a0) H fun t25 H =>
    wGet (faddr 3 t25) H fun t26 H =>
    wGet (load1 t26 H) H fun t27 H =>
    wGet (lenA t27) H fun t28 H =>
    wCall E P 108 [a0] H fun t30 H =>
    wGet (unA .not t30) H fun t31 H =>
    wIf t31 (
      wCall E P 109 [a0, t28] H fun t34 H =>
      R (.tup [(.val (.bool false)), (.val (.nilIface))]) H) (
      wGet (nilA a0) H fun t36 H =>
      wGet (faddr 2 t36) H fun t37 H =>
      wGet (load1 t37 H) H fun t38 H =>
      wGet (sliceA 1 t38 (some (.val (.int .i64 1))) none H) H fun t39 H =>
      wCall E P 110 [t39, (.val (.int .i64 0))] H fun t40 H =>
      wGet (binA .add t40 (.val (.int .i64 1))) H fun t41 H =>
      wGet (binA .eql t41 (.val (.int .i64 0))) H fun t43 H =>
      wIf t43 (
        R (.tup [(.val (.bool true)), (.val (.nilIface))]) H) (
        wGet (unA .neg t41) H fun t46 H =>
        wNewS 1 2 (fillA (List.replicate 2 [(.val (.int .i64 0))]).flatten [(0, 1, t41), (1, 1, t46)]) H fun t47 H =>
        wGet (lenA t47) H fun t48 H =>
        wLoop 1 (fun I1 => I1 (.val (.int .i64 0)) H) fun I1 t49 H =>
          wGet (binA .lss t49 t48) H fun t50 H =>
          wIf t50 (
            wGet (iaddr 1 t47 t49) H fun t51 H =>
            wGet (load1 t51 H) H fun t52 H =>
            wGet (nilA a0) H fun t54 H =>
            wGet (faddr 3 t54) H fun t55 H =>
            wGet (load1 t55 H) H fun t56 H =>
            wGet (lenA t56) H fun t57 H =>
            wCall E P 111 [a0, t52] H fun t60 H =>
            wCall E P 105 [a0] H fun t63 H =>
            wGet (extractA t63 0) H fun t64 H =>
            wGet (extractA t63 1) H fun t65 H =>
            wGuard t64 false H (fun k => k t65 H) fun t68 H =>
            wGuard t64 false H (fun k => wBool (eqA .iface t68 (.val (.nilIface))) H true k) fun t69 H =>
            wGet (pickA t64 (.val (.bool true)) t69) H fun t70 H =>
            wIf t70 (
              R (.tup [t64, t65]) H) (
              wCall E P 109 [a0, t57] H fun t75 H =>
              wGet (binA .add t49 (.val (.int .i64 1))) H fun t76 H =>
              I1 t76 H)) (
            wCall E P 109 [a0, t28] H fun t79 H =>
            R (.tup [(.val (.bool false)), (.val (.nilIface))]) H))))

/-- signalbox/gate.Check$1 -/
def gate_Check_c1 (E : Env) (P : Program) (a0 a1 : AV) (H : AH) (R : Kt) : Prop :=
  wGet (binA .eql a0 (.val (.int .i64 0))) H fun t5 H =>
  wGuard t5 false H (fun k => k a0 H) fun t7 H =>
  wGuard t5 false H (fun k => wGet (faddr 0 a1) H k) fun t8 H =>
  wGuard t5 false H (fun k => wGet (load1 t8 H) H k) fun t9 H =>
  wGuard t5 false H (fun k => wGet (binA .gtr t7 t9) H k) fun t10 H =>
  wGet (pickA t5 (.val (.bool true)) t10) H fun t11 H =>
  wGuard t11 false H (fun k => k a0 H) fun t13 H =>
  wGuard t11 false H (fun k => wGet (faddr 0 a1) H k) fun t14 H =>
  wGuard t11 false H (fun k => wGet (load1 t14 H) H k) fun t15 H =>
  wGuard t11 false H (fun k => wGet (unA .neg t15) H k) fun t16 H =>
  wGuard t11 false H (fun k => wGet (binA .lss t13 t16) H k) fun t17 H =>
  wGet (pickA t11 (.val (.bool true)) t17) H fun t18 H =>
  R t18 H

/-- (*signalbox/gate.solver).spread -/
def pgate_solver_spread (E : Env) (P : Program) (a0 : AV) (H : AH) (R : Kt) : Prop :=
  wLoop 1 (fun I1 => I1 (.val (.bool true)) H) fun I1 t3 H =>
    wIf t3 (
      wGet (nilA a0) H fun t13 H =>
      wGet (faddr 0 t13) H fun t14 H =>
      wGet (faddr 1 t14) H fun t15 H =>
      wGet (load1 t15 H) H fun t16 H =>
      wGet (lenA t16) H fun t17 H =>
      wLoop 2 (fun I2 => I2 (.val (.bool false)) (.val (.int .i64 0)) H) fun I2 t3_1 t18 H =>
        wGet (binA .lss t18 t17) H fun t19 H =>
        wIf t19 (
          wJoin 1 (fun J3 =>
            wGet (iaddr 1 t16 t18) H fun t20 H =>
            wGet (load1 t20 H) H fun t21 H =>
            wGet (lenA t21) H fun t23 H =>
            wLoop 4 (fun I4 => I4 (.val (.int .i64 0)) (.val (.int .i64 0)) (.val (.bool false)) (.val (.int .i64 0)) H) fun I4 t6 t7 t8 t24 H =>
              wGet (binA .lss t24 t23) H fun t25 H =>
              wIf t25 (
                wJoin 3 (fun J5 =>
                  wGet (iaddr 1 t21 t24) H fun t26 H =>
                  wGet (load1 t26 H) H fun t27 H =>
                  wCall E P 112 [a0, t27] H fun t30 H =>
                  wGet (binA .eql t30 (.val (.int .i64 1))) H fun t32 H =>
                  wIf t32 (
                    J5 t6 t7 (.val (.bool true)) H) (
                    wGet (binA .eql t30 (.val (.int .i64 0))) H fun t34 H =>
                    wIf t34 (
                      wJoin 1 (fun J6 =>
                        wGet (binA .neq t27 t6) H fun t37 H =>
                        wIf t37 (
                          wGet (binA .add t7 (.val (.int .i64 1))) H fun t39 H =>
                          J6 t39 H) (
                          J6 t7 H)) fun t7_1 H =>
                        J5 t27 t7_1 t8 H) (
                      J5 t6 t7 t8 H))) fun t6_1 t7_2 t8_1 H =>
                  wGet (binA .add t24 (.val (.int .i64 1))) H fun t41 H =>
                  I4 t6_1 t7_2 t8_1 t41 H) (
                wGuard t8 false H (fun k => k t7 H) fun t48 H =>
                wGuard t8 false H (fun k => wGet (binA .gtr t48 (.val (.int .i64 1))) H k) fun t49 H =>
                wGet (pickA t8 (.val (.bool true)) t49) H fun t50 H =>
                wIf t50 (
                  J3 t3_1 H) (
                  wGet (binA .eql t7 (.val (.int .i64 0))) H fun t53 H =>
                  wIf t53 (
                    R (.val (.bool false)) H) (
                    wCall E P 111 [a0, t6] H fun t44 H =>
                    J3 (.val (.bool true)) H)))) fun t3_2 H =>
            wGet (binA .add t18 (.val (.int .i64 1))) H fun t54 H =>
            I2 t3_2 t54 H) (
          I1 t3_1 H)) (
      R (.val (.bool true)) H)

/-- (*signalbox/gate.solver).back -/
def pgate_solver_back (E : Env) (P : Program) (a0 a1 : AV) (H : AH) (R : Kt) : Prop :=
  wGet (nilA a0) H fun t7 H =>
  wGet (faddr 3 t7) H fun t8 H =>
  wGet (load1 t8 H) H fun t9 H =>
  wGet (sliceA 1 t9 (some a1) none H) H fun t11 H =>
  wGet (lenA t11) H fun t12 H =>
  wLoop 1 (fun I1 => I1 (.val (.int .i64 0)) H) fun I1 t13 H =>
    wGet (binA .lss t13 t12) H fun t14 H =>
    wIf t14 (
      wGet (iaddr 1 t11 t13) H fun t15 H =>
      wGet (load1 t15 H) H fun t16 H =>
      wGet (nilA a0) H fun t18 H =>
      wGet (faddr 2 t18) H fun t19 H =>
      wGet (load1 t19 H) H fun t20 H =>
      wGet (iaddr 1 t20 t16) H fun t22 H =>
      wPut (store1 t22 (.val (.int .i64 0)) H) fun _u H =>
      wGet (binA .add t13 (.val (.int .i64 1))) H fun t23 H =>
      I1 t23 H) (
      wGet (nilA a0) H fun t26 H =>
      wGet (faddr 3 t26) H fun t27 H =>
      wGet (load1 t27 H) H fun t28 H =>
      wGet (sliceA 1 t28 none (some a1) H) H fun t30 H =>
      wGet (nilA a0) H fun t31 H =>
      wGet (faddr 3 t31) H fun t32 H =>
      wPut (store1 t32 t30 H) fun _u H =>
      R (.tup []) H)

/-- slices.Index[[]int,int] -/
def slices_Index_Lint_int (E : Env) (P : Program) (a0 a1 : AV) (H : AH) (R : Kt) : Prop :=
  wGet (lenA a0) H fun t7 H =>
  wLoop 1 (fun I1 => I1 (.val (.int .i64 0)) H) fun I1 t8 H =>
    wGet (binA .lss t8 t7) H fun t9 H =>
    wIf t9 (
      wGet (iaddr 1 a0 t8) H fun t14 H =>
      wGet (load1 t14 H) H fun t15 H =>
      wGet (binA .eql a1 t15) H fun t16 H =>
      wIf t16 (
        R t8 H) (
        wGet (binA .add t8 (.val (.int .i64 1))) H fun t18 H =>
        I1 t18 H)) (
      R (.val (.int .i64 (-1))) H)

/-- (*signalbox/gate.solver).set -/
def pgate_solver_set (E : Env) (P : Program) (a0 a1 : AV) (H : AH) (R : Kt) : Prop :=
  wJoin 0 (fun J1 =>
    wGet (binA .lss a1 (.val (.int .i64 0))) H fun t5 H =>
    wIf t5 (
      wGet (nilA a0) H fun t7 H =>
      wGet (faddr 2 t7) H fun t8 H =>
      wGet (load1 t8 H) H fun t9 H =>
      wGet (unA .neg a1) H fun t11 H =>
      wGet (iaddr 1 t9 t11) H fun t12 H =>
      wPut (store1 t12 (.val (.int .i64 (-1))) H) fun _u H =>
      J1 H) (
      wGet (nilA a0) H fun t14 H =>
      wGet (faddr 2 t14) H fun t15 H =>
      wGet (load1 t15 H) H fun t16 H =>
      wGet (iaddr 1 t16 a1) H fun t18 H =>
      wPut (store1 t18 (.val (.int .i64 1)) H) fun _u H =>
      J1 H)) fun H =>
    wGet (nilA a0) H fun t21 H =>
    wGet (faddr 3 t21) H fun t22 H =>
    wGet (load1 t22 H) H fun t23 H =>
    wGet (unA .neg a1) H fun t26 H =>
    wGet (minA true a1 t26) H fun t27 H =>
    wNewS 1 1 (fillA (List.replicate 1 [(.val (.int .i64 0))]).flatten [(0, 1, t27)]) H fun t28 H =>
    wApp 1 8 t23 t28 H fun t29 H =>
    wGet (nilA a0) H fun t30 H =>
    wGet (faddr 3 t30) H fun t31 H =>
    wPut (store1 t31 t29 H) fun _u H =>
    R (.tup []) H

/-- (*signalbox/gate.solver).is -/
def pgate_solver_is (E : Env) (P : Program) (a0 a1 : AV) (H : AH) (R : Kt) : Prop :=
  wGet (binA .lss a1 (.val (.int .i64 0))) H fun t6 H =>
  wIf t6 (
    wGet (nilA a0) H fun t8 H =>
    wGet (faddr 2 t8) H fun t9 H =>
    wGet (load1 t9 H) H fun t10 H =>
    wGet (unA .neg a1) H fun t12 H =>
    wGet (iaddr 1 t10 t12) H fun t13 H =>
    wGet (load1 t13 H) H fun t14 H =>
    wGet (unA .neg t14) H fun t15 H =>
    R t15 H) (
    wGet (nilA a0) H fun t17 H =>
    wGet (faddr 2 t17) H fun t18 H =>
    wGet (load1 t18 H) H fun t19 H =>
    wGet (iaddr 1 t19 a1) H fun t21 H =>
    wGet (load1 t21 H) H fun t22 H =>
    R t22 H)

end Go.Sc.F
namespace Go.Sc
open Go
set_option linter.unusedSimpArgs false
set_option linter.unusedVariables false
set_option linter.unnecessarySimpa false
def TR (tr : List Int) (x : AV) (tb : List Blk) : Prop := (x = nilS ∧ tr = [] ∧ tb = []) ∨ ∃ g2, x = .slL 2 0 tr.length g2 ∧ tb = [.cells g2 1 (tr.map fun z => Z z)]
def gH (ga gs V : Nat) (all : List (List Int)) (of : List Int) (x : AV) (st : Int) (tb : List Blk) (c : Nat) : AH := ⟨.cells ga 1 (of.map fun z => Z z) :: .cells gs 5 [Z V, LLI all, .slL 0 0 (V + 1) ga, x, Z st] :: tb, c⟩
def GH (ga gs V : Nat) (all : List (List Int)) (of tr : List Int) (st : Int) (H : AH) : Prop := ∃ x tb c, H = gH ga gs V all of x st tb c ∧ TR tr x tb
theorem TR.scalar {tr : List Int} {x : AV} {tb : List Blk} (h : TR tr x tb) : x.scalar = true := by
  rcases h with ⟨rfl, _, _⟩ | ⟨g, rfl, _⟩ <;> rfl
theorem TR.len {tr : List Int} {x : AV} {tb : List Blk} (h : TR tr x tb) : lenA x = some (Z tr.length) := by
  rcases h with ⟨rfl, rfl, _⟩ | ⟨g, rfl, _⟩ <;> rfl
structure SolverBodies (E : Env) (P : Program) : Prop where
  search : Body1 E P 105 F.pgate_solver_search
  spread : Body1 E P 108 F.pgate_solver_spread
  back : Body2 E P 109 F.pgate_solver_back
  index : Body2 E P 110 F.slices_Index_Lint_int
  set : Body2 E P 111 F.pgate_solver_set
  is : Body2 E P 112 F.pgate_solver_is
section
variable {E : Env} {P : Program} {ga gs V : Nat} {all : List (List Int)}
theorem neg_Z {x : Int} (h : -1000000 ≤ x ∧ x ≤ 1000000) : unA .neg (Z x) = some (Z (-x)) := by
  rw [unA_neg', wrap_i64 (by omega)]
  congr 3; omega
theorem is_spec (B : SolverBodies E P) {of : List Int} (hs : Sol V of) (hV : V ≤ 1000) {x : Int} (hx : okLit V x) (xx : AV) (st : Int) (tb : List Blk) (c : Nat) : ACalls E P 112 [.ptrL 1 0 gs, Z x] (gH ga gs V all of xx st tb c) fun r H' => r = Z (lv of x) ∧ H' = gH ga gs V all of xx st tb c := by
  refine B.is _ _ _ _ ?_
  unfold F.pgate_solver_is gH
  have hl := hs.len
  obtain ⟨h0, h1, h2⟩ := hx
  simp only [nd0, Y1n, Y1o, Y1p, Y1q, Y1w, Y1x, Y1y, Y1z, Y20, Y21, Y28, Y2a, AV.cells?, Nat.reduceAdd, Nat.reduceMul]
  by_cases hn : x < 0
  · simp only [nd0, Y1n, Y1o, Y1p, Y1q, Y1w, Y1x, Y1y, Y1z, Y20, Y21, Y28, Y2a, AV.cells?, Nat.reduceAdd, Nat.reduceMul, decide_eq_true hn]
    rw [neg_Z (by omega), show (-x) = (((-x).toNat : Nat) : Int) by omega]
    simp only [nd0, Y1n, Y1o, Y1p, Y1q, Y1w, Y1x, Y1y, Y1z, Y20, Y21, Y28, Y2a, AV.cells?, Nat.reduceAdd, Nat.reduceMul]
    rw [iaddr_Ln (by omega)]
    simp only [nd0, Y1n, Y1o, Y1p, Y1q, Y1w, Y1x, Y1y, Y1z, Y20, Y21, Y28, Y2a, AV.cells?, Nat.reduceAdd, Nat.reduceMul, cell_at (show (-x).toNat < of.length by omega)]
    have hv := hs.val (-x).toNat
    rw [neg_Z (by omega)]
    simp only [nd0, Y1n, Y1o, Y1p, Y1q, Y1w, Y1x, Y1y, Y1z, Y20, Y21, Y28, Y2a, AV.cells?, Nat.reduceAdd, Nat.reduceMul]
    exact ⟨by rw [lv, if_pos hn], trivial⟩
  · simp only [nd0, Y1n, Y1o, Y1p, Y1q, Y1w, Y1x, Y1y, Y1z, Y20, Y21, Y28, Y2a, AV.cells?, Nat.reduceAdd, Nat.reduceMul, decide_eq_false hn]
    obtain ⟨y, rfl⟩ : ∃ y : Nat, x = y := ⟨x.toNat, by omega⟩
    rw [iaddr_Ln (by omega)]
    simp only [nd0, Y1n, Y1o, Y1p, Y1q, Y1w, Y1x, Y1y, Y1z, Y20, Y21, Y28, Y2a, AV.cells?, Nat.reduceAdd, Nat.reduceMul, cell_at (show y < of.length by omega)]
    exact ⟨by rw [lv, if_neg (by omega)]; simp, trivial⟩
theorem set_spec (B : SolverBodies E P) {of tr : List Int} (hs : Sol V of) (hV : V ≤ 1000) {x : Int} (hx : okLit V x) (htr : tr.length < 100000) {st : Int} {H : AH} (hH : GH ga gs V all of tr st H) : ACalls E P 111 [.ptrL 1 0 gs, Z x] H fun r H' => r = .tup [] ∧ GH ga gs V all (litSet of x) (tr ++ [(vr x : Int)]) st H' := by
  obtain ⟨xx, tb, c, rfl, ht⟩ := hH
  refine B.set _ _ _ _ ?_
  unfold F.pgate_solver_set gH
  have hl := hs.len
  obtain ⟨h0, h1, h2⟩ := hx
  have hset : ∀ (v : Int) (i : Nat), (of.map fun z => Z z).set i (Z v) = (of.set i v).map fun z => Z z := fun v i => by rw [List.map_set]
  refine wJoin.zero (fun H => H = gH ga gs V all (litSet of x) xx st tb c) ?_ ?_
  · simp only [nd0, Y1n, Y1o, Y1p, Y1q, Y1w, Y1x, Y1y, Y1z, Y20, Y21, Y28, Y2a, AV.cells?, Nat.reduceAdd, Nat.reduceMul]
    by_cases hn : x < 0
    · simp only [nd0, Y1n, Y1o, Y1p, Y1q, Y1w, Y1x, Y1y, Y1z, Y20, Y21, Y28, Y2a, AV.cells?, Nat.reduceAdd, Nat.reduceMul, decide_eq_true hn]
      rw [neg_Z (by omega), show (-x) = (((-x).toNat : Nat) : Int) by omega]
      simp only [nd0, Y1n, Y1o, Y1p, Y1q, Y1w, Y1x, Y1y, Y1z, Y20, Y21, Y28, Y2a, AV.cells?, Nat.reduceAdd, Nat.reduceMul]
      rw [iaddr_Ln (by omega)]
      simp only [nd0, Y1n, Y1o, Y1p, Y1q, Y1w, Y1x, Y1y, Y1z, Y20, Y21, Y28, Y2a, AV.cells?, Nat.reduceAdd, Nat.reduceMul]
      rw [store1_L rfl]
      simp only [nd0, Y1n, Y1o, Y1p, Y1q, Y1w, Y1x, Y1y, Y1z, Y20, Y21, Y28, Y2a, AV.cells?, Nat.reduceAdd, Nat.reduceMul, List.length_map, show (-x).toNat < of.length by omega, hset]
      refine gh0.mk ?_
      unfold gH litSet
      rw [if_pos hn, show vr x = (-x).toNat by unfold vr; omega]
    · simp only [nd0, Y1n, Y1o, Y1p, Y1q, Y1w, Y1x, Y1y, Y1z, Y20, Y21, Y28, Y2a, AV.cells?, Nat.reduceAdd, Nat.reduceMul, decide_eq_false hn]
      rw [show x = ((x.toNat : Nat) : Int) by omega]
      rw [iaddr_Ln (by omega)]
      simp only [nd0, Y1n, Y1o, Y1p, Y1q, Y1w, Y1x, Y1y, Y1z, Y20, Y21, Y28, Y2a, AV.cells?, Nat.reduceAdd, Nat.reduceMul]
      rw [store1_L rfl]
      simp only [nd0, Y1n, Y1o, Y1p, Y1q, Y1w, Y1x, Y1y, Y1z, Y20, Y21, Y28, Y2a, AV.cells?, Nat.reduceAdd, Nat.reduceMul, List.length_map, show x.toNat < of.length by omega, hset]
      refine gh0.mk ?_
      unfold gH litSet
      rw [if_neg (by omega), show vr ((x.toNat : Nat) : Int) = x.toNat by unfold vr; omega]
  · rintro H rfl
    unfold gH
    simp only [nd0, Y1n, Y1o, Y1p, Y1q, Y1w, Y1x, Y1y, Y1z, Y20, Y21, Y28, Y2a, AV.cells?, Nat.reduceAdd, Nat.reduceMul]
    rw [neg_Z (by omega)]
    simp only [nd0, Y1n, Y1o, Y1p, Y1q, Y1w, Y1x, Y1y, Y1z, Y20, Y21, Y28, Y2a, AV.cells?, Nat.reduceAdd, Nat.reduceMul]
    have hmx : minA true (Z x) (Z (-x)) = some (Z (vr x : Int)) := by
      simp only [minA, if_true]
      unfold vr
      by_cases h : (-x : Int) > x
      · rw [if_pos h]; congr 3; omega
      · rw [if_neg h]; congr 3; omega
    rw [hmx]
    simp only [nd0, Y1n, Y1o, Y1p, Y1q, Y1w, Y1x, Y1y, Y1z, Y20, Y21, Y28, Y2a, AV.cells?, Nat.reduceAdd, Nat.reduceMul]
    refine wNewS.F' (l := [Z (vr x : Int)]) rfl rfl ?_
    rcases ht with ⟨rfl, rfl, rfl⟩ | ⟨g2, rfl, rfl⟩
    · refine ⟨_, _, .old (r := .slL 2 0 1 c) (H' := ⟨[.cells ga 1 ((litSet of x).map fun z => Z z), .cells gs 5 [Z V, LLI all, .slL 0 0 (V + 1) ga, nilS, Z st], .cells c 1 [Z (vr x : Int)]], c + 1⟩) rfl, ?_⟩
      simp only [nd0, Y1n, Y1o, Y1p, Y1q, Y1w, Y1x, Y1y, Y1z, Y20, Y21, Y28, Y2a, AV.cells?, Nat.reduceAdd, Nat.reduceMul]
      rw [store1_L rfl]
      simp only [nd0, Y1n, Y1o, Y1p, Y1q, Y1w, Y1x, Y1y, Y1z, Y20, Y21, Y28, Y2a, AV.cells?, Nat.reduceAdd, Nat.reduceMul, Nat.reduceLT]
      exact ⟨trivial, .slL 2 0 1 c, _, _, rfl, .inr ⟨c, rfl, rfl⟩⟩
    · have happ : appendA 1 8 (.slL 2 0 tr.length g2) (.slN [Z (vr x : Int)] 1) ⟨[.cells ga 1 ((litSet of x).map fun z => Z z), .cells gs 5 [Z V, LLI all, .slL 0 0 (V + 1) ga, .slL 2 0 tr.length g2, Z st], .cells g2 1 (tr.map fun z => Z z)], c⟩
          = some (.slL 2 0 (tr.length + 1) c, ⟨[.cells ga 1 ((litSet of x).map fun z => Z z), .cells gs 5 [Z V, LLI all, .slL 0 0 (V + 1) ga, .slL 2 0 tr.length g2, Z st], .cells c 1 ((tr ++ [(vr x : Int)]).map fun z => Z z)], c + 1⟩) := by
        have hb : (tr.length + 1) * 8 ≤ mostBytes ∧ tr.length + 1 ≤ mostBytes := by simp [mostBytes]; omega
        simp [appendA, cellsOfA, subL, AH.cells, AH.esz, hb, AV.scalar]
      refine ⟨_, _, .old happ, ?_⟩
      rw [store1_L rfl]
      simp only [nd0, Y1n, Y1o, Y1p, Y1q, Y1w, Y1x, Y1y, Y1z, Y20, Y21, Y28, Y2a, AV.cells?, Nat.reduceAdd, Nat.reduceMul, Nat.reduceLT]
      exact ⟨trivial, .slL 2 0 (tr.length + 1) c, _, _, rfl, .inr ⟨c, by simp, rfl⟩⟩
theorem back_spec (B : SolverBodies E P) {of tr : List Int} (hs : of.length = V + 1) (hV : V ≤ 1000) (htr : ∀ t ∈ tr, 1 ≤ t ∧ t ≤ V) (hlen : tr.length < 100000) {n : Nat} (hn : n ≤ tr.length) {st : Int} {H : AH} (hH : GH ga gs V all of tr st H) :
    ACalls E P 109 [.ptrL 1 0 gs, Z n] H fun r H' => r = .tup [] ∧ GH ga gs V all (reset of (tr.drop n)) (tr.take n) st H' := by
  obtain ⟨xx, tb, c, rfl, ht⟩ := hH
  have hset : ∀ (of : List Int) (v : Int) (i : Nat), (of.map fun z => Z z).set i (Z v) = (of.set i v).map fun z => Z z := fun of v i => by rw [List.map_set]
  rcases ht with ⟨rfl, rfl, rfl⟩ | ⟨g2, rfl, rfl⟩
  · have : n = 0 := by simpa using hn
    subst this
    refine B.back _ _ _ _ ?_
    unfold F.pgate_solver_back gH
    simp only [nd0, Y1n, Y1o, Y1p, Y1q, Y1w, Y1x, Y1y, Y1z, Y20, Y21, Y28, Y2a, AV.cells?, Nat.reduceAdd, Nat.reduceMul]
    have hsl : sliceA 1 nilS (some (.val (.int .i64 0))) none ⟨[.cells ga 1 (of.map fun z => Z z), .cells gs 5 [Z V, LLI all, .slL 0 0 (V + 1) ga, nilS, Z st]], c⟩ = some nilS := rfl
    rw [show ((0 : Nat) : Int) = 0 from rfl, hsl]
    simp only [nd0, Y1n, Y1o, Y1p, Y1q, Y1w, Y1x, Y1y, Y1z, Y20, Y21, Y28, Y2a, AV.cells?, Nat.reduceAdd, Nat.reduceMul]
    refine wLoop.one (fun m i H => H = gH ga gs V all of nilS st [] c ∧ i = Z 0) 0 (gh1.mk ⟨rfl, rfl⟩) ?_
    rintro m i H ⟨rfl, rfl⟩
    unfold gH
    simp only [nd0, Y1n, Y1o, Y1p, Y1q, Y1w, Y1x, Y1y, Y1z, Y20, Y21, Y28, Y2a, AV.cells?, Nat.reduceAdd, Nat.reduceMul, show ((0 : Nat) : Int) = 0 from rfl, Int.lt_irrefl]
    have hsl2 : sliceA 1 nilS none (some (.val (.int .i64 0))) ⟨[.cells ga 1 (of.map fun z => Z z), .cells gs 5 [Z V, LLI all, .slL 0 0 (V + 1) ga, nilS, Z st]], c⟩ = some nilS := rfl
    rw [hsl2]
    simp only [nd0, Y1n, Y1o, Y1p, Y1q, Y1w, Y1x, Y1y, Y1z, Y20, Y21, Y28, Y2a, AV.cells?, Nat.reduceAdd, Nat.reduceMul]
    rw [store1_L rfl]
    simp only [nd0, Y1n, Y1o, Y1p, Y1q, Y1w, Y1x, Y1y, Y1z, Y20, Y21, Y28, Y2a, AV.cells?, Nat.reduceAdd, Nat.reduceMul, Nat.reduceLT]
    exact ⟨trivial, nilS, [], c, rfl, .inl ⟨rfl, rfl, rfl⟩⟩
  · refine ACalls.mono (R := fun r H' => r = .tup [] ∧ H' = gH ga gs V all (reset of (tr.drop n)) (.slL 2 0 n g2) st [.cells g2 1 (tr.map fun z => Z z)] c) (B.back _ _ _ _ ?_) ?_
    case refine_2 =>
      rintro r H' ⟨rfl, rfl⟩
      refine ⟨.tup [], gH ga gs V all (reset of (tr.drop n)) (.slL 2 0 n g2) st [.cells g2 1 ((tr.map fun z => Z z).take n)] c, ?_, rfl, _, _, _, rfl, .inr ⟨g2, by rw [List.length_take, Nat.min_eq_left hn], by rw [List.map_take]⟩⟩
      exact ghost_kill (H := gH ga gs V all (reset of (tr.drop n)) (.slL 2 0 n g2) st [.cells g2 1 (tr.map fun z => Z z)] c) (H' := gH ga gs V all (reset of (tr.drop n)) (.slL 2 0 n g2) st [.cells g2 1 ((tr.map fun z => Z z).take n)] c) (S := fun _ => false) rfl (.keep rfl (KB.same _) (.keep rfl (KB.same _) (.keep rfl (KB.cut (n := n) (cs := tr.map fun z => Z z) (by simpa using hn)) .nil))) (FkL.same _)
    unfold F.pgate_solver_back gH
    simp only [nd0, Y1n, Y1o, Y1p, Y1q, Y1w, Y1x, Y1y, Y1z, Y20, Y21, Y28, Y2a, AV.cells?, Nat.reduceAdd, Nat.reduceMul]
    have hesz : ∀ (o : List Int) (x : AV) c, (⟨[.cells ga 1 (o.map fun z => Z z), .cells gs 5 [Z V, LLI all, .slL 0 0 (V + 1) ga, x, Z st], .cells g2 1 (tr.map fun z => Z z)], c⟩ : AH).esz 2 g2 = some 1 := fun o x c => by simp [AH.esz]
    have hsl : ∀ (o : List Int) (x : AV) c, sliceA 1 (.slL 2 0 tr.length g2) (some (Z (n : Int))) none ⟨[.cells ga 1 (o.map fun z => Z z), .cells gs 5 [Z V, LLI all, .slL 0 0 (V + 1) ga, x, Z st], .cells g2 1 (tr.map fun z => Z z)], c⟩ = some (.slL 2 n (tr.length - n) g2) := fun o x c => by
      simp only [sliceA, bnd, Option.bind_some, hesz, true_and]
      rw [if_pos (by omega)]
      simp
    rw [hsl]
    simp only [nd0, Y1n, Y1o, Y1p, Y1q, Y1w, Y1x, Y1y, Y1z, Y20, Y21, Y28, Y2a, AV.cells?, Nat.reduceAdd, Nat.reduceMul]
    have hsplit : ∀ i, i < tr.length - n → ((tr.drop n).take (i + 1)) = (tr.drop n).take i ++ [cell tr (n + i)] := fun i hi => by
      rw [List.take_succ_eq_append_getElem (by simp; omega)]
      congr 2
      simp [cell, List.getElem_drop, List.getElem?_eq_getElem (show n + i < tr.length by omega)]
    refine wLoop.one (fun m x H => ∃ i : Nat, i + m = tr.length - n ∧ x = Z i ∧ H = gH ga gs V all (reset of ((tr.drop n).take i)) (.slL 2 0 tr.length g2) st [.cells g2 1 (tr.map fun z => Z z)] c) (tr.length - n) (gh1.mk ⟨0, by omega, rfl, by simp [reset, gH]⟩) ?_
    rintro m x H ⟨i, him, rfl, rfl⟩
    unfold gH
    by_cases hi : i < tr.length - n
    · simp only [nd0, Y1n, Y1o, Y1p, Y1q, Y1w, Y1x, Y1y, Y1z, Y20, Y21, Y28, Y2a, AV.cells?, Nat.reduceAdd, Nat.reduceMul, decide_eq_true (show (i : Int) < ((tr.length - n : Nat) : Int) by omega)]
      rw [iaddr_L (by omega)]
      have hg : (tr.map fun z => Z z)[n + i]? = some (Z (cell tr (n + i))) := cell_at (by omega)
      simp only [nd0, Y1n, Y1o, Y1p, Y1q, Y1w, Y1x, Y1y, Y1z, Y20, Y21, Y28, Y2a, AV.cells?, Nat.reduceAdd, Nat.reduceMul, hg]
      have hmem : cell tr (n + i) ∈ tr := by
        unfold cell; rw [List.getElem?_eq_getElem (show n + i < tr.length by omega)]; exact List.getElem_mem _
      have hb := htr _ hmem
      have hrl : (reset of ((tr.drop n).take i)).length = V + 1 := by rw [reset_len]; exact hs
      rw [iaddr_L (by omega)]
      simp only [nd0, Y1n, Y1o, Y1p, Y1q, Y1w, Y1x, Y1y, Y1z, Y20, Y21, Y28, Y2a, AV.cells?, Nat.reduceAdd, Nat.reduceMul]
      rw [store1_L rfl]
      simp only [nd0, Y1n, Y1o, Y1p, Y1q, Y1w, Y1x, Y1y, Y1z, Y20, Y21, Y28, Y2a, AV.cells?, Nat.reduceAdd, Nat.reduceMul, List.length_map, show (cell tr (n + i)).toNat < (reset of ((tr.drop n).take i)).length by omega, hset]
      rw [binA_succ (by omega)]
      simp only [nd0, Y1n, Y1o, Y1p, Y1q, Y1w, Y1x, Y1y, Y1z, Y20, Y21, Y28, Y2a, AV.cells?, Nat.reduceAdd, Nat.reduceMul]
      refine back1.mk (m - 1) (by omega) ⟨i + 1, by omega, rfl, ?_⟩
      rw [hsplit i hi, reset_snoc]
    · have : i = tr.length - n := by omega
      subst this
      simp only [nd0, Y1n, Y1o, Y1p, Y1q, Y1w, Y1x, Y1y, Y1z, Y20, Y21, Y28, Y2a, AV.cells?, Nat.reduceAdd, Nat.reduceMul, Int.lt_irrefl]
      have hsl2 : ∀ (o : List Int) (x : AV) c, sliceA 1 (.slL 2 0 tr.length g2) none (some (Z (n : Int))) ⟨[.cells ga 1 (o.map fun z => Z z), .cells gs 5 [Z V, LLI all, .slL 0 0 (V + 1) ga, x, Z st], .cells g2 1 (tr.map fun z => Z z)], c⟩ = some (.slL 2 0 n g2) := fun o x c => by
        simp only [sliceA, bnd, Option.bind_some, hesz, true_and]
        rw [if_pos (by omega)]
        try simp
      rw [hsl2]
      simp only [nd0, Y1n, Y1o, Y1p, Y1q, Y1w, Y1x, Y1y, Y1z, Y20, Y21, Y28, Y2a, AV.cells?, Nat.reduceAdd, Nat.reduceMul]
      rw [store1_L rfl]
      simp only [nd0, Y1n, Y1o, Y1p, Y1q, Y1w, Y1x, Y1y, Y1z, Y20, Y21, Y28, Y2a, AV.cells?, Nat.reduceAdd, Nat.reduceMul, Nat.reduceLT]
      have e : (tr.drop n).take (tr.length - n) = tr.drop n := List.take_of_length_le (by simp)
      rw [e]
      exact ⟨trivial, rfl⟩
theorem tr_grow {of tr of' tr' : List Int} (hg : Grow V of tr of' tr') (h : ∀ t ∈ tr, 1 ≤ t ∧ t ≤ V) : ∀ t ∈ tr', 1 ≤ t ∧ t ≤ V := by
  obtain ⟨n, rfl, h2, _⟩ := hg
  intro t ht
  rcases List.mem_append.1 ht with ht | ht
  · exact h t ht
  · exact ⟨(h2 t ht).1, (h2 t ht).2.1⟩
set_option maxHeartbeats 1000000 in
theorem spread_spec (B : SolverBodies E P) (hV : V ≤ 1000) (hall : ∀ c ∈ all, ∀ x ∈ c, okLit V x) (hn1 : all.length ≤ 4000) (hn2 : ∀ c ∈ all, c.length ≤ 1000) {of tr : List Int} (hs : Sol V of) (hb : tr.length + opens V of ≤ V) {st : Int} {H : AH} (hH : GH ga gs V all of tr st H) :
    ACalls E P 108 [.ptrL 1 0 gs] H fun r H' => ∃ b of' tr', r = Bo b ∧ Sol V of' ∧ Grow V of tr of' tr' ∧ SpreadOk V all of of' b ∧ tr'.length + opens V of' ≤ V ∧ GH ga gs V all of' tr' st H' := by
  refine B.spread _ _ _ ?_
  unfold F.pgate_solver_spread
  refine wLoop.one (fun m t H => ∃ (b : Bool) (o u : List Int), t = Bo b ∧ m = opens V o + (if b then 1 else 0) ∧ Sol V o ∧ Grow V of tr o u ∧ (∀ a, Sats a all → Exts V a of → Exts V a o) ∧ u.length + opens V o ≤ V ∧ GH ga gs V all o u st H ∧ (b = false → ∀ c ∈ all, (∃ x ∈ c, lv o x = 1) ∨ ∃ x ∈ c, lv o x = 0 ∧ ∃ y ∈ c, lv o y = 0 ∧ x ≠ y)) (opens V of + 1)
    (gh1.mk ⟨true, of, tr, rfl, rfl, hs, .refl _ _ _, fun _ _ h => h, hb, hH, by simp⟩) ?_
  rintro m t H ⟨b, o, u, rfl, rfl, hso, hgo, himp, hbo, hHo, hdone⟩
  cases b with
  | false =>
    simp only [nd0, Y1n, Y1o, Y1p, Y1q, Y1w, Y1x, Y1y, Y1z, Y20, Y21, Y28, Y2a, AV.cells?, Nat.reduceAdd, Nat.reduceMul]
    exact ⟨true, o, u, rfl, hso, hgo, ⟨himp, by simp, fun _ => hdone rfl⟩, hbo, hHo⟩
  | true =>
  obtain ⟨xx, tb, c, hHe, ht⟩ := id hHo
  have hHe2 : H = gH ga gs V all o xx st tb c := hHe
  subst hHe
  simp only [nd0, Y1n, Y1o, Y1p, Y1q, Y1w, Y1x, Y1y, Y1z, Y20, Y21, Y28, Y2a, AV.cells?, Nat.reduceAdd, Nat.reduceMul]
  have hld : load1 (.ptrL 1 1 gs) (gH ga gs V all o xx st tb c) = some (LLI all) := by simp [gH, load1_L, blkCells_self]
  have hbs : (gH ga gs V all o xx st tb c).bs[1]? = some (.cells gs 5 [Z V, LLI all, .slL 0 0 (V + 1) ga, xx, Z st]) := rfl
  simp only [nd0, Y1n, Y1o, Y1p, Y1q, Y1w, Y1x, Y1y, Y1z, Y20, Y21, Y28, Y2a, AV.cells?, Nat.reduceAdd, Nat.reduceMul, hbs, lenA_LLI]
  refine wLoop.two (fun m t i H => ∃ (b : Bool) (o' u' : List Int) (pre rest : List (List Int)), t = Bo b ∧ all = pre ++ rest ∧ m = rest.length ∧ i = Z pre.length ∧ Sol V o' ∧ Grow V o u o' u' ∧ (∀ a, Sats a all → Exts V a of → Exts V a o') ∧ u'.length + opens V o' ≤ V ∧ GH ga gs V all o' u' st H ∧
      (b = true → opens V o' < opens V o) ∧ (b = false → o' = o ∧ ∀ c ∈ pre, (∃ x ∈ c, lv o x = 1) ∨ ∃ x ∈ c, lv o x = 0 ∧ ∃ y ∈ c, lv o y = 0 ∧ x ≠ y)) all.length
    (gh2.mk ⟨false, o, u, [], all, rfl, rfl, rfl, rfl, hso, .refl _ _ _, himp, hbo, hHo, by simp, fun _ => ⟨rfl, by simp⟩⟩) ?_
  rintro m2 t i H2 ⟨b, o', u', pre, rest, rfl, hpr, rfl, rfl, hso', hgo', himp', hbo', hH', hb1, hb0⟩
  cases rest with
  | nil =>
    rw [List.append_nil] at hpr
    rw [← hpr] at hb0
    simp only [nd0, Y1n, Y1o, Y1p, Y1q, Y1w, Y1x, Y1y, Y1z, Y20, Y21, Y28, Y2a, AV.cells?, Nat.reduceAdd, Nat.reduceMul, hpr, Int.lt_irrefl]
    rw [← hpr]
    refine back1.mk (opens V o' + (if b then 1 else 0)) ?_ ⟨b, o', u', rfl, rfl, hso', hgo.trans hgo', himp', hbo', hH', fun hbf => ?_⟩
    · cases b with
      | true => have := hb1 rfl; simp; omega
      | false => rw [(hb0 rfl).1]; simp
    · obtain ⟨q1, q2⟩ := hb0 hbf
      rw [q1]; exact q2
  | cons cl rest =>
  have hplt : pre.length < all.length := by rw [hpr]; simp
  have hcm : cl ∈ all := by rw [hpr]; simp
  have hcl := hall cl hcm
  have hcn := hn2 cl hcm
  simp only [nd0, Y1n, Y1o, Y1p, Y1q, Y1w, Y1x, Y1y, Y1z, Y20, Y21, Y28, Y2a, AV.cells?, Nat.reduceAdd, Nat.reduceMul, decide_eq_true (show (pre.length : Int) < (all.length : Int) by omega)]
  refine wJoin.one (fun t H => ∃ (b' : Bool) (o'' u'' : List Int), t = Bo b' ∧ Sol V o'' ∧ Grow V o u o'' u'' ∧ (∀ a, Sats a all → Exts V a of → Exts V a o'') ∧ u''.length + opens V o'' ≤ V ∧ GH ga gs V all o'' u'' st H ∧
      (b' = true → opens V o'' < opens V o) ∧ (b' = false → o'' = o ∧ ∀ c ∈ pre ++ [cl], (∃ x ∈ c, lv o x = 1) ∨ ∃ x ∈ c, lv o x = 0 ∧ ∃ y ∈ c, lv o y = 0 ∧ x ≠ y)) ?_ ?_
  case refine_2 =>
    rintro t H ⟨b', o'', u'', rfl, a1, a2, a3, a4, a5, a6, a7⟩
    rw [binA_succ (by omega)]
    simp only [nd0, Y1n, Y1o, Y1p, Y1q, Y1w, Y1x, Y1y, Y1z, Y20, Y21, Y28, Y2a, AV.cells?, Nat.reduceAdd, Nat.reduceMul]
    exact back2.mk rest.length (by simp) ⟨b', o'', u'', pre ++ [cl], rest, rfl, by rw [hpr]; simp, rfl, by simp, a1, a2, a3, a4, a5, a6, a7⟩
  rw [iaddr_LLI hplt]
  simp only [nd0, Y1n, Y1o, Y1p, Y1q, Y1w, Y1x, Y1y, Y1z, Y20, Y21, Y28, Y2a, AV.cells?, Nat.reduceAdd, Nat.reduceMul, row_get hplt, show row all pre.length = cl by unfold row; rw [hpr]; simp, lenA_LI]
  obtain ⟨xx2, tb2, c2, hHe2', ht2⟩ := id hH'
  subst hHe2'
  refine wLoop.four (fun m l n h i H => ∃ (p r : List Int) (left many : Int) (hbn : Bool), cl = p ++ r ∧ m = r.length ∧ i = Z p.length ∧ l = Z left ∧ n = Z many ∧ h = Bo hbn ∧ H = gH ga gs V all o' xx2 st tb2 c2 ∧ Scan o' p left many hbn) cl.length
    (gh4.mk ⟨[], cl, 0, 0, false, rfl, rfl, rfl, rfl, rfl, rfl, rfl, .nil _⟩) ?_
  rintro m3 l n h i H3 ⟨p, r, left, many, hbn, hcp, rfl, rfl, rfl, rfl, rfl, rfl, hsc⟩
  cases r with
  | nil =>
    rw [List.append_nil] at hcp
    subst hcp
    simp only [nd0, Y1n, Y1o, Y1p, Y1q, Y1w, Y1x, Y1y, Y1z, Y20, Y21, Y28, Y2a, AV.cells?, Nat.reduceAdd, Nat.reduceMul, Int.lt_irrefl]
    have hkeep : (∃ x ∈ cl, lv o' x = 1) ∨ (∃ x ∈ cl, lv o' x = 0 ∧ ∃ y ∈ cl, lv o' y = 0 ∧ x ≠ y) → gh1 (fun t H => ∃ (b' : Bool) (o'' u'' : List Int), t = Bo b' ∧ Sol V o'' ∧ Grow V o u o'' u'' ∧ (∀ a, Sats a all → Exts V a of → Exts V a o'') ∧ u''.length + opens V o'' ≤ V ∧ GH ga gs V all o'' u'' st H ∧
      (b' = true → opens V o'' < opens V o) ∧ (b' = false → o'' = o ∧ ∀ c ∈ pre ++ [cl], (∃ x ∈ c, lv o x = 1) ∨ ∃ x ∈ c, lv o x = 0 ∧ ∃ y ∈ c, lv o y = 0 ∧ x ≠ y)) (Bo b) (gH ga gs V all o' xx2 st tb2 c2) := fun hk =>
      gh1.mk ⟨b, o', u', rfl, hso', hgo', himp', hbo', hH', hb1, fun hbf => by
        obtain ⟨q1, q2⟩ := hb0 hbf
        refine ⟨q1, fun c hc => ?_⟩
        rcases List.mem_append.1 hc with hc | hc
        · exact q2 c hc
        · simp at hc; subst hc; rw [← q1]; exact hk⟩
    cases hbn with
    | true =>
      simp only [nd0, Y1n, Y1o, Y1p, Y1q, Y1w, Y1x, Y1y, Y1z, Y20, Y21, Y28, Y2a, AV.cells?, Nat.reduceAdd, Nat.reduceMul]
      exact hkeep (.inl (hsc.h.1 rfl))
    | false =>
    by_cases h1 : 1 < many
    · simp only [nd0, Y1n, Y1o, Y1p, Y1q, Y1w, Y1x, Y1y, Y1z, Y20, Y21, Y28, Y2a, AV.cells?, Nat.reduceAdd, Nat.reduceMul, decide_eq_true h1]
      exact hkeep (.inr (hsc.more h1).2.2)
    simp only [nd0, Y1n, Y1o, Y1p, Y1q, Y1w, Y1x, Y1y, Y1z, Y20, Y21, Y28, Y2a, AV.cells?, Nat.reduceAdd, Nat.reduceMul, decide_eq_false h1]
    have hpos := hsc.pos
    by_cases h0 : many = 0
    · simp only [nd0, Y1n, Y1o, Y1p, Y1q, Y1w, Y1x, Y1y, Y1z, Y20, Y21, Y28, Y2a, AV.cells?, Nat.reduceAdd, Nat.reduceMul, decide_eq_true h0]
      subst h0
      refine ⟨false, o', u', rfl, hso', hgo.trans hgo', ⟨himp', fun _ a ha he => ?_, by simp⟩, hbo', hH'⟩
      exact clause_none hso' hcl hsc (himp' a ha he) (ha cl hcm)
    · simp only [nd0, Y1n, Y1o, Y1p, Y1q, Y1w, Y1x, Y1y, Y1z, Y20, Y21, Y28, Y2a, AV.cells?, Nat.reduceAdd, Nat.reduceMul, decide_eq_false h0]
      have h11 : many = 1 := by omega
      subst h11
      obtain ⟨k1, k2, k3, k4⟩ := hsc.one rfl
      have hll := hcl left k2
      refine ⟨_, set_spec B hso' hV hll (by omega) hH', ?_⟩
      rintro r' H4 ⟨rfl, hH4⟩
      refine gh1.mk ⟨true, litSet o' left, u' ++ [(vr left : Int)], rfl, hso'.set hll, hgo'.trans (Grow.set hso' hll k3), fun a ha he => ?_, ?_, hH4, fun _ => ?_, by simp⟩
      · have he' := himp' a ha he
        exact Exts.set hso' hll he' (clause_unit hso' hcl hsc he' (ha cl hcm))
      · have := opens_lt hso' hll k3; simp; omega
      · have := opens_lt hso' hll k3
        have := opens_le_grow hgo'
        omega
  | cons x r =>
    have hxm : x ∈ cl := by rw [hcp]; simp
    have hxo := hcl x hxm
    have hpl : p.length < cl.length := by rw [hcp]; simp
    have hmle := hsc.le
    have hmpos := hsc.pos
    simp only [nd0, Y1n, Y1o, Y1p, Y1q, Y1w, Y1x, Y1y, Y1z, Y20, Y21, Y28, Y2a, AV.cells?, Nat.reduceAdd, Nat.reduceMul, decide_eq_true (show (p.length : Int) < (cl.length : Int) by omega)]
    refine wJoin.three (fun l n h H => ∃ (left many : Int) (hbn : Bool), l = Z left ∧ n = Z many ∧ h = Bo hbn ∧ H = gH ga gs V all o' xx2 st tb2 c2 ∧ Scan o' (p ++ [x]) left many hbn) ?_ ?_
    case refine_2 =>
      rintro l n h H ⟨left, many, hbn, rfl, rfl, rfl, rfl, hsc'⟩
      rw [binA_succ (by omega)]
      simp only [nd0, Y1n, Y1o, Y1p, Y1q, Y1w, Y1x, Y1y, Y1z, Y20, Y21, Y28, Y2a, AV.cells?, Nat.reduceAdd, Nat.reduceMul]
      exact back4.mk r.length (by simp) ⟨p ++ [x], r, left, many, hbn, by rw [hcp]; simp, rfl, by simp, rfl, rfl, rfl, rfl, hsc'⟩
    have hg : (cl.map fun z => Z z)[p.length]? = some (Z x) := by rw [hcp]; exact at_mid
    rw [iaddr_LI hpl]
    simp only [nd0, Y1n, Y1o, Y1p, Y1q, Y1w, Y1x, Y1y, Y1z, Y20, Y21, Y28, Y2a, AV.cells?, Nat.reduceAdd, Nat.reduceMul, hg]
    refine ⟨_, is_spec B hso' hV hxo xx2 st tb2 c2, ?_⟩
    rintro r' H4 ⟨rfl, rfl⟩
    by_cases e1 : lv o' x = 1
    · simp only [nd0, Y1n, Y1o, Y1p, Y1q, Y1w, Y1x, Y1y, Y1z, Y20, Y21, Y28, Y2a, AV.cells?, Nat.reduceAdd, Nat.reduceMul, decide_eq_true e1]
      exact gh3.mk ⟨left, many, true, rfl, rfl, rfl, rfl, hsc.hit e1⟩
    simp only [nd0, Y1n, Y1o, Y1p, Y1q, Y1w, Y1x, Y1y, Y1z, Y20, Y21, Y28, Y2a, AV.cells?, Nat.reduceAdd, Nat.reduceMul, decide_eq_false e1]
    by_cases e0 : lv o' x = 0
    · simp only [nd0, Y1n, Y1o, Y1p, Y1q, Y1w, Y1x, Y1y, Y1z, Y20, Y21, Y28, Y2a, AV.cells?, Nat.reduceAdd, Nat.reduceMul, decide_eq_true e0]
      have hop := hsc.open_ e0 hxo.1
      refine wJoin.one (fun n H => n = Z (if x = left then many else many + 1) ∧ H = gH ga gs V all o' xx2 st tb2 c2) ?_ ?_
      case refine_2 =>
        rintro n H ⟨rfl, rfl⟩
        exact gh3.mk ⟨x, _, hbn, rfl, rfl, rfl, rfl, hop⟩
      by_cases el : x = left
      · simp only [nd0, Y1n, Y1o, Y1p, Y1q, Y1w, Y1x, Y1y, Y1z, Y20, Y21, Y28, Y2a, AV.cells?, Nat.reduceAdd, Nat.reduceMul, decide_eq_true el]
        exact gh1.mk ⟨by rw [if_pos el], rfl⟩
      · simp only [nd0, Y1n, Y1o, Y1p, Y1q, Y1w, Y1x, Y1y, Y1z, Y20, Y21, Y28, Y2a, AV.cells?, Nat.reduceAdd, Nat.reduceMul, decide_eq_false el]
        rw [binA_add (by omega)]
        simp only [nd0, Y1n, Y1o, Y1p, Y1q, Y1w, Y1x, Y1y, Y1z, Y20, Y21, Y28, Y2a, AV.cells?, Nat.reduceAdd, Nat.reduceMul]
        exact gh1.mk ⟨by rw [if_neg el], rfl⟩
    · simp only [nd0, Y1n, Y1o, Y1p, Y1q, Y1w, Y1x, Y1y, Y1z, Y20, Y21, Y28, Y2a, AV.cells?, Nat.reduceAdd, Nat.reduceMul, decide_eq_false e0]
      exact gh3.mk ⟨left, many, hbn, rfl, rfl, rfl, rfl, hsc.miss e1 e0⟩
end
end Go.Sc
