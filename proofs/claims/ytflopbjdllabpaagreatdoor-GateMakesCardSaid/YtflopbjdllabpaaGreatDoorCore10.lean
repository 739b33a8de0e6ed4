/- CONTRACTS: package gate: an expression's clauses: Of. CONTRACTS: the reference's GateOf. CONTRACTS: the reference's GateOf, whole. TSEITIN: an expression can hold just if its clauses can; what is made tidy asks of no new names. PLAIN LAWS OF TABLES: the reference's marks: in which round two states are parted. CONTRACTS: the reference's tables: apart. CONTRACTS: the reference's tables: Blocks, Least; the law's helpers. THE LAW BlockBlocks, out of the contracts. THE LAW GateMakes, out of the contracts. A PACKAGE-LEVEL NUMBER THAT MAY BE ANY: told to the contract of a row; strings.Contains out of the kit's shelf. errors.As(err, *Errno): Go's own text walked, after the guide's worked walk (its toy 'toyas'). (of the seat YtflopbjdllabpaaGreatDoor) -/
import Derived.Test.YtflopbjdllabpaaGreatDoorCore9
import Derived.SizedLaws
import Derived.Shelf.Vars
import Derived.Lib.IndexMore
import Derived.Test.YtflopbjdllabpaaGreatDoorProg
import Derived.WalkKit
import Derived.LaidEql
import Derived.Stop.Asserts
import Derived.RowKitTokens
namespace Go.Sc
open Go
set_option linter.unusedSimpArgs false
set_option linter.unusedVariables false
set_option linter.unnecessarySimpa false
mutual
theorem Ex.raw_ok : ∀ x : Ex, x.fine → ∀ s ∈ x.raw nf1, nameOk s = true
  | .k _, _, s, h => by simp [Ex.raw, nmL, nf1] at h
  | .bit t, hf, s, h => by
    simp [Ex.raw, nmL, nf1, nameOk_ne hf] at h
    subst h; exact hf
  | .rise t, hf, s, h => by
    simp [Ex.raw, nmL, nf1, nameOk_ne hf] at h
    subst h; exact hf
  | .fall t, hf, s, h => by
    simp [Ex.raw, nmL, nf1, nameOk_ne hf] at h
    subst h; exact hf
  | .not y, hf, s, h => by
    simp [Ex.raw, nmL, nf1] at h
    exact Ex.raw_ok y hf s h
  | .and l, hf, s, h => by
    simp [Ex.raw, nmL, nf1] at h
    exact Ex.rawL_ok l hf.2 s h
  | .or l, hf, s, h => by
    simp [Ex.raw, nmL, nf1] at h
    exact Ex.rawL_ok l hf.2 s h
theorem Ex.rawL_ok : ∀ l : List Ex, Ex.fineL l → ∀ s ∈ Ex.rawL nf1 l, nameOk s = true
  | [], _, s, h => by simp [Ex.rawL] at h
  | x :: l, hf, s, h => by
    simp only [Ex.rawL, List.mem_append] at h
    rcases h with h | h
    · exact Ex.raw_ok x hf.1 s h
    · exact Ex.rawL_ok l hf.2 s h
end
theorem names_ok {x : Ex} (hf : x.fine) {s : Str} (h : s ∈ x.names) : nameOk s = true := Ex.raw_ok x hf s (onceS_mem.1 h)
theorem edges_ok {x : Ex} (hf : x.fine) {s : Str} (h : s ∈ x.edges) : nameOk s = true := Ex.raw_ok x hf s (Ex.edge_name x s (onceS_mem.1 h))
theorem not_hat {s t : Str} (h : nameOk s = true) : s ≠ 94 :: t := by
  rintro rfl
  simp only [nameOk, Bool.and_eq_true] at h
  exact absurd h.1.1.1 (by decide)
theorem edges_nodup (x : Ex) : x.edges.Nodup := ltnodup (onceS_strict _)
def hats (l : List Str) : List Str := l.map fun s => 94 :: s
theorem hats_mem {l : List Str} {s : Str} : 94 :: s ∈ hats l ↔ s ∈ l := by simp [hats]
def gks (x : Ex) : List Str := x.names ++ hats x.edges
def gateP (x : Ex) : Int × Bd := litP (nmv (gks x)) x ⟨(gks x).length, []⟩
def OfA (x : Ex) : AV := .tup [Cl (gateP x).2.vars (gateP x).2.cl, Z (gateP x).1, nilE]
theorem names_len (x : Ex) : x.names.length ≤ x.size := by have := onceS_length (x.raw nf1); have := Ex.raw_len nf1 x; unfold Ex.names; omega
theorem edges_len (x : Ex) : x.edges.length ≤ x.size := by have := onceS_length (x.raw nf2); have := Ex.raw_len nf2 x; unfold Ex.edges; omega
theorem gks_len (x : Ex) : (gks x).length = x.names.length + x.edges.length := by simp [gks, hats]
theorem gks_name {x : Ex} {s : Str} (h : s ∈ x.names) : nmv (gks x) s = ((ixN x.names s + 1 : Nat) : Int) := by
  obtain ⟨pre, rest, e, hn⟩ := mem_split h
  unfold nmv gks
  rw [if_pos (List.mem_append_left _ h), e, List.append_assoc, List.cons_append, ixN_app hn, ixN_app hn]
theorem gks_edge {x : Ex} (hf : x.fine) {s : Str} (h : s ∈ x.edges) : nmv (gks x) (94 :: s) = ((x.names.length + ixN x.edges s + 1 : Nat) : Int) := by
  obtain ⟨pre, rest, e, hn⟩ := mem_split h
  have hno : 94 :: s ∉ x.names ++ hats pre := by
    rw [List.mem_append, hats_mem]
    rintro (k | k)
    · exact not_hat (names_ok hf k) rfl
    · exact hn k
  have hg : gks x = (x.names ++ hats pre) ++ (94 :: s) :: hats rest := by unfold gks; rw [e]; simp [hats]
  have hix : ixN x.edges s = pre.length := by rw [e, ixN_app hn]
  unfold nmv
  rw [hix, hg, if_pos (by simp), ixN_app hno]
  simp [hats]
theorem gks_ok {x : Ex} (hf : x.fine) : nmOk (nmv (gks x)) (gks x).length x := by
  refine Ex.on_of x hf (fun s h => ?_) (fun s h => ?_)
  · have h' : s ∈ x.names := onceS_mem.2 h
    have := ixN_lt h'
    rw [gks_name h', gks_len]
    unfold okLit; omega
  · have h' : s ∈ x.edges := onceS_mem.2 h
    have := ixN_lt h'
    rw [gks_edge hf h', gks_len]
    unfold okLit; omega
theorem gateP_vars (x : Ex) : (gks x).length ≤ (gateP x).2.vars ∧ (gateP x).2.vars ≤ 3 * x.size := by
  have h1 := litP_vars (nmv (gks x)) x ⟨(gks x).length, []⟩
  have h2 := names_len x
  have h3 := edges_len x
  have h4 := gks_len x
  unfold gateP
  simp only at h1 ⊢
  omega
theorem gateP_cl (x : Ex) : (gateP x).2.cl.length + 1 ≤ 4 * x.size := by
  have h1 := litP_cl (nmv (gks x)) x ⟨(gks x).length, []⟩
  unfold gateP
  simp only [List.length_nil] at h1 ⊢
  omega
theorem nums_succ (n : Nat) : nums n ++ [Z ((n + 1 : Nat) : Int)] = nums (n + 1) := by simp [nums, List.range_succ]
structure OfBodies (E : Env) (P : Program) : Prop extends MakeBodies E P where
  d : SortedBodies E P
  z : SizeBodies E P
section
variable {E : Env} {P : Program}
theorem Of_nil (B : MakeBodies E P) : FX E P 233 [nilE] (.tup [.agg [Z 0, nilS], Z 0, .ifc 1 (Z 7)]) := by
  refine FX.of' ⟨trivial, trivial⟩ (by simp [AV.closed, AV.closedL]) fun n R hR => B.of _ _ _ ?_
  unfold F.gate_Of
  refine wNew.L (l := [Z 0, nilS]) rfl ?_
  simp only [nd0, Y1n, Y1o, Y1p, Y1q, Y1w, Y1x, Y1y, Y1z, Y20, Y21, Y28, Y2a, AV.cells?, Nat.reduceAdd, Nat.reduceMul]
  refine ⟨⟨[Z 0, nilS], rfl, ?_⟩⟩
  rw [storeN_L (n := 2) (xs := [Z 0, nilS]) rfl rfl]
  simp only [nd0, Y1n, Y1o, Y1p, Y1q, Y1w, Y1x, Y1y, Y1z, Y20, Y21, Y28, Y2a, AV.cells?, Nat.reduceAdd, Nat.reduceMul, put_two]
  exact ⟨_, rfl, hR _ _ rfl⟩
theorem Of_big (B : OfBodies E P) (x : Ex) (hw : x.wt ≤ 1000000) (hf : x.fine) (hs : 300 < x.size) : FX E P 233 [x.enc] (.tup [.agg [Z 0, nilS], Z 0, .ifc 1 (Z 4)]) := by
  refine FX.of' ⟨Ex.enc_closed x, trivial⟩ (by simp [AV.closed, AV.closedL]) fun n R hR => B.of _ _ _ ?_
  unfold F.gate_Of
  refine wNew.L (l := [Z 0, nilS]) rfl ?_
  simp only [nd0, Y1n, Y1o, Y1p, Y1q, Y1w, Y1x, Y1y, Y1z, Y20, Y21, Y28, Y2a, AV.cells?, Nat.reduceAdd, Nat.reduceMul, Ex.enc_nil]
  refine wCall.fx (Size_spec B.z x hw hf) fun n => ?_
  simp only [nd0, Y1n, Y1o, Y1p, Y1q, Y1w, Y1x, Y1y, Y1z, Y20, Y21, Y28, Y2a, AV.cells?, Nat.reduceAdd, Nat.reduceMul, decide_eq_true (show (300 : Int) < (x.size : Int) by omega)]
  refine ⟨⟨[Z 0, nilS], rfl, ?_⟩⟩
  rw [storeN_L (n := 2) (xs := [Z 0, nilS]) rfl rfl]
  simp only [nd0, Y1n, Y1o, Y1p, Y1q, Y1w, Y1x, Y1y, Y1z, Y20, Y21, Y28, Y2a, AV.cells?, Nat.reduceAdd, Nat.reduceMul, put_two]
  exact ⟨_, rfl, hR _ _ rfl⟩
/-- its clauses may still grow -/
def OfG (x : Ex) (r : AV) (H : AH) : Prop := ∃ t b0 b1 b2 z c, r = .tup [.agg [Z (gateP x).2.vars, t], Z (gateP x).1, nilE] ∧ Gr 1 z 3 t ((gateP x).2.cl.map LI) (gateP x).2.cl.length ∧ H = ⟨[b0, b1, b2, z], c⟩
theorem Of_grow (B : OfBodies E P) (x : Ex) (hw : x.wt ≤ 1000000) (hf : x.fine) (hs : x.size ≤ 300) (n : Nat) : ACalls E P 233 [x.enc] ⟨[], n⟩ (OfG x) := by
  refine B.of _ _ _ ?_
  unfold F.gate_Of
  refine wNew.L (l := [Z 0, nilS]) rfl ?_
  simp only [nd0, Y1n, Y1o, Y1p, Y1q, Y1w, Y1x, Y1y, Y1z, Y20, Y21, Y28, Y2a, AV.cells?, Nat.reduceAdd, Nat.reduceMul, Ex.enc_nil]
  refine wCall.fx (Size_spec B.z x hw hf) fun n1 => ?_
  simp only [nd0, Y1n, Y1o, Y1p, Y1q, Y1w, Y1x, Y1y, Y1z, Y20, Y21, Y28, Y2a, AV.cells?, Nat.reduceAdd, Nat.reduceMul, decide_eq_false (show ¬ (300 : Int) < (x.size : Int) by omega)]
  refine wMapN.L ?_
  simp only [nd0, Y1n, Y1o, Y1p, Y1q, Y1w, Y1x, Y1y, Y1z, Y20, Y21, Y28, Y2a, AV.cells?, Nat.reduceAdd, Nat.reduceMul]
  refine ⟨⟨[Z 0, nilS, .mapL 1 n1], rfl, ?_⟩⟩
  refine wNew.L (l := [Z 0, nilS, .mapL 1 n1]) rfl ?_
  simp only [nd0, Y1n, Y1o, Y1p, Y1q, Y1w, Y1x, Y1y, Y1z, Y20, Y21, Y28, Y2a, AV.cells?, Nat.reduceAdd, Nat.reduceMul]
  refine wCall.fx (Names_spec B.d x hw hf) fun n2 => ?_
  have hnl := names_len x
  have hel := edges_len x
  rw [Lm_S]
  simp only [nd0, Y1n, Y1o, Y1p, Y1q, Y1w, Y1x, Y1y, Y1z, Y20, Y21, Y28, Y2a, AV.cells?, Nat.reduceAdd, Nat.reduceMul]
  refine wLoop.one (fun m i H => ∃ pre rest, x.names = pre ++ rest ∧ i = Z pre.length ∧ m = rest.length ∧ SG (.cells n 2 [Z 0, nilS]) pre ⟨pre.length, []⟩ (n1 + 1) n1 [] H) x.names.length
    (gh1.of (ghost_room [.dead] (by simp)) ⟨[], x.names, rfl, rfl, rfl, .dead, nilS, _, rfl, .nil⟩) ?_
  rintro m i H ⟨pre, rest, hpr, rfl, rfl, hH⟩
  have hpl : pre.length + rest.length = x.names.length := by rw [hpr]; simp
  cases rest with
  | cons s rest =>
    have hlt : pre.length < x.names.length := by rw [hpr]; simp
    have hns : s ∉ pre := by
      have := names_nodup x
      rw [hpr, List.nodup_append] at this
      exact fun h => this.2.2 s h s (by simp) rfl
    obtain ⟨z, t, c, rfl, hg⟩ := hH
    simp only [nd0, Y1n, Y1o, Y1p, Y1q, Y1w, Y1x, Y1y, Y1z, Y20, Y21, Y28, Y2a, AV.cells?, Nat.reduceAdd, Nat.reduceMul, decide_eq_true (show (pre.length : Int) < (x.names.length : Int) by omega)]
    rw [iaddr_Nn hlt]
    simp only [nd0, Y1n, Y1o, Y1p, Y1q, Y1w, Y1x, Y1y, Y1z, Y20, Y21, Y28, Y2a, AV.cells?, Nat.reduceAdd, Nat.reduceMul, show (x.names.map fun s => S s)[pre.length]? = some (S s) by rw [hpr]; simp]
    refine ⟨_, gFresh_spec B.toMakeBodies (b := ⟨pre.length, []⟩) (by simp only; omega) ⟨z, t, c, rfl, hg⟩, ?_⟩
    rintro r H1 ⟨rfl, z, t, c, rfl, hg⟩
    simp only [nd0, Y1n, Y1o, Y1p, Y1q, Y1w, Y1x, Y1y, Y1z, Y20, Y21, Y28, Y2a, AV.cells?, Nat.reduceAdd, Nat.reduceMul, and_self, true_and]
    rw [insertA_new rfl rfl (by rw [findK_S, if_neg hns])]
    simp only [nd0, Y1n, Y1o, Y1p, Y1q, Y1w, Y1x, Y1y, Y1z, Y20, Y21, Y28, Y2a, AV.cells?, Nat.reduceAdd, Nat.reduceMul]
    rw [binA_succ (by omega)]
    simp only [nd0, Y1n, Y1o, Y1p, Y1q, Y1w, Y1x, Y1y, Y1z, Y20, Y21, Y28, Y2a, AV.cells?, Nat.reduceAdd, Nat.reduceMul]
    refine back1.mk rest.length (by simp) ⟨pre ++ [s], rest, by rw [hpr]; simp, by simp, rfl, z, t, c, ?_, by simpa using hg⟩
    have := nums_succ pre.length
    simpa using this
  | nil =>
  rw [List.append_nil] at hpr
  subst hpr
  simp only [nd0, Y1n, Y1o, Y1p, Y1q, Y1w, Y1x, Y1y, Y1z, Y20, Y21, Y28, Y2a, AV.cells?, Nat.reduceAdd, Nat.reduceMul, Int.lt_irrefl]
  obtain ⟨z, t, c, rfl, hg⟩ := hH
  refine wCall.fx (Edges_spec B.d x hw hf) fun n2 => ?_
  rw [Lm_S]
  simp only [nd0, Y1n, Y1o, Y1p, Y1q, Y1w, Y1x, Y1y, Y1z, Y20, Y21, Y28, Y2a, AV.cells?, Nat.reduceAdd, Nat.reduceMul]
  refine wLoop.one (fun m i H => ∃ pre rest, x.edges = pre ++ rest ∧ i = Z pre.length ∧ m = rest.length ∧ SG (.cells n 2 [Z 0, nilS]) (x.names ++ hats pre) ⟨x.names.length + pre.length, []⟩ (n1 + 1) n1 [] H) x.edges.length
    (gh1.mk ⟨[], x.edges, rfl, rfl, rfl, z, t, n2, by simp [hats], hg⟩) ?_
  rintro m i H ⟨pre, rest, hpr, rfl, rfl, hH⟩
  have hpl : pre.length + rest.length = x.edges.length := by rw [hpr]; simp
  cases rest with
  | cons s rest =>
    have hlt : pre.length < x.edges.length := by rw [hpr]; simp
    have hok : nameOk s = true := edges_ok hf (by rw [hpr]; simp)
    have hlen := nameOk_len hok
    have hns : 94 :: s ∉ x.names ++ hats pre := by
      rw [List.mem_append, hats_mem]
      rintro (k | k)
      · exact not_hat (names_ok hf k) rfl
      · have := edges_nodup x
        rw [hpr, List.nodup_append] at this
        exact this.2.2 s k s (by simp) rfl
    obtain ⟨z, t, c, rfl, hg⟩ := hH
    simp only [nd0, Y1n, Y1o, Y1p, Y1q, Y1w, Y1x, Y1y, Y1z, Y20, Y21, Y28, Y2a, AV.cells?, Nat.reduceAdd, Nat.reduceMul, decide_eq_true (show (pre.length : Int) < (x.edges.length : Int) by omega)]
    rw [iaddr_Nn hlt]
    simp only [nd0, Y1n, Y1o, Y1p, Y1q, Y1w, Y1x, Y1y, Y1z, Y20, Y21, Y28, Y2a, AV.cells?, Nat.reduceAdd, Nat.reduceMul, show (x.edges.map fun s => S s)[pre.length]? = some (S s) by rw [hpr]; simp]
    rw [show (AV.val (.string ⟨#[94]⟩)) = S [94] from rfl, binA_cat (s := [94]) (t := s) (by simp; omega)]
    simp only [nd0, Y1n, Y1o, Y1p, Y1q, Y1w, Y1x, Y1y, Y1z, Y20, Y21, Y28, Y2a, AV.cells?, Nat.reduceAdd, Nat.reduceMul]
    refine ⟨_, gFresh_spec B.toMakeBodies (b := ⟨x.names.length + pre.length, []⟩) (by simp only; omega) ⟨z, t, c, rfl, hg⟩, ?_⟩
    rintro r H1 ⟨rfl, z, t, c, rfl, hg⟩
    simp only [nd0, Y1n, Y1o, Y1p, Y1q, Y1w, Y1x, Y1y, Y1z, Y20, Y21, Y28, Y2a, AV.cells?, Nat.reduceAdd, Nat.reduceMul, and_self, true_and]
    rw [insertA_new rfl rfl (by rw [findK_S, if_neg hns])]
    simp only [nd0, Y1n, Y1o, Y1p, Y1q, Y1w, Y1x, Y1y, Y1z, Y20, Y21, Y28, Y2a, AV.cells?, Nat.reduceAdd, Nat.reduceMul]
    rw [binA_succ (by omega)]
    simp only [nd0, Y1n, Y1o, Y1p, Y1q, Y1w, Y1x, Y1y, Y1z, Y20, Y21, Y28, Y2a, AV.cells?, Nat.reduceAdd, Nat.reduceMul]
    refine back1.mk rest.length (by simp) ⟨pre ++ [s], rest, by rw [hpr]; simp, by simp, rfl, z, t, c, ?_, by simpa using hg⟩
    have e : x.names ++ hats (pre ++ [s]) = (x.names ++ hats pre) ++ [94 :: s] := by simp [hats]
    have e2 : (x.names ++ hats pre).length = x.names.length + pre.length := by simp [hats]
    have e3 : (x.names ++ hats (pre ++ [s])).length = x.names.length + pre.length + 1 := by simp [hats]; omega
    rw [e3, ← nums_succ, e, List.map_append]
    rw [e2]
    simp [Nat.add_assoc]
  | nil =>
  rw [List.append_nil] at hpr
  subst hpr
  simp only [nd0, Y1n, Y1o, Y1p, Y1q, Y1w, Y1x, Y1y, Y1z, Y20, Y21, Y28, Y2a, AV.cells?, Nat.reduceAdd, Nat.reduceMul, Int.lt_irrefl]
  have hv := gateP_vars x
  have hcl := gateP_cl x
  have hH' : SG (.cells n 2 [Z 0, nilS]) (gks x) ⟨(gks x).length, []⟩ (n1 + 1) n1 [] H := by rw [gks_len]; exact hH
  have hgl := gks_len x
  refine ⟨_, lit_spec B.toMakeBodies (by omega) (x.wt + 1) x (by omega) hf _ _ ⟨(gks x).length, []⟩ [] H (by simp only; omega) (by simp only [List.length_nil]; omega) (gks_ok hf) (by simp) hH', ?_⟩
  rintro r H1 ⟨rfl, z, t, c, rfl, hg⟩
  simp only [nd0, Y1n, Y1o, Y1p, Y1q, Y1w, Y1x, Y1y, Y1z, Y20, Y21, Y28, Y2a, AV.cells?, Nat.reduceAdd, Nat.reduceMul]
  rw [show ∀ v : Nat, Option.map AV.agg (subL [Z v, t, .mapL 1 n1] 0 2) = some (.agg [Z v, t]) from fun _ => rfl]
  simp only [nd0, Y1n, Y1o, Y1p, Y1q, Y1w, Y1x, Y1y, Y1z, Y20, Y21, Y28, Y2a, AV.cells?, Nat.reduceAdd, Nat.reduceMul]
  rw [storeN_L (n := 2) (xs := [Z (litP (nmv (gks x)) x ⟨(gks x).length, []⟩).2.vars, t]) rfl (show (true && (t.scalar && true)) = true by rw [hg.scalar]; rfl)]
  simp only [nd0, Y1n, Y1o, Y1p, Y1q, Y1w, Y1x, Y1y, Y1z, Y20, Y21, Y28, Y2a, AV.cells?, Nat.reduceAdd, Nat.reduceMul, put_two]
  exact ⟨_, rfl, t, _, _, _, z, c, rfl, hg, rfl⟩
theorem Of_spec (B : OfBodies E P) (x : Ex) (hw : x.wt ≤ 1000000) (hf : x.fine) (hs : x.size ≤ 300) : FX E P 233 [x.enc] (OfA x) := by
  refine FX.of ⟨Ex.enc_closed x, trivial⟩ (by simp [OfA, AV.closed, AV.closedL, Cl_closed]) fun n R hR => (Of_grow B x hw hf hs n).mono ?_
  rintro r H ⟨t, b0, b1, b2, z, c, rfl, hg, rfl⟩
  exact ⟨_, _, .refl _ _, hR _ _ (.sub (.tup (.cons (.agg (.cons (.refl _) (.one hg.sub))) (.refl _))))⟩
end
end Go.Sc
namespace Go.Sc.F
open Go Go.Sc
set_option linter.unusedVariables false
/-- signalbox/signalboxref.index -/
def ref_index (E : Env) (P : Program) (a0 a1 : AV) (H : AH) (R : Kt) : Prop :=
  wGet (lenA a0) H fun t8 H =>
  wLoop 1 (fun I1 => I1 (.val (.int .i64 0)) H) fun I1 t9 H =>
    wGet (binA .lss t9 t8) H fun t10 H =>
    wIf t10 (
      wGet (iaddr 1 a0 t9) H fun t12 H =>
      wGet (load1 t12 H) H fun t13 H =>
      wGet (binA .eql t13 a1) H fun t16 H =>
      wGuard t16 true H (fun k => k a1 H) fun t18 H =>
      wGuard t16 true H (fun k => wGet (binA .neq t18 (.val (.string ⟨#[]⟩))) H k) fun t19 H =>
      wGet (pickA t16 t19 (.val (.bool false))) H fun t20 H =>
      wIf t20 (
        R t9 H) (
        wGet (binA .add t9 (.val (.int .i64 1))) H fun t22 H =>
        I1 t22 H)) (
      R (.val (.int .i64 (-1))) H)

end Go.Sc.F
namespace Go.Sc.F
open Go Go.Sc
set_option linter.unusedVariables false
/-- signalbox/signalboxlaw.GateMakes -/
def law_GateMakes (E : Env) (P : Program) (a0 : AV) (H : AH) (R : Kt) : Prop :=
  wCall E P 169 [a0] H fun t16 H =>
  wGet (extractA t16 0) H fun t17 H =>
  wGet (extractA t16 1) H fun t18 H =>
  wGet (extractA t16 2) H fun t19 H =>
  wGet (unA .not t19) H fun t21 H =>
  wIf t21 (
    R (.val (.bool true)) H) (
    wCall E P 233 [t17] H fun t24 H =>
    wGet (extractA t24 0) H fun t25 H =>
    wGet (extractA t24 1) H fun t26 H =>
    wGet (extractA t24 2) H fun t27 H =>
    wNew 2 (some [(.val (.int .i64 0)), (.val (.slice none 0 0))]) H fun t6 H =>
    wPut (storeN 2 t6 t25 H) fun _u H =>
    wCall E P 233 [(.val (.nilIface))] H fun t29 H =>
    wGet (extractA t29 0) H fun t30 H =>
    wGet (extractA t29 1) H fun t31 H =>
    wGet (extractA t29 2) H fun t32 H =>
    wNew 2 (some [(.val (.int .i64 0)), (.val (.slice none 0 0))]) H fun t9 H =>
    wPut (storeN 2 t9 t30 H) fun _u H =>
    wCall E P 89 [t32, (.val (.int .i64 7))] H fun t34 H =>
    wGet (unA .not t34) H fun t35 H =>
    wGuard t35 false H (fun k => k t17 H) fun t37 H =>
    wGuard t35 false H (fun k => wBool (eqA .iface t37 (.val (.nilIface))) H false k) fun t38 H =>
    wGet (pickA t35 (.val (.bool true)) t38) H fun t39 H =>
    wIf t39 (
      R (.val (.bool false)) H) (
      wCall E P 186 [t18] H fun t41 H =>
      wGet (binA .gtr t41 (.val (.int .i64 300))) H fun t42 H =>
      wIf t42 (
        wCall E P 89 [t27, (.val (.int .i64 4))] H fun t44 H =>
        wGuard t44 true H (fun k => k t26 H) fun t46 H =>
        wGuard t44 true H (fun k => wGet (binA .eql t46 (.val (.int .i64 0))) H k) fun t47 H =>
        wGet (pickA t44 t47 (.val (.bool false))) H fun t48 H =>
        wGuard t48 true H (fun k => wGet (faddr 0 t6) H k) fun t50 H =>
        wGuard t48 true H (fun k => wGet (load1 t50 H) H k) fun t51 H =>
        wGuard t48 true H (fun k => wGet (binA .eql t51 (.val (.int .i64 0))) H k) fun t52 H =>
        wGet (pickA t48 t52 (.val (.bool false))) H fun t53 H =>
        wGuard t53 true H (fun k => wGet (faddr 1 t6) H k) fun t55 H =>
        wGuard t53 true H (fun k => wGet (load1 t55 H) H k) fun t56 H =>
        wGuard t53 true H (fun k => wGet (lenA t56) H k) fun t57 H =>
        wGuard t53 true H (fun k => wGet (binA .eql t57 (.val (.int .i64 0))) H k) fun t58 H =>
        wGet (pickA t53 t58 (.val (.bool false))) H fun t59 H =>
        R t59 H) (
        wCall E P 239 [t18] H fun t62 H =>
        wGet (extractA t62 0) H fun t63 H =>
        wGet (extractA t62 1) H fun t64 H =>
        wNew 2 (some [(.val (.int .i64 0)), (.val (.slice none 0 0))]) H fun t12 H =>
        wPut (storeN 2 t12 t63 H) fun _u H =>
        wBool (eqA .iface t27 (.val (.nilIface))) H false fun t66 H =>
        wGuard t66 true H (fun k => k t26 H) fun t68 H =>
        wGuard t66 true H (fun k => k t64 H) fun t69 H =>
        wGuard t66 true H (fun k => wGet (binA .eql t68 t69) H k) fun t70 H =>
        wGet (pickA t66 t70 (.val (.bool false))) H fun t71 H =>
        wGuard t71 true H (fun k => wGet (faddr 0 t6) H k) fun t73 H =>
        wGuard t71 true H (fun k => wGet (load1 t73 H) H k) fun t74 H =>
        wGuard t71 true H (fun k => wGet (faddr 0 t12) H k) fun t75 H =>
        wGuard t71 true H (fun k => wGet (load1 t75 H) H k) fun t76 H =>
        wGuard t71 true H (fun k => wGet (binA .eql t74 t76) H k) fun t77 H =>
        wGet (pickA t71 t77 (.val (.bool false))) H fun t78 H =>
        wGuard t78 true H (fun k => wGet (faddr 1 t6) H k) fun t80 H =>
        wGuard t78 true H (fun k => wGet (load1 t80 H) H k) fun t81 H =>
        wGuard t78 true H (fun k => wGet (faddr 1 t12) H k) fun t82 H =>
        wGuard t78 true H (fun k => wGet (load1 t82 H) H k) fun t83 H =>
        wGuard t78 true H (fun k => wCall E P 81 [t81, t83] H k) fun t84 H =>
        wGet (pickA t78 t84 (.val (.bool false))) H fun t85 H =>
        R t85 H)))

/-- signalbox/signalboxref.GateOf -/
def ref_GateOf (E : Env) (P : Program) (a0 : AV) (H : AH) (R : Kt) : Prop :=
  wNew 2 (some [(.val (.int .i64 0)), (.val (.slice none 0 0))]) H fun t2 H =>
  wAgg (fillA [(.val (.int .i64 0)), (.val (.slice none 0 0))] []) H fun t10 H =>
  wNew 2 (some [(.val (.int .i64 0)), (.val (.slice none 0 0))]) H fun t4 H =>
  wPut (storeN 2 t4 t10 H) fun _u H =>
  wCall E P 182 [a0] H fun t12 H =>
  wCall E P 185 [a0] H fun t14 H =>
  wNew 1 (some [(.val (.slice none 0 0))]) H fun t5 H =>
  wNew 1 (some [(.val (.slice none 0 0))]) H fun t6 H =>
  wPut (store1 t5 t12 H) fun _u H =>
  wPut (store1 t6 t14 H) fun _u H =>
  wGet (load1 t5 H) H fun t15 H =>
  wGet (lenA t15) H fun t16 H =>
  wGet (load1 t6 H) H fun t17 H =>
  wGet (lenA t17) H fun t18 H =>
  wGet (binA .add t16 t18) H fun t19 H =>
  wGet (faddr 0 t4) H fun t20 H =>
  wPut (store1 t20 t19 H) fun _u H =>
  wNew 1 (some [(.val (.nilFunc))]) H fun t7 H =>
  wNew 1 (some [(.val (.nilFunc))]) H fun t8 H =>
  wPut (store1 t8 (.fn 241 [] [t4]) H) fun _u H =>
  wPut (store1 t7 (.fn 242 [] [t5, t6, t8, t7, t4]) H) fun _u H =>
  wGet (load1 t7 H) H fun t23 H =>
  wCallV E P t23 [a0] H fun t25 H =>
  wGet (loadN 2 t4 H) H fun t26 H =>
  wPut (storeN 2 t2 t26 H) fun _u H =>
  wGet (retPack [loadN 2 t2 H, some t25]) H R

/-- signalbox/signalboxref.GateOf$1 -/
def ref_GateOf_c1 (E : Env) (P : Program) (a0 a1 : AV) (H : AH) (R : Kt) : Prop :=
  wGet (faddr 0 a1) H fun t8 H =>
  wGet (load1 t8 H) H fun t9 H =>
  wGet (binA .add t9 (.val (.int .i64 1))) H fun t10 H =>
  wGet (faddr 0 a1) H fun t11 H =>
  wPut (store1 t11 t10 H) fun _u H =>
  wGet (faddr 0 a1) H fun t12 H =>
  wGet (load1 t12 H) H fun t13 H =>
  wNewS 1 1 (fillA (List.replicate 1 [(.val (.int .i64 0))]).flatten [(0, 1, t13)]) H fun t15 H =>
  wGet (lenA a0) H fun t17 H =>
  wLoop 2 (fun I1 => I1 t15 (.val (.int .i64 0)) H) fun I1 t5 t18 H =>
    wGet (binA .lss t18 t17) H fun t19 H =>
    wIf t19 (
      wGet (iaddr 1 a0 t18) H fun t20 H =>
      wGet (load1 t20 H) H fun t21 H =>
      wGet (faddr 1 a1) H fun t22 H =>
      wGet (load1 t22 H) H fun t23 H =>
      wGet (unA .neg t13) H fun t25 H =>
      wNewS 1 2 (fillA (List.replicate 2 [(.val (.int .i64 0))]).flatten [(0, 1, t25), (1, 1, t21)]) H fun t27 H =>
      wNewS 1 1 (fillA (List.replicate 1 [(.val (.slice none 0 0))]).flatten [(0, 1, t27)]) H fun t28 H =>
      wApp 1 24 t23 t28 H fun t29 H =>
      wGet (faddr 1 a1) H fun t30 H =>
      wPut (store1 t30 t29 H) fun _u H =>
      wGet (unA .neg t21) H fun t33 H =>
      wNewS 1 1 (fillA (List.replicate 1 [(.val (.int .i64 0))]).flatten [(0, 1, t33)]) H fun t34 H =>
      wApp 1 8 t5 t34 H fun t35 H =>
      wGet (binA .add t18 (.val (.int .i64 1))) H fun t36 H =>
      I1 t35 t36 H) (
      wGet (faddr 1 a1) H fun t37 H =>
      wGet (load1 t37 H) H fun t38 H =>
      wNewS 1 1 (fillA (List.replicate 1 [(.val (.slice none 0 0))]).flatten [(0, 1, t5)]) H fun t40 H =>
      wApp 1 24 t38 t40 H fun t41 H =>
      wGet (faddr 1 a1) H fun t42 H =>
      wPut (store1 t42 t41 H) fun _u H =>
      R t13 H)

/-- signalbox/signalboxref.GateOf$2 -/
def ref_GateOf_c2 (E : Env) (P : Program) (a0 a1 a2 a3 a4 a5 : AV) (H : AH) (R : Kt) : Prop :=
  wGet (load1 a1 H) H fun t15 H =>
  wGet (nilA a0) H fun t17 H =>
  wGet (faddr 1 t17) H fun t18 H =>
  wGet (load1 t18 H) H fun t19 H =>
  wGet (load1 a1 H) H fun t22 H =>
  wGet (lenA t22) H fun t23 H =>
  wGet (load1 a2 H) H fun t24 H =>
  wGet (nilA a0) H fun t26 H =>
  wGet (faddr 1 t26) H fun t27 H =>
  wGet (load1 t27 H) H fun t28 H =>
  wCall E P 98 [t15, t19] H fun t20 H =>
  (wGet (load1 a1 H) H (fun y H2 => y = t22 ∧ H2 = H)) ∧
  (wGet (load1 a2 H) H (fun y H2 => y = t24 ∧ H2 = H)) ∧
  (wGet (load1 t27 H) H (fun y H2 => y = t28 ∧ H2 = H)) ∧
  wGet (binA .add t20 (.val (.int .i64 1))) H fun t21 H =>
  wCall E P 98 [t24, t28] H fun t29 H =>
  (wGet (load1 a1 H) H (fun y H2 => y = t22 ∧ H2 = H)) ∧
  wGet (binA .add t23 t29) H fun t30 H =>
  wGet (binA .add t30 (.val (.int .i64 1))) H fun t31 H =>
  (wGet (load1 a1 H) H (fun y H2 => y = t22 ∧ H2 = H)) ∧
  wGet (nilA a0) H fun t33 H =>
  wGet (faddr 0 t33) H fun t34 H =>
  wGet (load1 t34 H) H fun t35 H =>
  wGet (binA .eql t35 (.val (.string ⟨#[98, 105, 116]⟩))) H fun t37 H =>
  wIf t37 (
    R t21 H) (
    wGet (binA .eql t35 (.val (.string ⟨#[94]⟩))) H fun t40 H =>
    wIf t40 (
      wGet (load1 a3 H) H fun t41 H =>
      wGet (unA .neg t31) H fun t44 H =>
      wNewS 1 2 (fillA (List.replicate 2 [(.val (.int .i64 0))]).flatten [(0, 1, t21), (1, 1, t44)]) H fun t45 H =>
      wCallV E P t41 [t45] H fun t46 H =>
      R t46 H) (
      wGet (binA .eql t35 (.val (.string ⟨#[126]⟩))) H fun t48 H =>
      wIf t48 (
        wGet (load1 a3 H) H fun t49 H =>
        wGet (unA .neg t21) H fun t51 H =>
        wNewS 1 2 (fillA (List.replicate 2 [(.val (.int .i64 0))]).flatten [(0, 1, t51), (1, 1, t31)]) H fun t53 H =>
        wCallV E P t49 [t53] H fun t54 H =>
        R t54 H) (
        wGet (binA .eql t35 (.val (.string ⟨#[33]⟩))) H fun t56 H =>
        wIf t56 (
          wGet (load1 a4 H) H fun t57 H =>
          wGet (nilA a0) H fun t59 H =>
          wGet (faddr 2 t59) H fun t60 H =>
          wGet (load1 t60 H) H fun t61 H =>
          wGet (iaddr 1 t61 (.val (.int .i64 0))) H fun t62 H =>
          wGet (load1 t62 H) H fun t63 H =>
          wCallV E P t57 [t63] H fun t64 H =>
          wGet (unA .neg t64) H fun t65 H =>
          R t65 H) (
          wJoin 1 (fun J1 =>
            wGet (binA .eql t35 (.val (.string ⟨#[38]⟩))) H fun t67 H =>
            wIf t67 (
              J1 t67 H) (
              wGet (binA .eql t35 (.val (.string ⟨#[124]⟩))) H fun t68 H =>
              J1 t68 H)) fun t66 H =>
            wIf t66 (
              wJoin 1 (fun J2 =>
                wGet (nilA a0) H fun t70 H =>
                wGet (faddr 0 t70) H fun t71 H =>
                wGet (load1 t71 H) H fun t72 H =>
                wGet (binA .eql t72 (.val (.string ⟨#[124]⟩))) H fun t73 H =>
                wIf t73 (
                  J2 (.val (.int .i64 (-1))) H) (
                  J2 (.val (.int .i64 1)) H)) fun t10 H =>
                wGet (nilA a0) H fun t75 H =>
                wGet (faddr 2 t75) H fun t76 H =>
                wGet (load1 t76 H) H fun t77 H =>
                wGet (lenA t77) H fun t78 H =>
                wLoop 2 (fun I3 => I3 (.val (.slice none 0 0)) (.val (.int .i64 0)) H) fun I3 t11 t79 H =>
                  wGet (binA .lss t79 t78) H fun t80 H =>
                  wIf t80 (
                    wGet (iaddr 1 t77 t79) H fun t81 H =>
                    wGet (load1 t81 H) H fun t82 H =>
                    wGet (load1 a4 H) H fun t85 H =>
                    wCallV E P t85 [t82] H fun t87 H =>
                    wGet (binA .mul t10 t87) H fun t88 H =>
                    wNewS 1 1 (fillA (List.replicate 1 [(.val (.int .i64 0))]).flatten [(0, 1, t88)]) H fun t89 H =>
                    wApp 1 8 t11 t89 H fun t90 H =>
                    wGet (binA .add t79 (.val (.int .i64 1))) H fun t91 H =>
                    I3 t90 t91 H) (
                    wGet (load1 a3 H) H fun t93 H =>
                    wCallV E P t93 [t11] H fun t95 H =>
                    wGet (binA .mul t10 t95) H fun t96 H =>
                    R t96 H)) (
              wGet (faddr 0 a5) H fun t97 H =>
              wGet (load1 t97 H) H fun t98 H =>
              wGet (binA .add t98 (.val (.int .i64 1))) H fun t99 H =>
              wGet (faddr 0 a5) H fun t100 H =>
              wPut (store1 t100 t99 H) fun _u H =>
              wGet (faddr 0 a5) H fun t101 H =>
              wGet (load1 t101 H) H fun t102 H =>
              wJoin 0 (fun J4 =>
                wGet (nilA a0) H fun t104 H =>
                wGet (faddr 0 t104) H fun t105 H =>
                wGet (load1 t105 H) H fun t106 H =>
                wGet (binA .eql t106 (.val (.string ⟨#[49]⟩))) H fun t107 H =>
                wIf t107 (
                  wGet (faddr 1 a5) H fun t108 H =>
                  wGet (load1 t108 H) H fun t109 H =>
                  wNewS 1 1 (fillA (List.replicate 1 [(.val (.int .i64 0))]).flatten [(0, 1, t102)]) H fun t111 H =>
                  wNewS 1 1 (fillA (List.replicate 1 [(.val (.slice none 0 0))]).flatten [(0, 1, t111)]) H fun t112 H =>
                  wApp 1 24 t109 t112 H fun t113 H =>
                  wGet (faddr 1 a5) H fun t114 H =>
                  wPut (store1 t114 t113 H) fun _u H =>
                  J4 H) (
                  wGet (faddr 1 a5) H fun t115 H =>
                  wGet (load1 t115 H) H fun t116 H =>
                  wGet (unA .neg t102) H fun t118 H =>
                  wNewS 1 1 (fillA (List.replicate 1 [(.val (.int .i64 0))]).flatten [(0, 1, t118)]) H fun t119 H =>
                  wNewS 1 1 (fillA (List.replicate 1 [(.val (.slice none 0 0))]).flatten [(0, 1, t119)]) H fun t120 H =>
                  wApp 1 24 t116 t120 H fun t121 H =>
                  wGet (faddr 1 a5) H fun t122 H =>
                  wPut (store1 t122 t121 H) fun _u H =>
                  J4 H)) fun H =>
                R t102 H)))))

end Go.Sc.F
namespace Go.Sc
open Go
set_option linter.unusedSimpArgs false
set_option linter.unusedVariables false
set_option linter.unnecessarySimpa false
def randF (g1 : Nat) : AV := .fn 241 [] [.ptrL 1 0 g1]
def rlitF (g1 g2 g3 g4 g5 : Nat) : AV := .fn 242 [] [.ptrL 2 0 g2, .ptrL 3 0 g3, .ptrL 5 0 g5, .ptrL 4 0 g4, .ptrL 1 0 g1]
def idxQ (l : List Str) (s : Str) : Int := if s = [] then -1 else idx l s
abbrev Body6 (E : Env) (P : Program) (k : Nat) (F : Env → Program → AV → AV → AV → AV → AV → AV → AH → Kt → Prop) : Prop := ∀ a b c d e f H R, F E P a b c d e f H R → ACalls E P k [a, b, c, d, e, f] H R
structure SRp where
  names : List Str
  edges : List Str
  b0 : Blk
  g1 : Nat
  g2 : Nat
  g3 : Nat
  g4 : Nat
  g5 : Nat
def SRp.hd (s : SRp) (v : Nat) (t : AV) : List Blk := [s.b0, .cells s.g1 2 [Z v, t], .cells s.g2 1 [Lm S s.names], .cells s.g3 1 [Lm S s.edges], .cells s.g4 1 [rlitF s.g1 s.g2 s.g3 s.g4 s.g5], .cells s.g5 1 [randF s.g1]]
def SR (s : SRp) (b : Bd) (tb : List Blk) (H : AH) : Prop := ∃ z t c, H = ⟨s.b0 :: .cells s.g1 2 [Z b.vars, t] :: .cells s.g2 1 [Lm S s.names] :: .cells s.g3 1 [Lm S s.edges] :: .cells s.g4 1 [rlitF s.g1 s.g2 s.g3 s.g4 s.g5] :: .cells s.g5 1 [randF s.g1] :: z :: tb, c⟩ ∧ Gr 1 z 6 t (b.cl.map LI) b.cl.length
structure RefOfBodies (E : Env) (P : Program) : Prop where
  r : RefSaysBodies0 E P
  index : Body2 E P 98 F.ref_index
  of : Body1 E P 239 F.ref_GateOf
  and : Body2 E P 241 F.ref_GateOf_c1
  lit : Body6 E P 242 F.ref_GateOf_c2
section
variable {E : Env} {P : Program} {s : SRp}
theorem rindex_spec (hB : Body2 E P 98 F.ref_index) (l : List Str) (s : Str) (hl : l.length < 140737488355328) : FX E P 98 [Lm S l, S s] (Z (idxQ l s)) := by
  have nilStr : (AV.val (.string ⟨#[]⟩)) = S [] := rfl
  refine FX.of' ⟨closed_S l, trivial, trivial⟩ trivial fun n R hR => hB _ _ _ _ ?_
  unfold F.ref_index Lm
  simp only [nd0, Y1n, Y1o, Y1p, Y1q, Y1w, Y1x, Y1y, Y1z, Y20, Y21, Y28, Y2a, AV.cells?, Nat.reduceAdd, Nat.reduceMul, nilStr]
  refine wLoop.one (fun m t H => ∃ pre rest, l = pre ++ rest ∧ m = rest.length ∧ t = Z pre.length ∧ (s = [] ∨ s ∉ pre)) l.length (gh1.mk ⟨[], l, rfl, rfl, rfl, by simp⟩) ?_
  rintro m t H ⟨pre, rest, rfl, rfl, rfl, hs⟩
  cases rest with
  | nil =>
    simp only [nd0, Y1n, Y1o, Y1p, Y1q, Y1w, Y1x, Y1y, Y1z, Y20, Y21, Y28, Y2a, AV.cells?, Nat.reduceAdd, Nat.reduceMul, List.append_nil, Int.lt_irrefl]
    refine hR _ _ ?_
    unfold idxQ idx
    rw [List.append_nil] at *
    rcases hs with hs | hs
    · rw [if_pos hs]
    · by_cases h0 : s = []
      · rw [if_pos h0]
      · rw [if_neg h0, if_neg hs]
  | cons x rest =>
    simp only [nd0, Y1n, Y1o, Y1p, Y1q, Y1w, Y1x, Y1y, Y1z, Y20, Y21, Y28, Y2a, AV.cells?, Nat.reduceAdd, Nat.reduceMul, decide_eq_true (show ((pre.length : Int) < ((pre ++ x :: rest).length : Int)) by simp; omega)]
    rw [iaddr_Nn (by simp)]
    simp only [nd0, Y1n, Y1o, Y1p, Y1q, Y1w, Y1x, Y1y, Y1z, Y20, Y21, Y28, Y2a, AV.cells?, Nat.reduceAdd, Nat.reduceMul, at_mid]
    have hnext : (s = [] ∨ s ∉ pre ++ [x]) → back1 (fun m t H => ∃ pre' rest', pre ++ x :: rest = pre' ++ rest' ∧ m = rest'.length ∧ t = Z pre'.length ∧ (s = [] ∨ s ∉ pre')) (rest.length + 1) (Z ((pre.length + 1 : Nat) : Int)) H := fun h =>
      back1.mk rest.length (by simp) ⟨pre ++ [x], rest, by simp, rfl, by simp, h⟩
    by_cases hx : x = s
    · by_cases h0 : s = []
      · simp only [nd0, Y1n, Y1o, Y1p, Y1q, Y1w, Y1x, Y1y, Y1z, Y20, Y21, Y28, Y2a, AV.cells?, Nat.reduceAdd, Nat.reduceMul, decide_eq_true hx, decide_eq_true h0]
        rw [binA_succ (by simp at hl; omega)]
        simp only [nd0, Y1n, Y1o, Y1p, Y1q, Y1w, Y1x, Y1y, Y1z, Y20, Y21, Y28, Y2a, AV.cells?, Nat.reduceAdd, Nat.reduceMul]
        exact hnext (.inl h0)
      · simp only [nd0, Y1n, Y1o, Y1p, Y1q, Y1w, Y1x, Y1y, Y1z, Y20, Y21, Y28, Y2a, AV.cells?, Nat.reduceAdd, Nat.reduceMul, decide_eq_true hx, decide_eq_false h0]
        refine hR _ _ ?_
        subst hx
        have : x ∉ pre := by rcases hs with hs | hs; exact absurd hs h0; exact hs
        rw [idxQ, if_neg h0, idx_app this]
    · simp only [nd0, Y1n, Y1o, Y1p, Y1q, Y1w, Y1x, Y1y, Y1z, Y20, Y21, Y28, Y2a, AV.cells?, Nat.reduceAdd, Nat.reduceMul, decide_eq_false hx]
      rw [binA_succ (by simp at hl; omega)]
      simp only [nd0, Y1n, Y1o, Y1p, Y1q, Y1w, Y1x, Y1y, Y1z, Y20, Y21, Y28, Y2a, AV.cells?, Nat.reduceAdd, Nat.reduceMul]
      refine hnext ?_
      rcases hs with hs | hs
      · exact .inl hs
      · refine .inr ?_
        simp only [List.mem_append, List.mem_singleton, not_or]
        exact ⟨hs, fun h => hx h.symm⟩
theorem set_tail7 {a b c d e f g w w' : Blk} {tb : List Blk} : (a :: b :: c :: d :: e :: f :: g :: (tb ++ [w])).set (7 + tb.length) w' = a :: b :: c :: d :: e :: f :: g :: (tb ++ [w']) := by
  rw [Nat.add_comm]; simp [List.set_append_right]
theorem get_tail7 {a b c d e f g w : Blk} {tb : List Blk} : (a :: b :: c :: d :: e :: f :: g :: (tb ++ [w]))[7 + tb.length]? = some w := by
  rw [Nat.add_comm]; simp
theorem SR.drop {b : Bd} {tb : List Blk} {w : Blk} {H : AH} {r : AV} (h : SR s b (tb ++ [w]) H) : ∃ H', Ghost [r] H [r] H' ∧ SR s b tb H' := by
  obtain ⟨z, t, c, rfl, hg⟩ := h
  exact ⟨_, ghost_drop (bs := s.b0 :: .cells s.g1 2 [Z b.vars, t] :: .cells s.g2 1 [Lm S s.names] :: .cells s.g3 1 [Lm S s.edges] :: .cells s.g4 1 [rlitF s.g1 s.g2 s.g3 s.g4 s.g5] :: .cells s.g5 1 [randF s.g1] :: z :: tb) w, z, t, c, rfl, hg⟩
theorem wApp.tl7 {b : Bd} {tb : List Blk} {w : Blk} {t : AV} {l : List Int} {x : Int} {H : AH} {K : Kt} (hg : Gr 1 w (7 + tb.length) t (l.map fun z => Z z) l.length) (hH : SR s b (tb ++ [w]) H) (hl : l.length < 100000)
    (hK : ∀ w' t' H', Gr 1 w' (7 + tb.length) t' ((l ++ [x]).map fun z => Z z) (l ++ [x]).length → SR s b (tb ++ [w']) H' → K t' H') : wApp 1 8 t (.slN [Z x] 1) H K := by
  obtain ⟨z, t0, c, rfl, hg0⟩ := hH
  refine wApp.one hg get_tail7 (by simp) (.refl _) rfl (by simp [mostBytes]; omega) fun z' x' c' k' => ?_
  rw [set_tail7]
  exact hK z' x' _ (by simpa using k') ⟨z, t0, c', rfl, hg0⟩
theorem rAnd_spec (B : RefOfBodies E P) {b : Bd} {tb : List Blk} {l : List Int} (hv : b.vars < 10000) (hn : b.cl.length + l.length < 10000) (hl : ∀ x ∈ l, -1000000 ≤ x ∧ x ≤ 1000000) {H : AH} (hH : SR s b tb H) :
    ACalls E P 241 [LI l, .ptrL 1 0 s.g1] H fun r H' => r = Z (andP l b).1 ∧ SR s (andP l b).2 tb H' := by
  refine ACalls.mono (R := fun r H' => r = Z (andP l b).1 ∧ ∃ w, SR s (andP l b).2 (tb ++ [w]) H') ?_ (fun r H' ⟨h1, w, h2⟩ => by
    obtain ⟨H2, q1, q2⟩ := h2.drop (r := r)
    exact ⟨r, H2, q1, h1, q2⟩)
  refine B.and _ _ _ _ ?_
  unfold F.ref_GateOf_c1
  obtain ⟨z, t, c, rfl, hg⟩ := hH
  simp only [nd0, Y1n, Y1o, Y1p, Y1q, Y1w, Y1x, Y1y, Y1z, Y20, Y21, Y28, Y2a, AV.cells?, Nat.reduceAdd, Nat.reduceMul]
  rw [binA_succ (by omega)]
  simp only [nd0, Y1n, Y1o, Y1p, Y1q, Y1w, Y1x, Y1y, Y1z, Y20, Y21, Y28, Y2a, AV.cells?, Nat.reduceAdd, Nat.reduceMul]
  rw [store1_L rfl]
  simp only [nd0, Y1n, Y1o, Y1p, Y1q, Y1w, Y1x, Y1y, Y1z, Y20, Y21, Y28, Y2a, AV.cells?, Nat.reduceAdd, Nat.reduceMul, Nat.reduceLT]
  refine wNewS.T (l := [Z ((b.vars + 1 : Nat) : Int)]) (l' := [Z ((b.vars + 1 : Nat) : Int)]) rfl (.refl _) rfl ?_
  simp only [nd0, Y1n, Y1o, Y1p, Y1q, Y1w, Y1x, Y1y, Y1z, Y20, Y21, Y28, Y2a, AV.cells?, Nat.reduceAdd, Nat.reduceMul]
  rw [show lenA (LI l) = some (Z l.length) from rfl]
  simp only [nd0, Y1n, Y1o, Y1p, Y1q, Y1w, Y1x, Y1y, Y1z, Y20, Y21, Y28, Y2a, AV.cells?, Nat.reduceAdd, Nat.reduceMul]
  refine wLoop.two (fun m t i H => ∃ pre rest w, l = pre ++ rest ∧ i = Z pre.length ∧ m = rest.length ∧ Gr 1 w (7 + tb.length) t ((((b.vars + 1 : Nat) : Int) :: negL pre).map fun z => Z z) (((b.vars + 1 : Nat) : Int) :: negL pre).length ∧ SR s ⟨b.vars + 1, b.cl ++ pre.map fun x => [-((b.vars + 1 : Nat) : Int), x]⟩ (tb ++ [w]) H) l.length
    (gh2.mk ⟨[], l, .tail c 1, rfl, rfl, rfl, by simp only [List.length_append, List.length_cons, List.length_nil, negL, List.map_nil, List.map_cons]; rw [Nat.add_comm 7]; exact .mk, z, t, c + 1, by simp, by simpa using hg⟩) ?_
  clear hg
  rintro m t i H ⟨pre, rest, w, hpr, rfl, rfl, hg, z, t0, c, rfl, hg0⟩
  have hpl : pre.length ≤ l.length := by rw [hpr]; simp
  cases rest with
  | nil =>
    rw [List.append_nil] at hpr
    subst hpr
    simp only [nd0, Y1n, Y1o, Y1p, Y1q, Y1w, Y1x, Y1y, Y1z, Y20, Y21, Y28, Y2a, AV.cells?, Nat.reduceAdd, Nat.reduceMul, Int.lt_irrefl]
    refine wNewS.F (l := [t]) (l' := [LI (((b.vars + 1 : Nat) : Int) :: negL l)]) (by simp [fillA, cells?_scalar hg.scalar, putL]) (.one hg.sub) rfl ?_
    refine wApp.one hg0 rfl (by simp) (.refl _) rfl (by simp [mostBytes]; omega) fun z' x' c' k' => ?_
    simp only [nd0, Y1n, Y1o, Y1p, Y1q, Y1w, Y1x, Y1y, Y1z, Y20, Y21, Y28, Y2a, AV.cells?, Nat.reduceAdd, Nat.reduceMul]
    rw [store1_L k'.scalar]
    simp only [nd0, Y1n, Y1o, Y1p, Y1q, Y1w, Y1x, Y1y, Y1z, Y20, Y21, Y28, Y2a, AV.cells?, Nat.reduceAdd, Nat.reduceMul, Nat.reduceLT]
    exact ⟨rfl, w, z', x', c', rfl, by simpa [andP, Nat.add_assoc] using k'⟩
  | cons x rest =>
    have hxm : x ∈ l := by rw [hpr]; simp
    have hlt : pre.length < l.length := by rw [hpr]; simp
    have hx := hl x hxm
    simp only [nd0, Y1n, Y1o, Y1p, Y1q, Y1w, Y1x, Y1y, Y1z, Y20, Y21, Y28, Y2a, AV.cells?, Nat.reduceAdd, Nat.reduceMul, decide_eq_true (show (pre.length : Int) < (l.length : Int) by omega)]
    unfold LI Lm
    rw [iaddr_Nn hlt]
    simp only [nd0, Y1n, Y1o, Y1p, Y1q, Y1w, Y1x, Y1y, Y1z, Y20, Y21, Y28, Y2a, AV.cells?, Nat.reduceAdd, Nat.reduceMul, show (l.map fun z => Z z)[pre.length]? = some (Z x) by rw [hpr]; simp]
    rw [neg_Z (by omega)]
    simp only [nd0, Y1n, Y1o, Y1p, Y1q, Y1w, Y1x, Y1y, Y1z, Y20, Y21, Y28, Y2a, AV.cells?, Nat.reduceAdd, Nat.reduceMul]
    refine wNewS.F' (l := [Z (-((b.vars + 1 : Nat) : Int)), Z x]) rfl rfl ?_
    refine wNewS.F' (l := [LI [-((b.vars + 1 : Nat) : Int), x]]) rfl rfl ?_
    refine wApp.one hg0 rfl (by simp) (.refl _) rfl (by simp [mostBytes]; omega) fun z' x' c' k' => ?_
    simp only [nd0, Y1n, Y1o, Y1p, Y1q, Y1w, Y1x, Y1y, Y1z, Y20, Y21, Y28, Y2a, AV.cells?, Nat.reduceAdd, Nat.reduceMul]
    rw [store1_L k'.scalar]
    simp only [nd0, Y1n, Y1o, Y1p, Y1q, Y1w, Y1x, Y1y, Y1z, Y20, Y21, Y28, Y2a, AV.cells?, Nat.reduceAdd, Nat.reduceMul, Nat.reduceLT]
    rw [neg_Z (by omega)]
    simp only [nd0, Y1n, Y1o, Y1p, Y1q, Y1w, Y1x, Y1y, Y1z, Y20, Y21, Y28, Y2a, AV.cells?, Nat.reduceAdd, Nat.reduceMul]
    refine wNewS.F' (l := [Z (-x)]) rfl rfl ?_
    refine wApp.tl7 (s := s) (b := ⟨b.vars + 1, b.cl ++ (pre ++ [x]).map fun x => [-((b.vars + 1 : Nat) : Int), x]⟩) (tb := tb) (l := ((b.vars + 1 : Nat) : Int) :: negL pre) (x := -x) hg ⟨z', x', c', rfl, by simpa [List.append_assoc, Nat.add_assoc] using k'⟩ (by simp [negL]; omega) fun w' t' H' hg' hH' => ?_
    rw [binA_succ (by omega)]
    simp only [nd0, Y1n, Y1o, Y1p, Y1q, Y1w, Y1x, Y1y, Y1z, Y20, Y21, Y28, Y2a, AV.cells?, Nat.reduceAdd, Nat.reduceMul]
    refine back2.mk rest.length (by simp) ⟨pre ++ [x], rest, w', by rw [hpr]; simp, by simp, rfl, ?_, hH'⟩
    simpa [negL] using hg'
theorem mul_one {y : Int} {k : Bool} (h : -1000000 ≤ y ∧ y ≤ 1000000) : binA .mul (Z (if k then 1 else -1)) (Z y) = some (Z (if k then y else -y)) := by
  cases k
  · simp only [Bool.false_eq_true, if_false]
    rw [binA_mul (by omega)]
    congr 3; omega
  · simp only [if_true]
    rw [binA_mul (by omega)]
    congr 3; omega
theorem idxQ_le (l : List Str) (s : Str) : -1 ≤ idxQ l s ∧ idxQ l s ≤ l.length := by
  unfold idxQ
  split
  · omega
  · by_cases h : s ∈ l
    · rw [ixN_of h]; have := ixN_lt h; omega
    · unfold idx; rw [if_neg h]; omega
/-- numbers of names, and of what those were -/
def Nm (s : SRp) (nm : Str → Int) (x : Ex) : Prop := x.on (fun w => w ≠ [] ∧ nm w = idx s.names w + 1) (fun w => w ≠ [] ∧ nm (94 :: w) = s.names.length + idx s.edges w + 1)
theorem wCallV.lit {E : Env} {P : Program} {x : AV} {g1 g2 g3 g4 g5 : Nat} {H : AH} {R K : Kt} (h : ACalls E P 242 [x, .ptrL 2 0 g2, .ptrL 3 0 g3, .ptrL 5 0 g5, .ptrL 4 0 g4, .ptrL 1 0 g1] H R) (hK : ∀ r H', R r H' → K r H') : wCallV E P (rlitF g1 g2 g3 g4 g5) [x] H K := ⟨⟨242, [], _, rfl, R, h, hK⟩⟩
theorem wCallV.and {E : Env} {P : Program} {x : AV} {g1 : Nat} {H : AH} {R K : Kt} (h : ACalls E P 241 [x, .ptrL 1 0 g1] H R) (hK : ∀ r H', R r H' → K r H') : wCallV E P (randF g1) [x] H K := ⟨⟨241, [], _, rfl, R, h, hK⟩⟩
def RLit (E : Env) (P : Program) (s : SRp) (nm : Str → Int) (x : Ex) : Prop := ∀ (b : Bd) (tb : List Blk) (H : AH), b.vars + x.size < 5000 → b.cl.length + 4 * x.size < 5000 → nmOk nm b.vars x → Nm s nm x → (∀ c ∈ b.cl, okB b.vars c) → SR s b tb H →
  ACalls E P 242 [x.ref, .ptrL 2 0 s.g2, .ptrL 3 0 s.g3, .ptrL 5 0 s.g5, .ptrL 4 0 s.g4, .ptrL 1 0 s.g1] H fun r H' => r = Z (litP nm x b).1 ∧ SR s (litP nm x b).2 tb H'
set_option maxHeartbeats 4000000 in
theorem rRow_spec (B : RefOfBodies E P) (hsn : s.names.length < 1000 ∧ s.edges.length < 1000) {nm : Str → Int} (mode : Bool) (l : List Ex) (x : Ex) (hx : x = if mode then .and l else .or l) (hl : ∀ y ∈ l, RLit E P s nm y) : RLit E P s nm x := by
  intro b tb H hv hn hnm hq hb hH
  have hr : x.ref = .ptrF [S x.kind, S [], .slN (Ex.refL l) l.length] 0 := by subst hx; cases mode <;> rfl
  have hk : x.kind = if mode then [38] else [124] := by subst hx; cases mode <;> rfl
  have hsz : x.size = Ex.sizeL l + 1 := by subst hx; cases mode <;> rfl
  have hnmL : nmOkL nm b.vars l := by subst hx; cases mode <;> exact hnm
  have hqL : Ex.onL (fun w => w ≠ [] ∧ nm w = idx s.names w + 1) (fun w => w ≠ [] ∧ nm (94 :: w) = s.names.length + idx s.edges w + 1) l := by subst hx; cases mode <;> exact hq
  have k1 : decide (x.kind = [98, 105, 116]) = false := by rw [hk]; cases mode <;> decide
  have k2 : decide (x.kind = [94]) = false := by rw [hk]; cases mode <;> decide
  have k3 : decide (x.kind = [126]) = false := by rw [hk]; cases mode <;> decide
  have k4 : decide (x.kind = [33]) = false := by rw [hk]; cases mode <;> decide
  have k5 : decide (x.kind = [38]) = mode := by rw [hk]; cases mode <;> decide
  have k6 : decide (x.kind = [124]) = !mode := by rw [hk]; cases mode <;> decide
  obtain ⟨ho1, ho2⟩ := litsP_ok nm l b hnmL hb
  have hv1 := litsP_vars nm l b
  have hc1 := litsP_cl nm l b
  have hl1 := litsP_len nm l b
  have hres : (litP nm x b).1 = (if mode then (andP (if mode then (litsP nm l b).1 else negL (litsP nm l b).1) (litsP nm l b).2).1 else -(andP (if mode then (litsP nm l b).1 else negL (litsP nm l b).1) (litsP nm l b).2).1) ∧ (litP nm x b).2 = (andP (if mode then (litsP nm l b).1 else negL (litsP nm l b).1) (litsP nm l b).2).2 := by
    subst hx; cases mode <;> exact ⟨rfl, rfl⟩
  refine ACalls.mono (R := fun r H' => r = Z (litP nm x b).1 ∧ ∃ w, SR s (litP nm x b).2 (tb ++ [w]) H') ?_ (fun r H' ⟨h1, w, h2⟩ => by
    obtain ⟨H2, q1, q2⟩ := h2.drop (r := r)
    exact ⟨r, H2, q1, h1, q2⟩)
  refine B.lit _ _ _ _ _ _ _ _ ?_
  unfold F.ref_GateOf_c2
  rw [hr]
  obtain ⟨z, t, c, rfl, hg⟩ := hH
  simp only [nd0, Y1n, Y1o, Y1p, Y1q, Y1w, Y1x, Y1y, Y1z, Y20, Y21, Y28, Y2a, AV.cells?, Nat.reduceAdd, Nat.reduceMul]
  refine wCall.fx (rindex_spec B.index s.names [] (by omega)) fun n1 => ?_
  simp only [nd0, Y1n, Y1o, Y1p, Y1q, Y1w, Y1x, Y1y, Y1z, Y20, Y21, Y28, Y2a, AV.cells?, Nat.reduceAdd, Nat.reduceMul, and_self, true_and]
  rw [binA_add (by have := idxQ_le s.names []; omega)]
  simp only [nd0, Y1n, Y1o, Y1p, Y1q, Y1w, Y1x, Y1y, Y1z, Y20, Y21, Y28, Y2a, AV.cells?, Nat.reduceAdd, Nat.reduceMul]
  refine wCall.fx (rindex_spec B.index s.edges [] (by omega)) fun n2 => ?_
  simp only [nd0, Y1n, Y1o, Y1p, Y1q, Y1w, Y1x, Y1y, Y1z, Y20, Y21, Y28, Y2a, AV.cells?, Nat.reduceAdd, Nat.reduceMul, and_self, true_and, show lenA (Lm S s.names) = some (Z s.names.length) from rfl]
  rw [binA_add (by have := idxQ_le s.edges []; omega)]
  simp only [nd0, Y1n, Y1o, Y1p, Y1q, Y1w, Y1x, Y1y, Y1z, Y20, Y21, Y28, Y2a, AV.cells?, Nat.reduceAdd, Nat.reduceMul]
  rw [binA_add (by have := idxQ_le s.edges []; omega)]
  simp only [nd0, Y1n, Y1o, Y1p, Y1q, Y1w, Y1x, Y1y, Y1z, Y20, Y21, Y28, Y2a, AV.cells?, Nat.reduceAdd, Nat.reduceMul, and_self, true_and, show (AV.val (.string ⟨#[98, 105, 116]⟩)) = S [98, 105, 116] from rfl, show (AV.val (.string ⟨#[94]⟩)) = S [94] from rfl, show (AV.val (.string ⟨#[126]⟩)) = S [126] from rfl, show (AV.val (.string ⟨#[33]⟩)) = S [33] from rfl, show (AV.val (.string ⟨#[38]⟩)) = S [38] from rfl, show (AV.val (.string ⟨#[124]⟩)) = S [124] from rfl, show (AV.val (.string ⟨#[49]⟩)) = S [49] from rfl, k1, k2, k3, k4]
  refine wJoin.one (fun t66 H => t66 = Bo true ∧ SR s b tb H) ?_ ?_
  · cases mode with
    | true => simp only [nd0, Y1n, Y1o, Y1p, Y1q, Y1w, Y1x, Y1y, Y1z, Y20, Y21, Y28, Y2a, AV.cells?, Nat.reduceAdd, Nat.reduceMul, k5]; exact gh1.mk ⟨rfl, z, t, _, rfl, hg⟩
    | false => simp only [nd0, Y1n, Y1o, Y1p, Y1q, Y1w, Y1x, Y1y, Y1z, Y20, Y21, Y28, Y2a, AV.cells?, Nat.reduceAdd, Nat.reduceMul, k5, k6]; exact gh1.mk ⟨rfl, z, t, _, rfl, hg⟩
  clear hg
  rintro t66 H ⟨rfl, z, t, c, rfl, hg⟩
  simp only [nd0, Y1n, Y1o, Y1p, Y1q, Y1w, Y1x, Y1y, Y1z, Y20, Y21, Y28, Y2a, AV.cells?, Nat.reduceAdd, Nat.reduceMul]
  refine wJoin.one (fun t10 H => t10 = Z (if mode then 1 else -1) ∧ SR s b tb H) ?_ ?_
  · cases mode with
    | true => simp only [nd0, Y1n, Y1o, Y1p, Y1q, Y1w, Y1x, Y1y, Y1z, Y20, Y21, Y28, Y2a, AV.cells?, Nat.reduceAdd, Nat.reduceMul, and_self, true_and, show (AV.val (.string ⟨#[98, 105, 116]⟩)) = S [98, 105, 116] from rfl, show (AV.val (.string ⟨#[94]⟩)) = S [94] from rfl, show (AV.val (.string ⟨#[126]⟩)) = S [126] from rfl, show (AV.val (.string ⟨#[33]⟩)) = S [33] from rfl, show (AV.val (.string ⟨#[38]⟩)) = S [38] from rfl, show (AV.val (.string ⟨#[124]⟩)) = S [124] from rfl, show (AV.val (.string ⟨#[49]⟩)) = S [49] from rfl, k6]; exact gh1.mk ⟨rfl, z, t, _, rfl, hg⟩
    | false => simp only [nd0, Y1n, Y1o, Y1p, Y1q, Y1w, Y1x, Y1y, Y1z, Y20, Y21, Y28, Y2a, AV.cells?, Nat.reduceAdd, Nat.reduceMul, and_self, true_and, show (AV.val (.string ⟨#[98, 105, 116]⟩)) = S [98, 105, 116] from rfl, show (AV.val (.string ⟨#[94]⟩)) = S [94] from rfl, show (AV.val (.string ⟨#[126]⟩)) = S [126] from rfl, show (AV.val (.string ⟨#[33]⟩)) = S [33] from rfl, show (AV.val (.string ⟨#[38]⟩)) = S [38] from rfl, show (AV.val (.string ⟨#[124]⟩)) = S [124] from rfl, show (AV.val (.string ⟨#[49]⟩)) = S [49] from rfl, k6]; exact gh1.mk ⟨rfl, z, t, _, rfl, hg⟩
  clear hg
  rintro t10 H ⟨rfl, z, t, c, rfl, hg⟩
  refine wLoop.two (fun m t i H => ∃ pre rest w, l = pre ++ rest ∧ i = Z pre.length ∧ m = rest.length ∧ Gr 1 w (7 + tb.length) t ((if mode then (litsP nm pre b).1 else negL (litsP nm pre b).1).map fun z => Z z) pre.length ∧ SR s (litsP nm pre b).2 (tb ++ [w]) H) l.length
    (gh2.of (ghost_room [.dead] (by simp)) ⟨[], l, .dead, rfl, rfl, rfl, by cases mode <;> exact .nil, z, t, c, by simp [litsP], hg⟩) ?_
  clear hg
  rintro m t i H ⟨pre, rest, w, hpr, rfl, rfl, hg, hH⟩
  cases rest with
  | nil =>
    rw [List.append_nil] at hpr
    subst hpr
    obtain ⟨z, t0, c, rfl, hg0⟩ := hH
    simp only [nd0, Y1n, Y1o, Y1p, Y1q, Y1w, Y1x, Y1y, Y1z, Y20, Y21, Y28, Y2a, AV.cells?, Nat.reduceAdd, Nat.reduceMul, Int.lt_irrefl]
    have hlm : (if mode then (litsP nm l b).1 else negL (litsP nm l b).1).length = l.length := by cases mode <;> simp [negL, hl1]
    rw [← hlm] at hg
    refine wCallV.and (ACalls.args (ghost_sub (.cons hg.sub (.refl _))) (rAnd_spec B (s := s) (b := (litsP nm l b).2) (tb := tb ++ [w]) (l := if mode then (litsP nm l b).1 else negL (litsP nm l b).1) (by omega) (by omega) (fun y hy => okLit_big (V := (litsP nm l b).2.vars) (by cases mode; exact okB_neg ho1 y hy; exact ho1 y hy) (by omega)) ⟨z, t0, c, rfl, hg0⟩)) ?_
    rintro r H2 ⟨rfl, h2⟩
    rw [mul_one (by simp only [andP]; omega)]
    simp only [nd0, Y1n, Y1o, Y1p, Y1q, Y1w, Y1x, Y1y, Y1z, Y20, Y21, Y28, Y2a, AV.cells?, Nat.reduceAdd, Nat.reduceMul]
    rw [hres.1, hres.2]
    exact ⟨rfl, w, h2⟩
  | cons y rest =>
    have hxm : y ∈ l := by rw [hpr]; simp
    have hlt : pre.length < l.length := by rw [hpr]; simp
    have hsum : Ex.sizeL l = Ex.sizeL pre + (y.size + Ex.sizeL rest) := by rw [hpr, sizeL_app]; rfl
    have hon : nmOkL nm b.vars pre ∧ nmOk nm b.vars y := by rw [hpr] at hnmL; exact onL_split hnmL
    have hqn : Nm s nm y := Ex.on_mem hqL hxm
    have hv1 := litsP_vars nm pre b
    have hc1 := litsP_cl nm pre b
    have hl1 := litsP_len nm pre b
    obtain ⟨ho1, ho2⟩ := litsP_ok nm pre b hon.1 hb
    obtain ⟨ho3, ho4⟩ := litP_ok nm y _ (nmOk_mono hon.2 hv1.1) ho2
    have hv2 := litP_vars nm y (litsP nm pre b).2
    have hlen := sizeL_len pre
    obtain ⟨z, t0, c, rfl, hg0⟩ := hH
    simp only [nd0, Y1n, Y1o, Y1p, Y1q, Y1w, Y1x, Y1y, Y1z, Y20, Y21, Y28, Y2a, AV.cells?, Nat.reduceAdd, Nat.reduceMul, decide_eq_true (show (pre.length : Int) < (l.length : Int) by omega)]
    rw [iaddr_Nn hlt]
    simp only [nd0, Y1n, Y1o, Y1p, Y1q, Y1w, Y1x, Y1y, Y1z, Y20, Y21, Y28, Y2a, AV.cells?, Nat.reduceAdd, Nat.reduceMul, show (Ex.refL l)[pre.length]? = some y.ref by rw [Ex.refL_map, hpr]; simp]
    refine wCallV.lit (hl y hxm (litsP nm pre b).2 (tb ++ [w]) _ (by omega) (by omega) (nmOk_mono hon.2 hv1.1) hqn ho2 ⟨z, t0, c, rfl, hg0⟩) ?_
    rintro r H2 ⟨rfl, h2⟩
    have hbig := okLit_big ho3 (by omega)
    generalize hyy : (litP nm y (litsP nm pre b).2).1 = v at hbig
    have happ : litsP nm (pre ++ [y]) b = ((litsP nm pre b).1 ++ [v], (litP nm y (litsP nm pre b).2).2) := by rw [litsP_app]; simp [litsP, hyy]
    rw [mul_one hbig]
    simp only [nd0, Y1n, Y1o, Y1p, Y1q, Y1w, Y1x, Y1y, Y1z, Y20, Y21, Y28, Y2a, AV.cells?, Nat.reduceAdd, Nat.reduceMul]
    refine wNewS.F' (l := [Z (if mode then v else -v)]) rfl rfl ?_
    have hlm : (if mode then (litsP nm pre b).1 else negL (litsP nm pre b).1).length = pre.length := by cases mode <;> simp [negL, hl1]
    rw [← hlm] at hg
    refine wApp.tl7 (x := if mode then v else -v) hg h2 (by omega) fun w' t' H' hg' hH' => ?_
    rw [binA_succ (by omega)]
    simp only [nd0, Y1n, Y1o, Y1p, Y1q, Y1w, Y1x, Y1y, Y1z, Y20, Y21, Y28, Y2a, AV.cells?, Nat.reduceAdd, Nat.reduceMul]
    refine back2.mk rest.length (by simp) ⟨pre ++ [y], rest, w', by rw [hpr]; simp, by simp, rfl, ?_, ?_⟩
    · rw [happ]
      rw [List.length_append, hlm] at hg'
      cases mode
      · simpa [negL] using hg'
      · simpa using hg'
    · rw [happ]; exact hH'
set_option maxHeartbeats 4000000 in
theorem rLit_spec (B : RefOfBodies E P) (hsn : s.names.length < 1000 ∧ s.edges.length < 1000) {nm : Str → Int} (hnb : ∀ w, -10000 ≤ nm w ∧ nm w ≤ 10000) : ∀ (n : Nat) (x : Ex), x.wt < n → x.fine → RLit E P s nm x := by
  intro n
  induction n with
  | zero => intro x hx; omega
  | succ n ih =>
    intro x hx hf
    cases x with
    | and xs =>
      simp only [Ex.wt] at hx
      exact rRow_spec B hsn true xs _ rfl fun y hy => ih y (by have := Ex.wt_mem hy; omega) (Ex.fine_mem hf.2 hy)
    | or xs =>
      simp only [Ex.wt] at hx
      exact rRow_spec B hsn false xs _ rfl fun y hy => ih y (by have := Ex.wt_mem hy; omega) (Ex.fine_mem hf.2 hy)
    | bit w =>
      intro b tb H hv hn hnm hq hb hH
      obtain ⟨z, t, c, rfl, hg⟩ := hH
      refine B.lit _ _ _ _ _ _ _ _ ?_
      unfold F.ref_GateOf_c2
      simp only [Ex.ref]
      simp only [nd0, Y1n, Y1o, Y1p, Y1q, Y1w, Y1x, Y1y, Y1z, Y20, Y21, Y28, Y2a, AV.cells?, Nat.reduceAdd, Nat.reduceMul]
      refine wCall.fx (rindex_spec B.index s.names w (by omega)) fun n1 => ?_
      simp only [nd0, Y1n, Y1o, Y1p, Y1q, Y1w, Y1x, Y1y, Y1z, Y20, Y21, Y28, Y2a, AV.cells?, Nat.reduceAdd, Nat.reduceMul, and_self, true_and]
      rw [binA_add (by have := idxQ_le s.names w; omega)]
      simp only [nd0, Y1n, Y1o, Y1p, Y1q, Y1w, Y1x, Y1y, Y1z, Y20, Y21, Y28, Y2a, AV.cells?, Nat.reduceAdd, Nat.reduceMul]
      refine wCall.fx (rindex_spec B.index s.edges w (by omega)) fun n2 => ?_
      simp only [nd0, Y1n, Y1o, Y1p, Y1q, Y1w, Y1x, Y1y, Y1z, Y20, Y21, Y28, Y2a, AV.cells?, Nat.reduceAdd, Nat.reduceMul, and_self, true_and, show lenA (Lm S s.names) = some (Z s.names.length) from rfl]
      rw [binA_add (by have := idxQ_le s.edges w; omega)]
      simp only [nd0, Y1n, Y1o, Y1p, Y1q, Y1w, Y1x, Y1y, Y1z, Y20, Y21, Y28, Y2a, AV.cells?, Nat.reduceAdd, Nat.reduceMul]
      rw [binA_add (by have := idxQ_le s.edges w; omega)]
      simp only [nd0, Y1n, Y1o, Y1p, Y1q, Y1w, Y1x, Y1y, Y1z, Y20, Y21, Y28, Y2a, AV.cells?, Nat.reduceAdd, Nat.reduceMul, and_self, true_and, show (AV.val (.string ⟨#[98, 105, 116]⟩)) = S [98, 105, 116] from rfl, show (AV.val (.string ⟨#[94]⟩)) = S [94] from rfl, show (AV.val (.string ⟨#[126]⟩)) = S [126] from rfl, show (AV.val (.string ⟨#[33]⟩)) = S [33] from rfl, show (AV.val (.string ⟨#[38]⟩)) = S [38] from rfl, show (AV.val (.string ⟨#[124]⟩)) = S [124] from rfl, show (AV.val (.string ⟨#[49]⟩)) = S [49] from rfl, show decide (([98, 105, 116] : Str) = [98, 105, 116]) = true from rfl]
      refine ⟨?_, z, t, _, rfl, hg⟩
      rw [show idxQ s.names w = idx s.names w from if_neg hq.1, ← hq.2]; rfl
    | rise w =>
      intro b tb H hv hn hnm hq hb hH
      obtain ⟨z, t, c, rfl, hg⟩ := hH
      refine B.lit _ _ _ _ _ _ _ _ ?_
      unfold F.ref_GateOf_c2
      simp only [Ex.ref]
      simp only [nd0, Y1n, Y1o, Y1p, Y1q, Y1w, Y1x, Y1y, Y1z, Y20, Y21, Y28, Y2a, AV.cells?, Nat.reduceAdd, Nat.reduceMul]
      refine wCall.fx (rindex_spec B.index s.names w (by omega)) fun n1 => ?_
      simp only [nd0, Y1n, Y1o, Y1p, Y1q, Y1w, Y1x, Y1y, Y1z, Y20, Y21, Y28, Y2a, AV.cells?, Nat.reduceAdd, Nat.reduceMul, and_self, true_and]
      rw [binA_add (by have := idxQ_le s.names w; omega)]
      simp only [nd0, Y1n, Y1o, Y1p, Y1q, Y1w, Y1x, Y1y, Y1z, Y20, Y21, Y28, Y2a, AV.cells?, Nat.reduceAdd, Nat.reduceMul]
      refine wCall.fx (rindex_spec B.index s.edges w (by omega)) fun n2 => ?_
      simp only [nd0, Y1n, Y1o, Y1p, Y1q, Y1w, Y1x, Y1y, Y1z, Y20, Y21, Y28, Y2a, AV.cells?, Nat.reduceAdd, Nat.reduceMul, and_self, true_and, show lenA (Lm S s.names) = some (Z s.names.length) from rfl]
      rw [binA_add (by have := idxQ_le s.edges w; omega)]
      simp only [nd0, Y1n, Y1o, Y1p, Y1q, Y1w, Y1x, Y1y, Y1z, Y20, Y21, Y28, Y2a, AV.cells?, Nat.reduceAdd, Nat.reduceMul]
      rw [binA_add (by have := idxQ_le s.edges w; omega)]
      simp only [nd0, Y1n, Y1o, Y1p, Y1q, Y1w, Y1x, Y1y, Y1z, Y20, Y21, Y28, Y2a, AV.cells?, Nat.reduceAdd, Nat.reduceMul, and_self, true_and, show (AV.val (.string ⟨#[98, 105, 116]⟩)) = S [98, 105, 116] from rfl, show (AV.val (.string ⟨#[94]⟩)) = S [94] from rfl, show (AV.val (.string ⟨#[126]⟩)) = S [126] from rfl, show (AV.val (.string ⟨#[33]⟩)) = S [33] from rfl, show (AV.val (.string ⟨#[38]⟩)) = S [38] from rfl, show (AV.val (.string ⟨#[124]⟩)) = S [124] from rfl, show (AV.val (.string ⟨#[49]⟩)) = S [49] from rfl, show decide (([94] : Str) = [98, 105, 116]) = false from rfl, show decide (([94] : Str) = [94]) = true from rfl]
      rw [show idxQ s.names w = idx s.names w from if_neg hq.1.1, show idxQ s.edges w = idx s.edges w from if_neg hq.1.1, ← hq.1.2, ← hq.2.2]
      have h1 := hnb w
      have h2 := hnb (94 :: w)
      rw [neg_Z (by omega)]
      simp only [nd0, Y1n, Y1o, Y1p, Y1q, Y1w, Y1x, Y1y, Y1z, Y20, Y21, Y28, Y2a, AV.cells?, Nat.reduceAdd, Nat.reduceMul]
      refine wNewS.F' (l := [Z (nm w), Z (-nm (94 :: w))]) rfl rfl ?_
      exact wCallV.and (rAnd_spec B (s := s) (b := b) (tb := tb) (l := [nm w, -nm (94 :: w)]) (by omega) (by simp; omega) (two_mem (by omega) (by omega)) ⟨z, t, _, rfl, hg⟩) fun r H' h => h
    | fall w =>
      intro b tb H hv hn hnm hq hb hH
      obtain ⟨z, t, c, rfl, hg⟩ := hH
      refine B.lit _ _ _ _ _ _ _ _ ?_
      unfold F.ref_GateOf_c2
      simp only [Ex.ref]
      simp only [nd0, Y1n, Y1o, Y1p, Y1q, Y1w, Y1x, Y1y, Y1z, Y20, Y21, Y28, Y2a, AV.cells?, Nat.reduceAdd, Nat.reduceMul]
      refine wCall.fx (rindex_spec B.index s.names w (by omega)) fun n1 => ?_
      simp only [nd0, Y1n, Y1o, Y1p, Y1q, Y1w, Y1x, Y1y, Y1z, Y20, Y21, Y28, Y2a, AV.cells?, Nat.reduceAdd, Nat.reduceMul, and_self, true_and]
      rw [binA_add (by have := idxQ_le s.names w; omega)]
      simp only [nd0, Y1n, Y1o, Y1p, Y1q, Y1w, Y1x, Y1y, Y1z, Y20, Y21, Y28, Y2a, AV.cells?, Nat.reduceAdd, Nat.reduceMul]
      refine wCall.fx (rindex_spec B.index s.edges w (by omega)) fun n2 => ?_
      simp only [nd0, Y1n, Y1o, Y1p, Y1q, Y1w, Y1x, Y1y, Y1z, Y20, Y21, Y28, Y2a, AV.cells?, Nat.reduceAdd, Nat.reduceMul, and_self, true_and, show lenA (Lm S s.names) = some (Z s.names.length) from rfl]
      rw [binA_add (by have := idxQ_le s.edges w; omega)]
      simp only [nd0, Y1n, Y1o, Y1p, Y1q, Y1w, Y1x, Y1y, Y1z, Y20, Y21, Y28, Y2a, AV.cells?, Nat.reduceAdd, Nat.reduceMul]
      rw [binA_add (by have := idxQ_le s.edges w; omega)]
      simp only [nd0, Y1n, Y1o, Y1p, Y1q, Y1w, Y1x, Y1y, Y1z, Y20, Y21, Y28, Y2a, AV.cells?, Nat.reduceAdd, Nat.reduceMul, and_self, true_and, show (AV.val (.string ⟨#[98, 105, 116]⟩)) = S [98, 105, 116] from rfl, show (AV.val (.string ⟨#[94]⟩)) = S [94] from rfl, show (AV.val (.string ⟨#[126]⟩)) = S [126] from rfl, show (AV.val (.string ⟨#[33]⟩)) = S [33] from rfl, show (AV.val (.string ⟨#[38]⟩)) = S [38] from rfl, show (AV.val (.string ⟨#[124]⟩)) = S [124] from rfl, show (AV.val (.string ⟨#[49]⟩)) = S [49] from rfl, show decide (([126] : Str) = [98, 105, 116]) = false from rfl, show decide (([126] : Str) = [94]) = false from rfl, show decide (([126] : Str) = [126]) = true from rfl]
      rw [show idxQ s.names w = idx s.names w from if_neg hq.1.1, show idxQ s.edges w = idx s.edges w from if_neg hq.1.1, ← hq.1.2, ← hq.2.2]
      have h1 := hnb w
      have h2 := hnb (94 :: w)
      rw [neg_Z (by omega)]
      simp only [nd0, Y1n, Y1o, Y1p, Y1q, Y1w, Y1x, Y1y, Y1z, Y20, Y21, Y28, Y2a, AV.cells?, Nat.reduceAdd, Nat.reduceMul]
      refine wNewS.F' (l := [Z (-nm w), Z (nm (94 :: w))]) rfl rfl ?_
      exact wCallV.and (rAnd_spec B (s := s) (b := b) (tb := tb) (l := [-nm w, nm (94 :: w)]) (by omega) (by simp; omega) (two_mem (by omega) (by omega)) ⟨z, t, _, rfl, hg⟩) fun r H' h => h
    | not y =>
      intro b tb H hv hn hnm hq hb hH
      simp only [Ex.size] at hv hn
      simp only [Ex.wt] at hx
      obtain ⟨z, t, c, rfl, hg⟩ := hH
      refine B.lit _ _ _ _ _ _ _ _ ?_
      unfold F.ref_GateOf_c2
      simp only [Ex.ref]
      simp only [nd0, Y1n, Y1o, Y1p, Y1q, Y1w, Y1x, Y1y, Y1z, Y20, Y21, Y28, Y2a, AV.cells?, Nat.reduceAdd, Nat.reduceMul]
      refine wCall.fx (rindex_spec B.index s.names [] (by omega)) fun n1 => ?_
      simp only [nd0, Y1n, Y1o, Y1p, Y1q, Y1w, Y1x, Y1y, Y1z, Y20, Y21, Y28, Y2a, AV.cells?, Nat.reduceAdd, Nat.reduceMul, and_self, true_and]
      rw [binA_add (by have := idxQ_le s.names []; omega)]
      simp only [nd0, Y1n, Y1o, Y1p, Y1q, Y1w, Y1x, Y1y, Y1z, Y20, Y21, Y28, Y2a, AV.cells?, Nat.reduceAdd, Nat.reduceMul]
      refine wCall.fx (rindex_spec B.index s.edges [] (by omega)) fun n2 => ?_
      simp only [nd0, Y1n, Y1o, Y1p, Y1q, Y1w, Y1x, Y1y, Y1z, Y20, Y21, Y28, Y2a, AV.cells?, Nat.reduceAdd, Nat.reduceMul, and_self, true_and, show lenA (Lm S s.names) = some (Z s.names.length) from rfl]
      rw [binA_add (by have := idxQ_le s.edges []; omega)]
      simp only [nd0, Y1n, Y1o, Y1p, Y1q, Y1w, Y1x, Y1y, Y1z, Y20, Y21, Y28, Y2a, AV.cells?, Nat.reduceAdd, Nat.reduceMul]
      rw [binA_add (by have := idxQ_le s.edges []; omega)]
      simp only [nd0, Y1n, Y1o, Y1p, Y1q, Y1w, Y1x, Y1y, Y1z, Y20, Y21, Y28, Y2a, AV.cells?, Nat.reduceAdd, Nat.reduceMul, and_self, true_and, show (AV.val (.string ⟨#[98, 105, 116]⟩)) = S [98, 105, 116] from rfl, show (AV.val (.string ⟨#[94]⟩)) = S [94] from rfl, show (AV.val (.string ⟨#[126]⟩)) = S [126] from rfl, show (AV.val (.string ⟨#[33]⟩)) = S [33] from rfl, show (AV.val (.string ⟨#[38]⟩)) = S [38] from rfl, show (AV.val (.string ⟨#[124]⟩)) = S [124] from rfl, show (AV.val (.string ⟨#[49]⟩)) = S [49] from rfl, show decide (([33] : Str) = [98, 105, 116]) = false from rfl, show decide (([33] : Str) = [94]) = false from rfl, show decide (([33] : Str) = [126]) = false from rfl, show decide (([33] : Str) = [33]) = true from rfl, show ∀ k : IntKind, iaddr 1 (.slN [y.ref] 1) (.val (.int k 0)) = some (.ptrF [y.ref] 0) from fun _ => rfl]
      have hon : nmOk nm b.vars y := hnm
      obtain ⟨ho1, ho2⟩ := litP_ok nm y b hon hb
      have hv1 := litP_vars nm y b
      refine wCallV.lit (ih y (by omega) hf b tb _ (by omega) (by omega) hon hq hb ⟨z, t, _, rfl, hg⟩) ?_
      rintro r H2 ⟨rfl, h2⟩
      rw [neg_Z (okLit_big ho1 (by omega))]
      simp only [nd0, Y1n, Y1o, Y1p, Y1q, Y1w, Y1x, Y1y, Y1z, Y20, Y21, Y28, Y2a, AV.cells?, Nat.reduceAdd, Nat.reduceMul]
      exact ⟨rfl, h2⟩
    | k v =>
      intro b tb H hv hn hnm hq hb hH
      simp only [Ex.size] at hv hn
      obtain ⟨z, t, c, rfl, hg⟩ := hH
      refine B.lit _ _ _ _ _ _ _ _ ?_
      unfold F.ref_GateOf_c2
      rw [k_ref]
      have k0 : ∀ w : Str, w ≠ [49] → w ≠ [48] → decide (kS v = w) = false := fun w h1 h2 => decide_eq_false (by cases v; exact fun h => h2 h.symm; exact fun h => h1 h.symm)
      simp only [nd0, Y1n, Y1o, Y1p, Y1q, Y1w, Y1x, Y1y, Y1z, Y20, Y21, Y28, Y2a, AV.cells?, Nat.reduceAdd, Nat.reduceMul]
      refine wCall.fx (rindex_spec B.index s.names [] (by omega)) fun n1 => ?_
      simp only [nd0, Y1n, Y1o, Y1p, Y1q, Y1w, Y1x, Y1y, Y1z, Y20, Y21, Y28, Y2a, AV.cells?, Nat.reduceAdd, Nat.reduceMul, and_self, true_and]
      rw [binA_add (by have := idxQ_le s.names []; omega)]
      simp only [nd0, Y1n, Y1o, Y1p, Y1q, Y1w, Y1x, Y1y, Y1z, Y20, Y21, Y28, Y2a, AV.cells?, Nat.reduceAdd, Nat.reduceMul]
      refine wCall.fx (rindex_spec B.index s.edges [] (by omega)) fun n2 => ?_
      simp only [nd0, Y1n, Y1o, Y1p, Y1q, Y1w, Y1x, Y1y, Y1z, Y20, Y21, Y28, Y2a, AV.cells?, Nat.reduceAdd, Nat.reduceMul, and_self, true_and, show lenA (Lm S s.names) = some (Z s.names.length) from rfl]
      rw [binA_add (by have := idxQ_le s.edges []; omega)]
      simp only [nd0, Y1n, Y1o, Y1p, Y1q, Y1w, Y1x, Y1y, Y1z, Y20, Y21, Y28, Y2a, AV.cells?, Nat.reduceAdd, Nat.reduceMul]
      rw [binA_add (by have := idxQ_le s.edges []; omega)]
      simp only [nd0, Y1n, Y1o, Y1p, Y1q, Y1w, Y1x, Y1y, Y1z, Y20, Y21, Y28, Y2a, AV.cells?, Nat.reduceAdd, Nat.reduceMul, and_self, true_and, show (AV.val (.string ⟨#[98, 105, 116]⟩)) = S [98, 105, 116] from rfl, show (AV.val (.string ⟨#[94]⟩)) = S [94] from rfl, show (AV.val (.string ⟨#[126]⟩)) = S [126] from rfl, show (AV.val (.string ⟨#[33]⟩)) = S [33] from rfl, show (AV.val (.string ⟨#[38]⟩)) = S [38] from rfl, show (AV.val (.string ⟨#[124]⟩)) = S [124] from rfl, show (AV.val (.string ⟨#[49]⟩)) = S [49] from rfl, k0 [98, 105, 116] (by decide) (by decide), k0 [94] (by decide) (by decide), k0 [126] (by decide) (by decide), k0 [33] (by decide) (by decide)]
      refine wJoin.one (fun t66 H => t66 = Bo false ∧ SR s b tb H) ?_ ?_
      · simp only [nd0, Y1n, Y1o, Y1p, Y1q, Y1w, Y1x, Y1y, Y1z, Y20, Y21, Y28, Y2a, AV.cells?, Nat.reduceAdd, Nat.reduceMul, and_self, true_and, show (AV.val (.string ⟨#[98, 105, 116]⟩)) = S [98, 105, 116] from rfl, show (AV.val (.string ⟨#[94]⟩)) = S [94] from rfl, show (AV.val (.string ⟨#[126]⟩)) = S [126] from rfl, show (AV.val (.string ⟨#[33]⟩)) = S [33] from rfl, show (AV.val (.string ⟨#[38]⟩)) = S [38] from rfl, show (AV.val (.string ⟨#[124]⟩)) = S [124] from rfl, show (AV.val (.string ⟨#[49]⟩)) = S [49] from rfl, k0 [38] (by decide) (by decide), k0 [124] (by decide) (by decide)]
        exact gh1.mk ⟨rfl, z, t, _, rfl, hg⟩
      clear hg
      rintro t66 H ⟨rfl, z, t, c, rfl, hg⟩
      simp only [nd0, Y1n, Y1o, Y1p, Y1q, Y1w, Y1x, Y1y, Y1z, Y20, Y21, Y28, Y2a, AV.cells?, Nat.reduceAdd, Nat.reduceMul]
      rw [binA_succ (by omega)]
      simp only [nd0, Y1n, Y1o, Y1p, Y1q, Y1w, Y1x, Y1y, Y1z, Y20, Y21, Y28, Y2a, AV.cells?, Nat.reduceAdd, Nat.reduceMul]
      rw [store1_L rfl]
      simp only [nd0, Y1n, Y1o, Y1p, Y1q, Y1w, Y1x, Y1y, Y1z, Y20, Y21, Y28, Y2a, AV.cells?, Nat.reduceAdd, Nat.reduceMul, Nat.reduceLT]
      refine wJoin.zero (SR s (constP v b).2 tb) ?_ fun H hH => ⟨rfl, hH⟩
      cases v with
      | true =>
        simp only [nd0, Y1n, Y1o, Y1p, Y1q, Y1w, Y1x, Y1y, Y1z, Y20, Y21, Y28, Y2a, AV.cells?, Nat.reduceAdd, Nat.reduceMul, and_self, true_and, show (AV.val (.string ⟨#[98, 105, 116]⟩)) = S [98, 105, 116] from rfl, show (AV.val (.string ⟨#[94]⟩)) = S [94] from rfl, show (AV.val (.string ⟨#[126]⟩)) = S [126] from rfl, show (AV.val (.string ⟨#[33]⟩)) = S [33] from rfl, show (AV.val (.string ⟨#[38]⟩)) = S [38] from rfl, show (AV.val (.string ⟨#[124]⟩)) = S [124] from rfl, show (AV.val (.string ⟨#[49]⟩)) = S [49] from rfl, show decide (kS true = [49]) = true from rfl]
        refine wNewS.F' (l := [Z ((b.vars + 1 : Nat) : Int)]) rfl rfl ?_
        refine wNewS.F' (l := [LI [((b.vars + 1 : Nat) : Int)]]) rfl rfl ?_
        refine wApp.one hg rfl (by simp) (.refl _) rfl (by simp [mostBytes]; omega) fun z' x' c' k' => ?_
        simp only [nd0, Y1n, Y1o, Y1p, Y1q, Y1w, Y1x, Y1y, Y1z, Y20, Y21, Y28, Y2a, AV.cells?, Nat.reduceAdd, Nat.reduceMul]
        rw [store1_L k'.scalar]
        simp only [nd0, Y1n, Y1o, Y1p, Y1q, Y1w, Y1x, Y1y, Y1z, Y20, Y21, Y28, Y2a, AV.cells?, Nat.reduceAdd, Nat.reduceMul, Nat.reduceLT]
        exact gh0.mk ⟨z', x', c', rfl, by simpa [constP] using k'⟩
      | false =>
        simp only [nd0, Y1n, Y1o, Y1p, Y1q, Y1w, Y1x, Y1y, Y1z, Y20, Y21, Y28, Y2a, AV.cells?, Nat.reduceAdd, Nat.reduceMul, and_self, true_and, show (AV.val (.string ⟨#[98, 105, 116]⟩)) = S [98, 105, 116] from rfl, show (AV.val (.string ⟨#[94]⟩)) = S [94] from rfl, show (AV.val (.string ⟨#[126]⟩)) = S [126] from rfl, show (AV.val (.string ⟨#[33]⟩)) = S [33] from rfl, show (AV.val (.string ⟨#[38]⟩)) = S [38] from rfl, show (AV.val (.string ⟨#[124]⟩)) = S [124] from rfl, show (AV.val (.string ⟨#[49]⟩)) = S [49] from rfl, show decide (kS false = [49]) = false from rfl]
        rw [neg_Z (by omega)]
        simp only [nd0, Y1n, Y1o, Y1p, Y1q, Y1w, Y1x, Y1y, Y1z, Y20, Y21, Y28, Y2a, AV.cells?, Nat.reduceAdd, Nat.reduceMul]
        refine wNewS.F' (l := [Z (-((b.vars + 1 : Nat) : Int))]) rfl rfl ?_
        refine wNewS.F' (l := [LI [-((b.vars + 1 : Nat) : Int)]]) rfl rfl ?_
        refine wApp.one hg rfl (by simp) (.refl _) rfl (by simp [mostBytes]; omega) fun z' x' c' k' => ?_
        simp only [nd0, Y1n, Y1o, Y1p, Y1q, Y1w, Y1x, Y1y, Y1z, Y20, Y21, Y28, Y2a, AV.cells?, Nat.reduceAdd, Nat.reduceMul]
        rw [store1_L k'.scalar]
        simp only [nd0, Y1n, Y1o, Y1p, Y1q, Y1w, Y1x, Y1y, Y1z, Y20, Y21, Y28, Y2a, AV.cells?, Nat.reduceAdd, Nat.reduceMul, Nat.reduceLT]
        exact gh0.mk ⟨z', x', c', rfl, by simpa [constP] using k'⟩
end
end Go.Sc
namespace Go.Sc
open Go
set_option linter.unusedSimpArgs false
set_option linter.unusedVariables false
set_option linter.unnecessarySimpa false
section
variable {E : Env} {P : Program}
theorem gks_Nm {x : Ex} (hf : x.fine) (s : SRp) (h1 : s.names = x.names) (h2 : s.edges = x.edges) : Nm s (nmv (gks x)) x := by
  refine Ex.on_of x hf (fun w h => ?_) (fun w h => ?_)
  · have h' : w ∈ x.names := onceS_mem.2 h
    rw [h1]
    exact ⟨nameOk_ne (names_ok hf h'), by rw [gks_name h', ixN_of h']; omega⟩
  · have h' : w ∈ x.edges := onceS_mem.2 h
    rw [h1, h2]
    exact ⟨nameOk_ne (edges_ok hf h'), by rw [gks_edge hf h', ixN_of h']; omega⟩
set_option maxHeartbeats 1000000 in
theorem rOf_spec (B : RefOfBodies E P) (x : Ex) (hw : x.wt ≤ 1000000) (hf : x.fine) (hs : x.size ≤ 300) : FX E P 239 [x.ref] (.tup [Cl (gateP x).2.vars (gateP x).2.cl, Z (gateP x).1]) := by
  refine FX.of ⟨Ex.ref_closed x, trivial⟩ (by simp [AV.closed, AV.closedL, Cl_closed]) fun n R hR => B.of _ _ _ ?_
  unfold F.ref_GateOf
  have hnl := names_len x
  have hel := edges_len x
  have hgl := gks_len x
  have hv := gateP_vars x
  have hcl := gateP_cl x
  refine wNew.L (l := [Z 0, nilS]) rfl ?_
  simp only [nd0, Y1n, Y1o, Y1p, Y1q, Y1w, Y1x, Y1y, Y1z, Y20, Y21, Y28, Y2a, AV.cells?, Nat.reduceAdd, Nat.reduceMul]
  refine ⟨⟨[Z 0, nilS], rfl, ?_⟩⟩
  refine wNew.L (l := [Z 0, nilS]) rfl ?_
  simp only [nd0, Y1n, Y1o, Y1p, Y1q, Y1w, Y1x, Y1y, Y1z, Y20, Y21, Y28, Y2a, AV.cells?, Nat.reduceAdd, Nat.reduceMul]
  rw [storeN_L (n := 2) (xs := [Z 0, nilS]) rfl rfl]
  simp only [nd0, Y1n, Y1o, Y1p, Y1q, Y1w, Y1x, Y1y, Y1z, Y20, Y21, Y28, Y2a, AV.cells?, Nat.reduceAdd, Nat.reduceMul, put_two]
  refine wCall.fx (refNames_spec B.r x hw hf) fun n1 => ?_
  refine wCall.fx (refEdges_spec B.r x hw hf) fun n2 => ?_
  refine wNew.L (l := [nilS]) rfl ?_
  simp only [nd0, Y1n, Y1o, Y1p, Y1q, Y1w, Y1x, Y1y, Y1z, Y20, Y21, Y28, Y2a, AV.cells?, Nat.reduceAdd, Nat.reduceMul]
  refine wNew.L (l := [nilS]) rfl ?_
  simp only [nd0, Y1n, Y1o, Y1p, Y1q, Y1w, Y1x, Y1y, Y1z, Y20, Y21, Y28, Y2a, AV.cells?, Nat.reduceAdd, Nat.reduceMul]
  rw [show onceS (x.raw nf1) = x.names from rfl, show onceS (x.raw nf2) = x.edges from rfl]
  rw [store1_L rfl]
  simp only [nd0, Y1n, Y1o, Y1p, Y1q, Y1w, Y1x, Y1y, Y1z, Y20, Y21, Y28, Y2a, AV.cells?, Nat.reduceAdd, Nat.reduceMul, Nat.reduceLT]
  rw [store1_L rfl]
  simp only [nd0, Y1n, Y1o, Y1p, Y1q, Y1w, Y1x, Y1y, Y1z, Y20, Y21, Y28, Y2a, AV.cells?, Nat.reduceAdd, Nat.reduceMul, Nat.reduceLT, show lenA (Lm S x.names) = some (Z x.names.length) from rfl, show lenA (Lm S x.edges) = some (Z x.edges.length) from rfl]
  rw [binA_add (by omega), show (x.names.length : Int) + (x.edges.length : Int) = ((x.names.length + x.edges.length : Nat) : Int) by omega]
  simp only [nd0, Y1n, Y1o, Y1p, Y1q, Y1w, Y1x, Y1y, Y1z, Y20, Y21, Y28, Y2a, AV.cells?, Nat.reduceAdd, Nat.reduceMul]
  rw [store1_L rfl]
  simp only [nd0, Y1n, Y1o, Y1p, Y1q, Y1w, Y1x, Y1y, Y1z, Y20, Y21, Y28, Y2a, AV.cells?, Nat.reduceAdd, Nat.reduceMul, Nat.reduceLT]
  refine wNew.L (l := [.val .nilFunc]) rfl ?_
  simp only [nd0, Y1n, Y1o, Y1p, Y1q, Y1w, Y1x, Y1y, Y1z, Y20, Y21, Y28, Y2a, AV.cells?, Nat.reduceAdd, Nat.reduceMul]
  refine wNew.L (l := [.val .nilFunc]) rfl ?_
  simp only [nd0, Y1n, Y1o, Y1p, Y1q, Y1w, Y1x, Y1y, Y1z, Y20, Y21, Y28, Y2a, AV.cells?, Nat.reduceAdd, Nat.reduceMul]
  rw [store1_L rfl]
  simp only [nd0, Y1n, Y1o, Y1p, Y1q, Y1w, Y1x, Y1y, Y1z, Y20, Y21, Y28, Y2a, AV.cells?, Nat.reduceAdd, Nat.reduceMul, Nat.reduceLT]
  rw [store1_L rfl]
  simp only [nd0, Y1n, Y1o, Y1p, Y1q, Y1w, Y1x, Y1y, Y1z, Y20, Y21, Y28, Y2a, AV.cells?, Nat.reduceAdd, Nat.reduceMul, Nat.reduceLT]
  generalize hG : (⟨x.names, x.edges, .cells n 2 [Z 0, nilS], n + 1, n2, n2 + 1, n2 + 1 + 1, n2 + 1 + 1 + 1⟩ : SRp) = s
  have hnb : ∀ w, -10000 ≤ nmv (gks x) w ∧ nmv (gks x) w ≤ 10000 := fun w => by have := nmv_le (gks x) w; omega
  have key := rLit_spec (s := s) B (by subst hG; exact ⟨by show x.names.length < 1000; omega, by show x.edges.length < 1000; omega⟩) hnb (x.wt + 1) x (by omega) hf ⟨(gks x).length, []⟩ []
  subst hG
  refine wCallV.lit (g1 := n + 1) (g2 := n2) (g3 := n2 + 1) (g4 := n2 + 1 + 1) (g5 := n2 + 1 + 1 + 1) (ACalls.args (ghost_room [.dead] (by simp)) (key _ (by simp only; omega) (by simp only [List.length_nil]; omega) (gks_ok hf) (gks_Nm hf _ rfl rfl) (by simp) ⟨.dead, nilS, n2 + 1 + 1 + 1 + 1, by simp only [hgl]; rfl, .nil⟩)) ?_
  rintro r H ⟨rfl, z, t, c, rfl, hg⟩
  simp only [nd0, Y1n, Y1o, Y1p, Y1q, Y1w, Y1x, Y1y, Y1z, Y20, Y21, Y28, Y2a, AV.cells?, Nat.reduceAdd, Nat.reduceMul]
  rw [storeN_L (n := 2) (xs := [Z (litP (nmv (gks x)) x ⟨(gks x).length, []⟩).2.vars, t]) rfl (show (true && (t.scalar && true)) = true by rw [hg.scalar]; rfl)]
  simp only [nd0, Y1n, Y1o, Y1p, Y1q, Y1w, Y1x, Y1y, Y1z, Y20, Y21, Y28, Y2a, AV.cells?, Nat.reduceAdd, Nat.reduceMul, put_two]
  refine ⟨_, rfl, hR _ _ (.sub (.tup (.cons (.agg (.cons (.refl _) (.one ?_))) (.refl _))))⟩
  exact hg.sub
end
end Go.Sc
namespace Go.Sc
open Go
set_option linter.unusedSimpArgs false
set_option linter.unusedVariables false
set_option linter.unnecessarySimpa false
/-! ### names of what is made tidy -/
section
variable {Q Q' : Str → Prop}
end
/-! ### clauses are short, and may be -/
theorem andP_short {l : List Int} {b : Bd} {M : Nat} (hM : l.length + 2 ≤ M) (hb : ∀ c ∈ b.cl, c.length ≤ M) : ∀ c ∈ (andP l b).2.cl, c.length ≤ M := by
  intro c hc
  simp only [andP, List.mem_append, List.mem_map, List.mem_singleton] at hc
  rcases hc with (hc | ⟨x, hx, rfl⟩) | rfl
  · exact hb c hc
  · simp; omega
  · simp [negL]; omega
mutual
theorem litP_short (nm : Str → Int) {M : Nat} : ∀ (x : Ex) (b : Bd), x.size + 4 ≤ M → (∀ c ∈ b.cl, c.length ≤ M) → ∀ c ∈ (litP nm x b).2.cl, c.length ≤ M
  | .bit s, b, hM, hb => hb
  | .rise s, b, hM, hb => andP_short (by simp; omega) hb
  | .fall s, b, hM, hb => andP_short (by simp; omega) hb
  | .k k, b, hM, hb => by
    intro c hc
    simp only [litP, constP, List.mem_append, List.mem_singleton] at hc
    rcases hc with hc | rfl
    · exact hb c hc
    · simp; omega
  | .not x, b, hM, hb => litP_short nm x b (by simp only [Ex.size] at hM; omega) hb
  | .and l, b, hM, hb => by
    have h1 := litsP_len nm l b
    have h2 := sizeL_len l
    simp only [Ex.size] at hM
    exact andP_short (by omega) (litsP_short nm l b (by omega) hb)
  | .or l, b, hM, hb => by
    have h1 := litsP_len nm l b
    have h2 := sizeL_len l
    simp only [Ex.size] at hM
    exact andP_short (by rw [negL_len]; omega) (litsP_short nm l b (by omega) hb)
theorem litsP_short (nm : Str → Int) {M : Nat} : ∀ (l : List Ex) (b : Bd), Ex.sizeL l + 4 ≤ M → (∀ c ∈ b.cl, c.length ≤ M) → ∀ c ∈ (litsP nm l b).2.cl, c.length ≤ M
  | [], b, hM, hb => hb
  | x :: l, b, hM, hb => by
    simp only [Ex.sizeL] at hM
    exact litsP_short nm l _ (by omega) (litP_short nm x b (by omega) hb)
end
section
variable {E : Env} {P : Program}
end
end Go.Sc
namespace Go.Sc
open Go
set_option linter.unusedSimpArgs false
set_option linter.unnecessarySimpa false
/-- in which round two states are parted, of the first 'd' (0: in none) -/
def mk (t : Table) : Nat → Nat → Nat → Nat
  | 0, _, _ => 0
  | d + 1, a, b => if mk t d a b > 0 then mk t d a b else if cell (iter t (d + 1)) a = cell (iter t (d + 1)) b then 0 else d + 1
theorem mk_zero {t : Table} {a b : Nat} (ha : a < t.next.length) (hb : b < t.next.length) : ∀ d, mk t d a b = 0 ↔ cell (iter t d) a = cell (iter t d) b
  | 0 => by simp [mk, iter, cell, ha, hb]
  | d + 1 => by
    have h := mk_zero ha hb d
    simp only [mk]
    split
    · rename_i hp
      constructor
      · intro h0; omega
      · intro he
        have := h.2 (iter_apart ha hb (Nat.le_succ d) he)
        omega
    · split
      · rename_i he; simp [he]
      · rename_i he; simp [he]
/-- what stands after the round is as before it, or new -/
theorem mk_step {t : Table} {a b d : Nat} (h : mk t d a b > 0) : mk t (d + 1) a b = mk t d a b := by simp only [mk]; rw [if_pos h]
theorem more {t : Table} {d x y : Nat} (hx : x < t.next.length) (hy : y < t.next.length) (h : mk t (d + 1) x y ≠ mk t d x y) : iter t (d + 1) ≠ iter t d := by
  intro he
  have h0 : mk t d x y = 0 := Classical.byContradiction fun hp => h (mk_step (by omega))
  have h1 : mk t (d + 1) x y = 0 := by
    rw [mk_zero hx hy, he, ← mk_zero hx hy]; exact h0
  omega
end Go.Sc
namespace Go.Sc
open Go
set_option linter.unusedSimpArgs false
set_option linter.unusedVariables false
set_option linter.unnecessarySimpa false
section
variable {E : Env} {P : Program}
theorem lawInts_spec (hB : Body2 E P 80 F.law_sameInts) (l l' : List Int) (hl : l.length < 4611686018427387904) : FX E P 80 [LI l, LI l'] (Bo (decide (l = l'))) := by
  refine FX.of' (by simp [AV.closedL, LI_closed]) (by simp [AV.closed]) fun n R hR => hB _ _ _ _ ?_
  unfold F.law_sameInts
  simp only [nd0, Y1n, Y1o, Y1p, Y1q, Y1w, Y1x, Y1y, Y1z, Y20, Y21, Y28, Y2a, AV.cells?, Nat.reduceAdd, Nat.reduceMul, lenA_LI]
  by_cases hn : l.length = l'.length
  case neg =>
    simp only [nd0, Y1n, Y1o, Y1p, Y1q, Y1w, Y1x, Y1y, Y1z, Y20, Y21, Y28, Y2a, AV.cells?, Nat.reduceAdd, Nat.reduceMul, decide_eq_false (show ¬ ((l.length : Int) = l'.length) by omega)]
    exact hR _ _ (by rw [decide_eq_false (fun e => hn (by rw [e]))])
  simp only [nd0, Y1n, Y1o, Y1p, Y1q, Y1w, Y1x, Y1y, Y1z, Y20, Y21, Y28, Y2a, AV.cells?, Nat.reduceAdd, Nat.reduceMul, decide_eq_true (show ((l.length : Int) = l'.length) by omega)]
  refine wLoop.one (fun m i H => ∃ j : Nat, i = Z j ∧ j ≤ l.length ∧ m = l.length - j ∧ ∀ k, k < j → l[k]? = l'[k]?) l.length (gh1.mk ⟨0, rfl, by omega, rfl, by simp⟩) ?_
  rintro m i H ⟨j, rfl, hj, rfl, hp⟩
  by_cases hlt : j < l.length
  case neg =>
    have : j = l.length := by omega
    subst this
    simp only [nd0, Y1n, Y1o, Y1p, Y1q, Y1w, Y1x, Y1y, Y1z, Y20, Y21, Y28, Y2a, AV.cells?, Nat.reduceAdd, Nat.reduceMul, Int.lt_irrefl]
    refine hR _ _ ?_
    rw [decide_eq_true]
    refine List.ext_getElem? fun k => ?_
    by_cases hk : k < l.length
    · exact hp k hk
    · rw [List.getElem?_eq_none (by omega), List.getElem?_eq_none (by omega)]
  simp only [nd0, Y1n, Y1o, Y1p, Y1q, Y1w, Y1x, Y1y, Y1z, Y20, Y21, Y28, Y2a, AV.cells?, Nat.reduceAdd, Nat.reduceMul, decide_eq_true (show (j : Int) < (l.length : Int) by omega)]
  rw [iaddr_LI hlt, iaddr_LI (show j < l'.length by omega)]
  simp only [nd0, Y1n, Y1o, Y1p, Y1q, Y1w, Y1x, Y1y, Y1z, Y20, Y21, Y28, Y2a, AV.cells?, Nat.reduceAdd, Nat.reduceMul, cell_at hlt, cell_at (show j < l'.length by omega)]
  have e1 : l[j]? = some (cell l j) := by simp [cell, List.getElem?_eq_getElem hlt]
  have e2 : l'[j]? = some (cell l' j) := by simp [cell, List.getElem?_eq_getElem (show j < l'.length by omega)]
  by_cases he : cell l j = cell l' j
  · simp only [nd0, Y1n, Y1o, Y1p, Y1q, Y1w, Y1x, Y1y, Y1z, Y20, Y21, Y28, Y2a, AV.cells?, Nat.reduceAdd, Nat.reduceMul, decide_eq_true he]
    rw [binA_succ (by omega)]
    simp only [nd0, Y1n, Y1o, Y1p, Y1q, Y1w, Y1x, Y1y, Y1z, Y20, Y21, Y28, Y2a, AV.cells?, Nat.reduceAdd, Nat.reduceMul]
    refine back1.mk (l.length - (j + 1)) (by omega) ⟨j + 1, rfl, by omega, rfl, fun k hk => ?_⟩
    by_cases hkj : k = j
    · subst hkj; rw [e1, e2, he]
    · exact hp k (by omega)
  · simp only [nd0, Y1n, Y1o, Y1p, Y1q, Y1w, Y1x, Y1y, Y1z, Y20, Y21, Y28, Y2a, AV.cells?, Nat.reduceAdd, Nat.reduceMul, decide_eq_false he]
    refine hR _ _ ?_
    rw [decide_eq_false]
    rintro rfl
    exact he rfl
theorem sameLists_spec (hB : Body2 E P 81 F.law_sameLists) (hI : Body2 E P 80 F.law_sameInts) (l : List (List Int)) (hl : l.length < 100000) (hw : ∀ x ∈ l, x.length < 1000) : FX E P 81 [LLI l, LLI l] (Bo true) := by
  refine FX.of' (by simp [AV.closedL, LLI_closed]) (by simp [AV.closed]) fun n R hR => hB _ _ _ _ ?_
  unfold F.law_sameLists
  simp only [nd0, Y1n, Y1o, Y1p, Y1q, Y1w, Y1x, Y1y, Y1z, Y20, Y21, Y28, Y2a, AV.cells?, Nat.reduceAdd, Nat.reduceMul, lenA_LLI, decide_eq_true (rfl : (l.length : Int) = l.length)]
  refine wLoop.one (fun m i H => ∃ j : Nat, j + m = l.length ∧ i = Z j) l.length (gh1.mk ⟨0, by omega, rfl⟩) ?_
  rintro m i H ⟨j, hjm, rfl⟩
  by_cases hlt : j < l.length
  case neg =>
    have : j = l.length := by omega
    subst this
    simp only [nd0, Y1n, Y1o, Y1p, Y1q, Y1w, Y1x, Y1y, Y1z, Y20, Y21, Y28, Y2a, AV.cells?, Nat.reduceAdd, Nat.reduceMul, Int.lt_irrefl]
    exact hR _ _ rfl
  simp only [nd0, Y1n, Y1o, Y1p, Y1q, Y1w, Y1x, Y1y, Y1z, Y20, Y21, Y28, Y2a, AV.cells?, Nat.reduceAdd, Nat.reduceMul, decide_eq_true (show (j : Int) < (l.length : Int) by omega)]
  rw [iaddr_LLI hlt]
  simp only [nd0, Y1n, Y1o, Y1p, Y1q, Y1w, Y1x, Y1y, Y1z, Y20, Y21, Y28, Y2a, AV.cells?, Nat.reduceAdd, Nat.reduceMul, row_get hlt]
  have hr : (row l j).length < 1000 := by
    refine hw _ ?_
    simp only [row, List.getElem?_eq_getElem hlt, Option.getD_some]
    exact List.getElem_mem hlt
  refine wCall.fx (lawInts_spec hI _ _ (by omega)) fun n2 => ?_
  simp only [nd0, Y1n, Y1o, Y1p, Y1q, Y1w, Y1x, Y1y, Y1z, Y20, Y21, Y28, Y2a, AV.cells?, Nat.reduceAdd, Nat.reduceMul]
  rw [binA_succ (by omega)]
  simp only [nd0, Y1n, Y1o, Y1p, Y1q, Y1w, Y1x, Y1y, Y1z, Y20, Y21, Y28, Y2a, AV.cells?, Nat.reduceAdd, Nat.reduceMul]
  exact back1.mk (m - 1) (by omega) ⟨j + 1, by omega, rfl⟩
end
end Go.Sc
namespace Go.Sc
open Go
set_option linter.unusedSimpArgs false
set_option linter.unusedVariables false
set_option linter.unnecessarySimpa false
structure LReadBodies (E : Env) (P : Program) : Prop where
  p : ParseBodies E P
  rr : RefReadBodies E P
  read : Body1 E P 169 F.law_read
structure MakesBodies (E : Env) (P : Program) : Prop where
  rd : LReadBodies E P
  o : OfBodies E P
  ro : RefOfBodies E P
  p : PlaceBodies E P
  at_ : Body2 E P 77 F.law_at
  rbare : Body1 E P 87 F.ref_Bare
  bare : Body2 E P 89 F.law_bare
  sameLists : Body2 E P 81 F.law_sameLists
  sameInts : Body2 E P 80 F.law_sameInts
section
variable {E : Env} {P : Program}
theorem bare_same (B : PlaceBodies E P) (hA : Body2 E P 77 F.law_at) (hb : Body1 E P 87 F.ref_Bare) (hB : Body2 E P 89 F.law_bare) {e : Int} (he : e ≠ 0) : FX E P 89 [.ifc 1 (Z e), Z e] (Bo true) := by
  have := bare_spec B hA hb hB e e
  rw [Er_ne he, decide_eq_true rfl] at this
  exact this
theorem gate_short (x : Ex) : ∀ c ∈ (gateP x).2.cl, c.length ≤ x.size + 4 := fun c hc => litP_short _ x _ (Nat.le_refl _) (by simp) c hc
set_option maxHeartbeats 1000000 in
theorem GateMakes_body (B : MakesBodies E P) (s : Str) (n : Nat) : F.law_GateMakes E P (S s) ⟨[], n⟩ (fun r _ => r = Bo true) := by
  unfold F.law_GateMakes
  refine wCall.fx (read_spec0 B.rd.rr B.rd.p B.rd.read s) fun n => ?_
  unfold readA
  by_cases hl : 1000 < s.length
  · rw [if_pos hl]
    simp only [nd0, Y1n, Y1o, Y1p, Y1q, Y1w, Y1x, Y1y, Y1z, Y20, Y21, Y28, Y2a, AV.cells?, Nat.reduceAdd, Nat.reduceMul]
  rw [if_neg hl]
  cases hp : parseR s with
  | no e p => simp only [nd0, Y1n, Y1o, Y1p, Y1q, Y1w, Y1x, Y1y, Y1z, Y20, Y21, Y28, Y2a, AV.cells?, Nat.reduceAdd, Nat.reduceMul]
  | ok x j =>
    obtain ⟨hw, hf⟩ := parseR_good hp
    simp only [nd0, Y1n, Y1o, Y1p, Y1q, Y1w, Y1x, Y1y, Y1z, Y20, Y21, Y28, Y2a, AV.cells?, Nat.reduceAdd, Nat.reduceMul]
    have hb7 := bare_same B.p B.at_ B.rbare B.bare (e := 7) (by decide)
    have hb4 := bare_same B.p B.at_ B.rbare B.bare (e := 4) (by decide)
    have hsz := Ex.size_wt x hf
    by_cases h6 : 300 < x.size
    · refine wCall.fx (Of_big B.o x (by omega) hf h6) fun n => ?_
      simp only [nd0, Y1n, Y1o, Y1p, Y1q, Y1w, Y1x, Y1y, Y1z, Y20, Y21, Y28, Y2a, AV.cells?, Nat.reduceAdd, Nat.reduceMul]
      refine wNew.L (l := [Z 0, nilS]) rfl ?_
      simp only [nd0, Y1n, Y1o, Y1p, Y1q, Y1w, Y1x, Y1y, Y1z, Y20, Y21, Y28, Y2a, AV.cells?, Nat.reduceAdd, Nat.reduceMul]
      rw [storeN_L (n := 2) (xs := [Z 0, nilS]) rfl rfl]
      simp only [nd0, Y1n, Y1o, Y1p, Y1q, Y1w, Y1x, Y1y, Y1z, Y20, Y21, Y28, Y2a, AV.cells?, Nat.reduceAdd, Nat.reduceMul, put_two]
      refine wCall.fx (Of_nil B.o.toMakeBodies) fun n => ?_
      simp only [nd0, Y1n, Y1o, Y1p, Y1q, Y1w, Y1x, Y1y, Y1z, Y20, Y21, Y28, Y2a, AV.cells?, Nat.reduceAdd, Nat.reduceMul]
      refine wNew.L (l := [Z 0, nilS]) rfl ?_
      simp only [nd0, Y1n, Y1o, Y1p, Y1q, Y1w, Y1x, Y1y, Y1z, Y20, Y21, Y28, Y2a, AV.cells?, Nat.reduceAdd, Nat.reduceMul]
      rw [storeN_L (n := 2) (xs := [Z 0, nilS]) rfl rfl]
      simp only [nd0, Y1n, Y1o, Y1p, Y1q, Y1w, Y1x, Y1y, Y1z, Y20, Y21, Y28, Y2a, AV.cells?, Nat.reduceAdd, Nat.reduceMul, put_two]
      refine wCall.fx hb7 fun n => ?_
      simp only [nd0, Y1n, Y1o, Y1p, Y1q, Y1w, Y1x, Y1y, Y1z, Y20, Y21, Y28, Y2a, AV.cells?, Nat.reduceAdd, Nat.reduceMul, Ex.enc_nil]
      refine wCall.fx (refSize_spec B.ro.r (x.wt + 1) x (by omega) (by omega) hf) fun n => ?_
      simp only [nd0, Y1n, Y1o, Y1p, Y1q, Y1w, Y1x, Y1y, Y1z, Y20, Y21, Y28, Y2a, AV.cells?, Nat.reduceAdd, Nat.reduceMul, decide_eq_true (show (300 : Int) < (x.size : Int) by omega)]
      refine wCall.fx hb4 fun n => ?_
      simp only [nd0, Y1n, Y1o, Y1p, Y1q, Y1w, Y1x, Y1y, Y1z, Y20, Y21, Y28, Y2a, AV.cells?, Nat.reduceAdd, Nat.reduceMul, show lenA nilS = some (Z 0) from rfl]
    refine wCall.fx (Of_spec B.o x (by omega) hf (by omega)) fun n => ?_
    have hv := gateP_vars x
    have hcl := gateP_cl x
    unfold OfA Cl
    simp only [nd0, Y1n, Y1o, Y1p, Y1q, Y1w, Y1x, Y1y, Y1z, Y20, Y21, Y28, Y2a, AV.cells?, Nat.reduceAdd, Nat.reduceMul]
    refine wNew.L (l := [Z 0, nilS]) rfl ?_
    simp only [nd0, Y1n, Y1o, Y1p, Y1q, Y1w, Y1x, Y1y, Y1z, Y20, Y21, Y28, Y2a, AV.cells?, Nat.reduceAdd, Nat.reduceMul]
    rw [storeN_L (n := 2) (xs := [Z (gateP x).2.vars, LLI (gateP x).2.cl]) rfl rfl]
    simp only [nd0, Y1n, Y1o, Y1p, Y1q, Y1w, Y1x, Y1y, Y1z, Y20, Y21, Y28, Y2a, AV.cells?, Nat.reduceAdd, Nat.reduceMul, put_two]
    refine wCall.fx (Of_nil B.o.toMakeBodies) fun n => ?_
    simp only [nd0, Y1n, Y1o, Y1p, Y1q, Y1w, Y1x, Y1y, Y1z, Y20, Y21, Y28, Y2a, AV.cells?, Nat.reduceAdd, Nat.reduceMul]
    refine wNew.L (l := [Z 0, nilS]) rfl ?_
    simp only [nd0, Y1n, Y1o, Y1p, Y1q, Y1w, Y1x, Y1y, Y1z, Y20, Y21, Y28, Y2a, AV.cells?, Nat.reduceAdd, Nat.reduceMul]
    rw [storeN_L (n := 2) (xs := [Z 0, nilS]) rfl rfl]
    simp only [nd0, Y1n, Y1o, Y1p, Y1q, Y1w, Y1x, Y1y, Y1z, Y20, Y21, Y28, Y2a, AV.cells?, Nat.reduceAdd, Nat.reduceMul, put_two]
    refine wCall.fx hb7 fun n => ?_
    simp only [nd0, Y1n, Y1o, Y1p, Y1q, Y1w, Y1x, Y1y, Y1z, Y20, Y21, Y28, Y2a, AV.cells?, Nat.reduceAdd, Nat.reduceMul, Ex.enc_nil]
    refine wCall.fx (refSize_spec B.ro.r (x.wt + 1) x (by omega) (by omega) hf) fun n => ?_
    simp only [nd0, Y1n, Y1o, Y1p, Y1q, Y1w, Y1x, Y1y, Y1z, Y20, Y21, Y28, Y2a, AV.cells?, Nat.reduceAdd, Nat.reduceMul, decide_eq_false (show ¬ (300 : Int) < (x.size : Int) by omega)]
    refine wCall.fx (rOf_spec B.ro x (by omega) hf (by omega)) fun n => ?_
    unfold Cl
    simp only [nd0, Y1n, Y1o, Y1p, Y1q, Y1w, Y1x, Y1y, Y1z, Y20, Y21, Y28, Y2a, AV.cells?, Nat.reduceAdd, Nat.reduceMul]
    refine wNew.L (l := [Z 0, nilS]) rfl ?_
    simp only [nd0, Y1n, Y1o, Y1p, Y1q, Y1w, Y1x, Y1y, Y1z, Y20, Y21, Y28, Y2a, AV.cells?, Nat.reduceAdd, Nat.reduceMul]
    rw [storeN_L (n := 2) (xs := [Z (gateP x).2.vars, LLI (gateP x).2.cl]) rfl rfl]
    simp only [nd0, Y1n, Y1o, Y1p, Y1q, Y1w, Y1x, Y1y, Y1z, Y20, Y21, Y28, Y2a, AV.cells?, Nat.reduceAdd, Nat.reduceMul, put_two, decide_eq_true (rfl : (gateP x).1 = (gateP x).1), decide_eq_true (rfl : ((gateP x).2.vars : Int) = (gateP x).2.vars)]
    refine wCall.fx (sameLists_spec B.sameLists B.sameInts (gateP x).2.cl (by omega) (fun c hc => by have := gate_short x c hc; omega)) fun n => ?_
    simp only [nd0, Y1n, Y1o, Y1p, Y1q, Y1w, Y1x, Y1y, Y1z, Y20, Y21, Y28, Y2a, AV.cells?, Nat.reduceAdd, Nat.reduceMul]
end
end Go.Sc
namespace Go.Sc
open Go Go.RowKit
set_option linter.unusedVariables false
section
variable {H : Type} {enc : TypeId × Value → H}
/-- the row out of a contract that is told what is listed, and the world's shape -/
theorem handed_shaped {C : Checked} {os : Os} {f : FuncId} {fn : Func} {s : ChangeSpec} {again : Bool} {X : World → Prop} (hX : ∀ w w' : World, w.heap = w'.heap → X w → X w')
    (own : ownKnob C.prog.godebug = none) (started : os.Started) (noInit : C.prog.inits.idxOf? f = none) (hfn : C.prog.funcs[f]? = some fn)
    (wit : ∃ (w : World) (tape : Tape) (i : Input), w.os = os ∧ (w.forCall tape i).Shaped C.prog ∧ i.vars = [] ∧ Input.okWide C.prog (w.forCall tape i) .any w.heap.size f i ∧
      ((s.pre enc C.prog fn [] false (w.forCall tape i).memory i.args ∧ X (w.forCall tape i).memory) ∧ sizedMet enc C.prog fn (OpenSpec.ofChange s) false (w.forCall tape i).memory i.args) ∧ ({} : Assume).holds C.prog (lone (Frame.enter C.prog f i.args .normal) [] (w.forCall tape i)))
    (k : ∀ (W : World) (base : Nat) (args : Array Value) (ds gs : List (DataW H)) (before : List MemPlace), W.ShapedOpen C.prog → X W →
      (∀ (j : Nat) t v, fn.params[j]? = some t → args[j]? = some v → Value.okWide C.prog W .any base t v) → DataW.Whole enc C.prog fn.params.toList s.vars false W args.toList ds gs before →
      (DataW.weightsEach C.prog (fn.params.toList ++ s.plain.varTypes C.prog) (ds ++ gs)).all (· ≤ reachBytes) = true → Calls C.prog f args W fun e W' => ∃ v, e = .returned v ∧ s.post enc C.prog fn false true false again W args v W') :
    ReturnsInHanded {} C os f .any (fun w args => (s.pre enc C.prog fn [] false w args ∧ X w) ∧ sizedMet enc C.prog fn (OpenSpec.ofChange s) false w args) (s.post enc C.prog fn false true false again) :=
  returnsInHanded_of_calls own started noInit wit fun w tape i _ hsh _ hok hpre _ => by
    have hv := hok.2.2.2
    obtain ⟨fn', h1, _, _, _, _, hval⟩ := hv
    obtain rfl : fn' = fn := Option.some.inj (h1.symm.trans hfn)
    obtain ⟨⟨⟨ds, gs, before, hw, _⟩, hx⟩, hz⟩ := hpre
    refine (k (w.forCall tape i) w.heap.size i.args ds gs before hsh (hX _ _ (by rfl) hx) hval (DataW.Whole.of_heap (w' := w.forCall tape i) (by rfl) hw) (hz.weights hw)).mono fun e W' h => ?_
    obtain ⟨v, rfl, hp⟩ := h
    exact ChangeSpec.post_blind hp
end
section
variable {E : Env} {P : Program}
theorem FX.contains {k gk : Nat} {m : Int} {fn : Func} (hf : P.funcs[E.fn k]? = some fn) (hn : (fn.name == "runtime.NumGoroutine") = false) (hb : fn.body.isNone = false) (hgl : E.gl gk = some [.val (.int .i64 m)])
    (h : ∀ (s sub : ByteArray) (m : Int) (w : World), s.size < 4294967281 → w.cell? ⟨E.gn gk, 0, none⟩ = some (.int .i64 m) → Calls P (E.fn k) #[.string s, .string sub] w fun e w' => e = .returned (.bool (Lib.contains s.data.toList sub.data.toList)) ∧ w' = w)
    (s t : Str) (hs : s.length ≤ 1000) : FX E P k [S s, S t] (Bo (Lib.contains s t)) := by
  refine FX.ofCalls hf hn hb (by simp [AV.closedL, AV.closed]) (by simp [AV.flat]) (by simp [AV.closed]) fun cx vs _ hg hv => ?_
  simp only [LRel, VRel] at hv
  obtain ⟨v0, _, rfl, rfl, v1, _, rfl, rfl, rfl⟩ := hv
  have hc := hg gk _ hgl
  simp only [CRel, VRel] at hc
  obtain ⟨⟨_, u, hu, rfl⟩, _⟩ := hc
  refine (h ⟨s.toArray⟩ ⟨t.toArray⟩ m cx.w (by simp [ByteArray.size]; omega) hu).mono ?_
  rintro e w' ⟨rfl, rfl⟩
  exact ⟨_, rfl, Below.refl _ _, by simp [VRel]⟩
end
end Go.Sc
namespace Go.Proofs.YtflopbjdllabpaaGreatDoor
open Go.RowKit Go.Extern.Stop Go.Stop Go.Extern
theorem Tryz.valueOfT (t : Addr) (w : World) : (ReflectliteValue.unpack (.iface 115 (.pointer (some t)))).run Tryz.prog w
    = .ok (.agg #[.pointer (some ⟨5, 115, none⟩), .pointer (some ⟨w.heap.size, 0, none⟩), .int .u64 150]) (w.alloc (.cells #[.pointer (some t)] 115)) := by kernel_rfl
theorem Tryz.typeT (a : Addr) (w : World) : (ReflectliteValue.methodAny (ReflectliteValue.valueError "reflectlite.Value.Type" 0) (fun t _ _ _ => ReflectliteType.toType t) #[.agg #[.pointer (some ⟨5, 115, none⟩), .pointer (some a), .int .u64 150]]).run Tryz.prog w
    = .ok (.iface 154 (.agg #[.pointer (some ⟨5, 115, none⟩)])) w := by kernel_rfl
theorem Tryz.methodKind (h : Value) (w : World) : (Go.method 314 154 (.agg #[h]) "Kind").run Tryz.prog w = .ok (127, h) w := by kernel_rfl
theorem Tryz.kindT (w : World) : ((ReflectliteType.abiMethod fun t => (fun a : Nat => Value.int IntKind.u8 (a : Int)) <$> Rtype.kind t) #[.pointer (some ⟨5, 115, none⟩)]).run Tryz.prog w = .ok (.int .u8 22) w := by kernel_rfl
theorem Tryz.kindX (w : World) : ((ReflectliteType.abiMethod fun t => (fun a : Nat => Value.int IntKind.u8 (a : Int)) <$> Rtype.kind t) #[.pointer (some ⟨5, 35, none⟩)]).run Tryz.prog w = .ok (.int .u8 2) w := by kernel_rfl
theorem rlm (z : Sem Value) (f : TypeId → Addr → Nat → Nat → Sem Value) (v : Value) :
    ReflectliteValue.method z f #[v] = (do match ← ReflectliteValue.parts v with | none => z | some (t, a, fl) => f t a fl (fl % 32)) := rfl
theorem Tryz.partsT (a : Addr) (w : World) : (ReflectliteValue.parts (.agg #[.pointer (some ⟨5, 115, none⟩), .pointer (some a), .int .u64 150])).run Tryz.prog w = .ok (some (115, a, 150)) w := by kernel_rfl
theorem Tryz.isNilT (a p : Addr) (W : World) (ha : W.cell? a = some (.pointer (some p))) :
    (ReflectliteValue.method (ReflectliteValue.valueError "reflectlite.Value.IsNil" 0) ReflectliteValue.isNil #[.agg #[.pointer (some ⟨5, 115, none⟩), .pointer (some a), .int .u64 150]]).run Tryz.prog W = .ok (.bool false) W := by
  rw [rlm]
  simp only [Sem.run_bind, Tryz.partsT, Result.andThen]
  simp [ReflectliteValue.isNil, loadVar, isAgg, underlying, Tryz.underlying115, ha, Result.andThen]
theorem Tryz.methodElem (h : Value) (w : World) : (Go.method 314 154 (.agg #[h]) "Elem").run Tryz.prog w = .ok (147, .agg #[h]) w := by kernel_rfl
theorem Tryz.methodImplements (h : Value) (w : World) : (Go.method 314 154 (.agg #[h]) "Implements").run Tryz.prog w = .ok (148, .agg #[h]) w := by kernel_rfl
theorem Tryz.methodAssignableTo (h : Value) (w : World) : (Go.method 314 154 (.agg #[h]) "AssignableTo").run Tryz.prog w = .ok (145, .agg #[h]) w := by kernel_rfl
theorem Tryz.elemT (w : World) : (ReflectliteType.method ReflectliteType.elem #[.agg #[.pointer (some ⟨5, 115, none⟩)]]).run Tryz.prog w = .ok (.iface 154 (.agg #[.pointer (some ⟨5, 35, none⟩)])) w := by kernel_rfl
theorem Tryz.implementsX (w : World) : (ReflectliteType.relation "Implements" ReflectliteType.implements_ #[.agg #[.pointer (some ⟨5, 35, none⟩)], .iface 154 (.agg #[.pointer (some ⟨5, 31, none⟩)])]).run Tryz.prog w = .ok (.bool true) w := by kernel_rfl
theorem Tryz.typeOfX (v : Value) (w : World) : (ReflectliteType.typeOf #[.iface 35 v]).run Tryz.prog w = .ok (.iface 154 (.agg #[.pointer (some ⟨5, 35, none⟩)])) w := by kernel_rfl
theorem Tryz.assignableX (w : World) : (ReflectliteType.relation "AssignableTo" ReflectliteType.assignableTo #[.agg #[.pointer (some ⟨5, 35, none⟩)], .iface 154 (.agg #[.pointer (some ⟨5, 35, none⟩)])]).run Tryz.prog w = .ok (.bool true) w := by kernel_rfl
theorem Tryz.typeOfAt (v : Value) (w : World) : (ReflectliteType.typeOf #[.iface 98 v]).run Tryz.prog w = .ok (.iface 154 (.agg #[.pointer (some ⟨5, 98, none⟩)])) w := by kernel_rfl
theorem Tryz.assignableAt (w : World) : (ReflectliteType.relation "AssignableTo" ReflectliteType.assignableTo #[.agg #[.pointer (some ⟨5, 98, none⟩)], .iface 154 (.agg #[.pointer (some ⟨5, 35, none⟩)])]).run Tryz.prog w = .ok (.bool false) w := by kernel_rfl
theorem Tryz.valueOfX (k : Int) (w : World) : (ReflectliteValue.unpack (.iface 35 (.int .i64 k))).run Tryz.prog w
    = .ok (.agg #[.pointer (some ⟨5, 35, none⟩), .pointer (some ⟨w.heap.size, 0, none⟩), .int .u64 130]) (w.alloc (.cells #[.int .i64 k] 35)) := by kernel_rfl
theorem Tryz.elemOfT (w : World) : (Rtype.elem? 115).run Tryz.prog w = .ok (some 35) w := by kernel_rfl
theorem Tryz.mkX (p : Addr) (w : World) : (ReflectliteValue.mk 35 p ReflectliteValue.flagAddr).run Tryz.prog w = .ok (.agg #[.pointer (some ⟨5, 35, none⟩), .pointer (some p), .int .u64 386]) w := by kernel_rfl
theorem Tryz.elemVT (a p : Addr) (W : World) (ha : W.cell? a = some (.pointer (some p))) :
    (ReflectliteValue.method (ReflectliteValue.valueError "reflectlite.Value.Elem" 0) ReflectliteValue.elem #[.agg #[.pointer (some ⟨5, 115, none⟩), .pointer (some a), .int .u64 150]]).run Tryz.prog W
      = .ok (.agg #[.pointer (some ⟨5, 35, none⟩), .pointer (some p), .int .u64 386]) W := by
  rw [rlm]
  simp only [Sem.run_bind, Tryz.partsT, Result.andThen]
  simp [ReflectliteValue.elem, loadVar, isAgg, underlying, Tryz.underlying115, ha, Result.andThen, Tryz.elemOfT, Tryz.mkX]
theorem rls (v x : Value) : ReflectliteValue.set #[v, x] = (do
    let (some (dst, a, fl), some (src, b, _)) := (← ReflectliteValue.parts v, ← ReflectliteValue.parts x)
      | unsupported (.noEntry "extern/(internal/reflectlite.Value).Set.zeroValue")
    if fl / ReflectliteValue.flagAddr % 2 == 0 then unsupported (.noEntry "extern/(internal/reflectlite.Value).Set.unaddressable")
    let val ← loadVar src b
    if ← Rtype.directlyAssignable dst src then storeVar dst a val
    else if ← Rtype.implements dst src then
      if (← Rtype.kind src) == 20 then
        match val with
        | .nilIface => unsupported (.noEntry "extern/reflectlite: a nil value of one interface type handed on as a value of another")
        | _ => storeVar dst a val
      else storeVar dst a (.iface src val)
    else panicString ("reflectlite.Set: value of type " ++ (← Rtype.spelt src) ++ " is not assignable to type " ++ (← Rtype.spelt dst))
    pure (.tuple #[])) := rfl
theorem Tryz.partsXa (a : Addr) (w : World) : (ReflectliteValue.parts (.agg #[.pointer (some ⟨5, 35, none⟩), .pointer (some a), .int .u64 386])).run Tryz.prog w = .ok (some (35, a, 386)) w := by kernel_rfl
theorem Tryz.partsX (a : Addr) (w : World) : (ReflectliteValue.parts (.agg #[.pointer (some ⟨5, 35, none⟩), .pointer (some a), .int .u64 130])).run Tryz.prog w = .ok (some (35, a, 130)) w := by kernel_rfl
theorem Tryz.directX (w : World) : (Rtype.directlyAssignable 35 35).run Tryz.prog w = .ok true w := by kernel_rfl
theorem Tryz.setX (ta b : Addr) (k : Int) (old : Value) (W : World) (hb : W.cell? b = some (.int .i64 k)) (ht : W.cell? ta = some old) (hf : W.frozen? ta = false) :
    (ReflectliteValue.set #[.agg #[.pointer (some ⟨5, 35, none⟩), .pointer (some ta), .int .u64 386], .agg #[.pointer (some ⟨5, 35, none⟩), .pointer (some b), .int .u64 130]]).run Tryz.prog W
      = .ok (.tuple #[]) (W.setCell ta (.int .i64 k)) := by
  rw [rls]
  simp only [Sem.run_bind, Tryz.partsXa, Tryz.partsX, Result.andThen]
  simp [ReflectliteValue.flagAddr, loadVar, isAgg, underlying, Tryz.underlying35, hb, Result.andThen, Tryz.directX, storeVar, Value.cells, storeCells, Addr.add]
  rw [run_store Tryz.prog W ta _ _ (by rfl)]
  simp [ht, hf]

set_option maxHeartbeats 4000000 in
theorem as_hit (k : Int) (t : Addr) (old : Value) (w : World) (hg : w.cell? ⟨1, 0, none⟩ = some (.iface 154 (.agg #[.pointer (some ⟨5, 31, none⟩)]))) (ht0 : w.cell? t = some old) (hf0 : w.frozen? t = false) :
    Calls Tryz.prog 57 #[.iface 35 (.int .i64 k), .iface 115 (.pointer (some t))] w fun ev w' => ev = .returned (.bool true) ∧ w' = ((((w.alloc (.cells #[.pointer (some t)] 115)).alloc (.cells #[.pointer (some ⟨5, 115, none⟩), .pointer (some ⟨w.heap.size, 0, none⟩), .int .u64 150] 135)).alloc (.cells #[.pointer (some ⟨5, 115, none⟩), .pointer (some ⟨w.heap.size, 0, none⟩), .int .u64 150] 135)).alloc (.cells #[.int .i64 k] 35)).setCell t (.int .i64 k) := by
  have h6 := @run_callFunc_extern Tryz.prog 73 _ (fun args => ReflectliteValue.unpack (args.getD 0 (.tuple #[]))) Tryz.func73 (by kernel_rfl) (by kernel_rfl) (by kernel_rfl) (by kernel_rfl)
  have h7 := @run_callFunc_extern Tryz.prog 74 _ (ReflectliteValue.methodAny (ReflectliteValue.valueError "reflectlite.Value.Type" 0) (fun t _ _ _ => ReflectliteType.toType t)) Tryz.func74 (by kernel_rfl) (by kernel_rfl) (by kernel_rfl) (by kernel_rfl)
  have h8 := @run_callFunc_extern Tryz.prog 75 _ (ReflectliteValue.method (ReflectliteValue.valueError "reflectlite.Value.IsNil" 0) ReflectliteValue.isNil) Tryz.func75 (by kernel_rfl) (by kernel_rfl) (by kernel_rfl) (by kernel_rfl)
  have h27 := @run_callFunc_extern Tryz.prog 127 _ (ReflectliteType.abiMethod fun t => do pure (.int .u8 (← Rtype.kind t))) Tryz.func127 (by kernel_rfl) (by kernel_rfl) (by kernel_rfl) (by kernel_rfl)
  have h37 := @run_callFunc_extern Tryz.prog 147 _ (ReflectliteType.method ReflectliteType.elem) Tryz.func147 (by kernel_rfl) (by kernel_rfl) (by kernel_rfl) (by kernel_rfl)
  have h38 := @run_callFunc_extern Tryz.prog 148 _ (ReflectliteType.relation "Implements" ReflectliteType.implements_) Tryz.func148 (by kernel_rfl) (by kernel_rfl) (by kernel_rfl) (by kernel_rfl)
  have h10 := @run_callFunc_extern Tryz.prog 87 _ ReflectliteType.typeOf Tryz.func87 (by kernel_rfl) (by kernel_rfl) (by kernel_rfl) (by kernel_rfl)
  have h35 := @run_callFunc_extern Tryz.prog 145 _ (ReflectliteType.relation "AssignableTo" ReflectliteType.assignableTo) Tryz.func145 (by kernel_rfl) (by kernel_rfl) (by kernel_rfl) (by kernel_rfl)
  have h11 := @run_callFunc_extern Tryz.prog 88 _ (ReflectliteValue.method (ReflectliteValue.valueError "reflectlite.Value.Elem" 0) ReflectliteValue.elem) Tryz.func88 (by kernel_rfl) (by kernel_rfl) (by kernel_rfl) (by kernel_rfl)
  have h12 := @run_callFunc_extern Tryz.prog 89 _ ReflectliteValue.set Tryz.func89 (by kernel_rfl) (by kernel_rfl) (by kernel_rfl) (by kernel_rfl)
  have tO := Tryz.typeOfX
  have mA := Tryz.methodAssignableTo
  have a25 := Tryz.assignableX
  have v25 := Tryz.valueOfX
  have f6 := Tryz.valueOfT
  have f7 := Tryz.typeT
  have mK := Tryz.methodKind
  have mE := Tryz.methodElem
  have mI := Tryz.methodImplements
  have k27 := Tryz.kindT
  have k25 := Tryz.kindX
  have e27 := Tryz.elemT
  have i25 := Tryz.implementsX
  have n8 := Tryz.isNilT ⟨w.heap.size, 0, none⟩ t ((w.alloc (.cells #[.pointer (some t)] 115)).alloc (.cells #[.pointer (some ⟨5, 115, none⟩), .pointer (some ⟨w.heap.size, 0, none⟩), .int .u64 150] 135)) (by simp)
  have hlt : 1 < w.heap.size := by
    rcases Nat.lt_or_ge 1 w.heap.size with h | h
    · exact h
    · simp [World.cell?, Array.getElem?_eq_none h] at hg
  have hg2 : ((w.alloc (.cells #[.pointer (some t)] 115)).alloc (.cells #[.pointer (some ⟨5, 115, none⟩), .pointer (some ⟨w.heap.size, 0, none⟩), .int .u64 150] 135)).cell? ⟨1, 0, none⟩ = some (.iface 154 (.agg #[.pointer (some ⟨5, 31, none⟩)])) := by
    rw [World.cell?_alloc_lt _ _ ⟨1, 0, none⟩ (by first | (simp; done) | (simp; omega)), World.cell?_alloc_lt _ _ ⟨1, 0, none⟩ hlt]; exact hg
  have htl : t.block < w.heap.size := by
    rcases Nat.lt_or_ge t.block w.heap.size with h | h
    · exact h
    · simp [World.cell?, Array.getElem?_eq_none h] at ht0
  have el := Tryz.elemVT ⟨w.heap.size, 0, none⟩ t (((w.alloc (.cells #[.pointer (some t)] 115)).alloc (.cells #[.pointer (some ⟨5, 115, none⟩), .pointer (some ⟨w.heap.size, 0, none⟩), .int .u64 150] 135)).alloc (.cells #[.pointer (some ⟨5, 115, none⟩), .pointer (some ⟨w.heap.size, 0, none⟩), .int .u64 150] 135)) (by rw [World.cell?_alloc_lt _ _ ⟨w.heap.size, 0, none⟩ (by simp; omega)]; simp)
  have st := Tryz.setX t ⟨w.heap.size + 1 + 1 + 1, 0, none⟩ k old ((((w.alloc (.cells #[.pointer (some t)] 115)).alloc (.cells #[.pointer (some ⟨5, 115, none⟩), .pointer (some ⟨w.heap.size, 0, none⟩), .int .u64 150] 135)).alloc (.cells #[.pointer (some ⟨5, 115, none⟩), .pointer (some ⟨w.heap.size, 0, none⟩), .int .u64 150] 135)).alloc (.cells #[.int .i64 k] 35))
    (by rw [World.cell?_alloc_at _ _ _ _ (by simp)]; rfl)
    (by rw [World.cell?_alloc_lt _ _ t (by simp; omega), World.cell?_alloc_lt _ _ t (by simp; omega), World.cell?_alloc_lt _ _ t (by simp; omega), World.cell?_alloc_lt _ _ t htl]; exact ht0)
    (by rw [World.frozen?_alloc_old _ _ t (by simp; omega), World.frozen?_alloc_old _ _ t (by simp; omega), World.frozen?_alloc_old _ _ t (by simp; omega), World.frozen?_alloc_old _ _ t (Nat.ne_of_lt htl)]; exact hf0)
  go_enter Tryz.func57, Tryz.ntmps57
  go_wp2
  refine wp_loop_rounds 1 ?_
  rw [rounds_succ]
  go_wp2
  go_ret
  exact ⟨rfl, rfl⟩
end Go.Proofs.YtflopbjdllabpaaGreatDoor
