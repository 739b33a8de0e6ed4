/-
  CONTRACTS: package block's Blocks, Least; few, sameInts.
-/
import Derived.Test.YtbdkkbeldnndnaaSbP3
namespace Go.Sb
open Go
set_option linter.unusedSimpArgs false

theorem eq_nilE (e : Err) : eqA .iface (errA e) (.val .nilIface) = some e.isNone := by
  rcases e with _ | ⟨k, _ | s⟩ <;> rfl
theorem subL_two (a b : AV) : subL [a, b] 0 2 = some [a, b] := rfl

/-- what 'Blocks' tells -/
def BlocksR (t : Table) (r : AV) : Prop :=
  (∃ e, check t = some e ∧ r = .tup [nilS, errA (some e)]) ∨ (check t = none ∧ ∃ y, r = .tup [y, errA none] ∧ ∀ K, IsLast t K → Ints y (iter t K))
def fewB (t : Table) (m : Int) : Bool := decide ((t.next.length : Int) ≤ m) && (decide (t.tells.length ≤ 500) && (decide (t.next.length = 0) || decide ((row t.next 0).length ≤ 16)))

/-- that the rounds end (told in plain Lean elsewhere) -/
def Ends (t : Table) : Prop := Good t → ∃ K, K < 1000000 ∧ IsLast t K

theorem IsLast.uniq {t : Table} {j k : Nat} (hj : IsLast t j) (hk : IsLast t k) : j = k := by
  rcases Nat.lt_trichotomy j k with h | h | h
  · exact absurd hj.1 (hk.2 j h)
  · exact h
  · exact absurd hk.1 (hj.2 k h)

section
variable {E : Env} {P : Program}
/-- the bodies of package block -/
structure BlockBodies (E : Env) (P : Program) : Prop where
  check : Body1 E P 8 F.block_Check
  rounds : Body1 E P 9 F.block_rounds
  number : Body1 E P 14 F.block_number
  idxLL : Body2 E P 11 F.slices_IndexFunc_LLint_Lint
  idxL : Body2 E P 16 F.slices_IndexFunc_Lint_int
  num1 : Body2 E P 17 F.block_number_c1
  equal : Body2 E P 15 F.slices_Equal_Lint_int
  cont : Body2 E P 13 F.slices_ContainsFunc_Lint_int
  chk1 : Body2 E P 12 F.block_Check_c1
  clone : Body1 E P 19 F.slices_Clone_Lint_int
  blocks : Body1 E P 5 F.block_Blocks

theorem few_spec (hB : Body2 E P 2 F.keep_few) {x : AV} {t : Table} (hx : Tab x t) (m : Int) : FC E P 2 [x, .val (.int .i64 m)] (fun r => r = flag (fewB t m)) := by
  obtain ⟨a, b, rfl, ha, hb⟩ := hx
  refine FC.of' fun n R hR => hB _ _ _ _ ?_
  have ret : ∀ r H, r = flag (fewB t m) → R r H := fun r H h => hR r r H (.same _) h
  unfold F.keep_few
  simp only [wGet_some, wPut_some, wDo_some, wBool_some, wNew_some, wNewS_some, wAgg_some, wIf_true, wIf_false, wGuard_ff, wGuard_tt, wGuard_ft, wGuard_tf, wGuard_undef, pickA_t, pickA_f, unA_not, faddr_L, faddr_F, extractA_tup, load1_F, load1_zero, load1_succ, Nat.reduceAdd, load1_one, load1_two, load1_three, loadN_zero, loadN_one, loadN_two, loadN_three, under_mk, binA_lss, binA_leq, binA_gtr, binA_geq, binA_eql, binA_neq, AV.cells?, AH.push, List.nil_append, List.cons_append, List.length_nil, List.length_cons, Nat.zero_add, List.getElem?_cons_zero, List.getElem?_cons_succ, List.set_cons_zero, List.set_cons_succ, Option.map_some, Bool.bne_false, Bool.bne_true, Bool.not_true, Bool.not_false, ha.len]
  by_cases c1 : (t.next.length : Int) ≤ m
  case neg =>
    have h1 : decide ((t.next.length : Int) ≤ m) = false := decide_eq_false (by omega)
    simp only [wGet_some, wPut_some, wDo_some, wBool_some, wNew_some, wNewS_some, wAgg_some, wIf_true, wIf_false, wGuard_ff, wGuard_tt, wGuard_ft, wGuard_tf, wGuard_undef, pickA_t, pickA_f, unA_not, faddr_L, faddr_F, extractA_tup, load1_F, load1_zero, load1_succ, Nat.reduceAdd, load1_one, load1_two, load1_three, loadN_zero, loadN_one, loadN_two, loadN_three, under_mk, binA_lss, binA_leq, binA_gtr, binA_geq, binA_eql, binA_neq, AV.cells?, AH.push, List.nil_append, List.cons_append, List.length_nil, List.length_cons, Nat.zero_add, List.getElem?_cons_zero, List.getElem?_cons_succ, List.set_cons_zero, List.set_cons_succ, Option.map_some, Bool.bne_false, Bool.bne_true, Bool.not_true, Bool.not_false, h1]
    exact ret _ _ (by simp [fewB, h1, flag])
  have h1 : decide ((t.next.length : Int) ≤ m) = true := decide_eq_true (by omega)
  simp only [wGet_some, wPut_some, wDo_some, wBool_some, wNew_some, wNewS_some, wAgg_some, wIf_true, wIf_false, wGuard_ff, wGuard_tt, wGuard_ft, wGuard_tf, wGuard_undef, pickA_t, pickA_f, unA_not, faddr_L, faddr_F, extractA_tup, load1_F, load1_zero, load1_succ, Nat.reduceAdd, load1_one, load1_two, load1_three, loadN_zero, loadN_one, loadN_two, loadN_three, under_mk, binA_lss, binA_leq, binA_gtr, binA_geq, binA_eql, binA_neq, AV.cells?, AH.push, List.nil_append, List.cons_append, List.length_nil, List.length_cons, Nat.zero_add, List.getElem?_cons_zero, List.getElem?_cons_succ, List.set_cons_zero, List.set_cons_succ, Option.map_some, Bool.bne_false, Bool.bne_true, Bool.not_true, Bool.not_false, h1, hb.len]
  by_cases c2 : t.tells.length ≤ 500
  case neg =>
    have h2 : decide ((t.tells.length : Int) ≤ 500) = false := decide_eq_false (by omega)
    simp only [wGet_some, wPut_some, wDo_some, wBool_some, wNew_some, wNewS_some, wAgg_some, wIf_true, wIf_false, wGuard_ff, wGuard_tt, wGuard_ft, wGuard_tf, wGuard_undef, pickA_t, pickA_f, unA_not, faddr_L, faddr_F, extractA_tup, load1_F, load1_zero, load1_succ, Nat.reduceAdd, load1_one, load1_two, load1_three, loadN_zero, loadN_one, loadN_two, loadN_three, under_mk, binA_lss, binA_leq, binA_gtr, binA_geq, binA_eql, binA_neq, AV.cells?, AH.push, List.nil_append, List.cons_append, List.length_nil, List.length_cons, Nat.zero_add, List.getElem?_cons_zero, List.getElem?_cons_succ, List.set_cons_zero, List.set_cons_succ, Option.map_some, Bool.bne_false, Bool.bne_true, Bool.not_true, Bool.not_false, h2]
    exact ret _ _ (by simp [fewB, c2, flag])
  have h2 : decide ((t.tells.length : Int) ≤ 500) = true := decide_eq_true (by omega)
  simp only [wGet_some, wPut_some, wDo_some, wBool_some, wNew_some, wNewS_some, wAgg_some, wIf_true, wIf_false, wGuard_ff, wGuard_tt, wGuard_ft, wGuard_tf, wGuard_undef, pickA_t, pickA_f, unA_not, faddr_L, faddr_F, extractA_tup, load1_F, load1_zero, load1_succ, Nat.reduceAdd, load1_one, load1_two, load1_three, loadN_zero, loadN_one, loadN_two, loadN_three, under_mk, binA_lss, binA_leq, binA_gtr, binA_geq, binA_eql, binA_neq, AV.cells?, AH.push, List.nil_append, List.cons_append, List.length_nil, List.length_cons, Nat.zero_add, List.getElem?_cons_zero, List.getElem?_cons_succ, List.set_cons_zero, List.set_cons_succ, Option.map_some, Bool.bne_false, Bool.bne_true, Bool.not_true, Bool.not_false, h2, ha.len]
  by_cases c3 : t.next.length = 0
  · have h3 : decide ((t.next.length : Int) = 0) = true := decide_eq_true (by omega)
    simp only [wGet_some, wPut_some, wDo_some, wBool_some, wNew_some, wNewS_some, wAgg_some, wIf_true, wIf_false, wGuard_ff, wGuard_tt, wGuard_ft, wGuard_tf, wGuard_undef, pickA_t, pickA_f, unA_not, faddr_L, faddr_F, extractA_tup, load1_F, load1_zero, load1_succ, Nat.reduceAdd, load1_one, load1_two, load1_three, loadN_zero, loadN_one, loadN_two, loadN_three, under_mk, binA_lss, binA_leq, binA_gtr, binA_geq, binA_eql, binA_neq, AV.cells?, AH.push, List.nil_append, List.cons_append, List.length_nil, List.length_cons, Nat.zero_add, List.getElem?_cons_zero, List.getElem?_cons_succ, List.set_cons_zero, List.set_cons_succ, Option.map_some, Bool.bne_false, Bool.bne_true, Bool.not_true, Bool.not_false, h3]
    exact ret _ _ (by simp [fewB, c1, c2, c3, flag, show (0:Int) ≤ m by omega])
  have h3 : decide ((t.next.length : Int) = 0) = false := decide_eq_false (by omega)
  obtain ⟨p0, y0, hp0, hl0, hy0⟩ := ha.fst (by omega)
  simp only [wGet_some, wPut_some, wDo_some, wBool_some, wNew_some, wNewS_some, wAgg_some, wIf_true, wIf_false, wGuard_ff, wGuard_tt, wGuard_ft, wGuard_tf, wGuard_undef, pickA_t, pickA_f, unA_not, faddr_L, faddr_F, extractA_tup, load1_F, load1_zero, load1_succ, Nat.reduceAdd, load1_one, load1_two, load1_three, loadN_zero, loadN_one, loadN_two, loadN_three, under_mk, binA_lss, binA_leq, binA_gtr, binA_geq, binA_eql, binA_neq, AV.cells?, AH.push, List.nil_append, List.cons_append, List.length_nil, List.length_cons, Nat.zero_add, List.getElem?_cons_zero, List.getElem?_cons_succ, List.set_cons_zero, List.set_cons_succ, Option.map_some, Bool.bne_false, Bool.bne_true, Bool.not_true, Bool.not_false, h3, hp0, hl0, hy0.len]
  exact ret _ _ (by
    have hd : decide (((t.next[0]?.getD []).length : Int) ≤ 16) = decide ((t.next[0]?.getD []).length ≤ 16) := decide_eq_decide.2 (by omega)
    simp [fewB, c1, c2, c3, flag, row, hd]
    try rfl)

theorem Blocks_spec (B : BlockBodies E P) {x : AV} {t : Table} (hx : Tab x t) (he : Ends t) (hl : t.next.length < 1000000000) : FC E P 5 [x] (BlocksR t) := by
  refine FC.of' fun n R hR => B.blocks _ _ _ ?_
  have ret : ∀ r H, BlocksR t r → R r H := fun r H h => hR r r H (.same _) h
  have hx' := hx
  obtain ⟨a, b, rfl, ha, hb⟩ := hx
  unfold F.block_Blocks
  simp only [wGet_some, wPut_some, wDo_some, wBool_some, wNew_some, wNewS_some, wAgg_some, wIf_true, wIf_false, wGuard_ff, wGuard_tt, wGuard_ft, wGuard_tf, wGuard_undef, pickA_t, pickA_f, unA_not, faddr_L, faddr_F, extractA_tup, load1_F, load1_zero, load1_succ, Nat.reduceAdd, load1_one, load1_two, load1_three, loadN_zero, loadN_one, loadN_two, loadN_three, under_mk, binA_lss, binA_leq, binA_gtr, binA_geq, binA_eql, binA_neq, AV.cells?, AH.push, List.nil_append, List.cons_append, List.length_nil, List.length_cons, Nat.zero_add, List.getElem?_cons_zero, List.getElem?_cons_succ, List.set_cons_zero, List.set_cons_succ, Option.map_some, Bool.bne_false, Bool.bne_true, Bool.not_true, Bool.not_false, subL_two]
  refine wCall.lift (Check_spec B.check B.cont B.idxL B.chk1 hx' hl) (by simpa [AV.closedL] using hx'.closed) (fun r h => h ▸ errA_closed _) fun r hr => ?_
  subst hr
  simp only [wGet_some, wPut_some, wDo_some, wBool_some, wNew_some, wNewS_some, wAgg_some, wIf_true, wIf_false, wGuard_ff, wGuard_tt, wGuard_ft, wGuard_tf, wGuard_undef, pickA_t, pickA_f, unA_not, faddr_L, faddr_F, extractA_tup, load1_F, load1_zero, load1_succ, Nat.reduceAdd, load1_one, load1_two, load1_three, loadN_zero, loadN_one, loadN_two, loadN_three, under_mk, binA_lss, binA_leq, binA_gtr, binA_geq, binA_eql, binA_neq, AV.cells?, AH.push, List.nil_append, List.cons_append, List.length_nil, List.length_cons, Nat.zero_add, List.getElem?_cons_zero, List.getElem?_cons_succ, List.set_cons_zero, List.set_cons_succ, Option.map_some, Bool.bne_false, Bool.bne_true, Bool.not_true, Bool.not_false, eq_nilE]
  cases hc : check t with
  | some e =>
    simp only [wGet_some, wPut_some, wDo_some, wBool_some, wNew_some, wNewS_some, wAgg_some, wIf_true, wIf_false, wGuard_ff, wGuard_tt, wGuard_ft, wGuard_tf, wGuard_undef, pickA_t, pickA_f, unA_not, faddr_L, faddr_F, extractA_tup, load1_F, load1_zero, load1_succ, Nat.reduceAdd, load1_one, load1_two, load1_three, loadN_zero, loadN_one, loadN_two, loadN_three, under_mk, binA_lss, binA_leq, binA_gtr, binA_geq, binA_eql, binA_neq, AV.cells?, AH.push, List.nil_append, List.cons_append, List.length_nil, List.length_cons, Nat.zero_add, List.getElem?_cons_zero, List.getElem?_cons_succ, List.set_cons_zero, List.set_cons_succ, Option.map_some, Bool.bne_false, Bool.bne_true, Bool.not_true, Bool.not_false, Option.isNone_some, show (!false) = true from rfl]
    exact ret _ _ (.inl ⟨e, hc, rfl⟩)
  | none =>
    simp only [wGet_some, wPut_some, wDo_some, wBool_some, wNew_some, wNewS_some, wAgg_some, wIf_true, wIf_false, wGuard_ff, wGuard_tt, wGuard_ft, wGuard_tf, wGuard_undef, pickA_t, pickA_f, unA_not, faddr_L, faddr_F, extractA_tup, load1_F, load1_zero, load1_succ, Nat.reduceAdd, load1_one, load1_two, load1_three, loadN_zero, loadN_one, loadN_two, loadN_three, under_mk, binA_lss, binA_leq, binA_gtr, binA_geq, binA_eql, binA_neq, AV.cells?, AH.push, List.nil_append, List.cons_append, List.length_nil, List.length_cons, Nat.zero_add, List.getElem?_cons_zero, List.getElem?_cons_succ, List.set_cons_zero, List.set_cons_succ, Option.map_some, Bool.bne_false, Bool.bne_true, Bool.not_true, Bool.not_false, Option.isNone_none, subL_two]
    have hg := good_iff.1 hc
    obtain ⟨K, hK, hlast⟩ := he hg
    refine wCall.lift (rounds_spec B.rounds B.number B.idxLL B.num1 B.equal hx' hg hlast hK) (by simpa [AV.closedL] using hx'.closed) (fun r h => h.closed) fun r hr => ?_
    have hrl := hr.len
    rw [hrl]
    simp only [List.length_map, List.length_range]
    simp only [wGet_some, wPut_some, wDo_some, wBool_some, wNew_some, wNewS_some, wAgg_some, wIf_true, wIf_false, wGuard_ff, wGuard_tt, wGuard_ft, wGuard_tf, wGuard_undef, pickA_t, pickA_f, unA_not, faddr_L, faddr_F, extractA_tup, load1_F, load1_zero, load1_succ, Nat.reduceAdd, load1_one, load1_two, load1_three, loadN_zero, loadN_one, loadN_two, loadN_three, under_mk, binA_lss, binA_leq, binA_gtr, binA_geq, binA_eql, binA_neq, AV.cells?, AH.push, List.nil_append, List.cons_append, List.length_nil, List.length_cons, Nat.zero_add, List.getElem?_cons_zero, List.getElem?_cons_succ, List.set_cons_zero, List.set_cons_succ, Option.map_some, Bool.bne_false, Bool.bne_true, Bool.not_true, Bool.not_false]
    rw [binA_sub (by omega)]
    simp only [wGet_some, wPut_some, wDo_some, wBool_some, wNew_some, wNewS_some, wAgg_some, wIf_true, wIf_false, wGuard_ff, wGuard_tt, wGuard_ft, wGuard_tf, wGuard_undef, pickA_t, pickA_f, unA_not, faddr_L, faddr_F, extractA_tup, load1_F, load1_zero, load1_succ, Nat.reduceAdd, load1_one, load1_two, load1_three, loadN_zero, loadN_one, loadN_two, loadN_three, under_mk, binA_lss, binA_leq, binA_gtr, binA_geq, binA_eql, binA_neq, AV.cells?, AH.push, List.nil_append, List.cons_append, List.length_nil, List.length_cons, Nat.zero_add, List.getElem?_cons_zero, List.getElem?_cons_succ, List.set_cons_zero, List.set_cons_succ, Option.map_some, Bool.bne_false, Bool.bne_true, Bool.not_true, Bool.not_false]
    obtain ⟨p, y, hp, hly, hy⟩ := hr.at (i := K) (by simp)
    rw [show ((K + 1 : Nat) : Int) - 1 = (K : Nat) by omega, hp]
    simp only [wGet_some, wPut_some, wDo_some, wBool_some, wNew_some, wNewS_some, wAgg_some, wIf_true, wIf_false, wGuard_ff, wGuard_tt, wGuard_ft, wGuard_tf, wGuard_undef, pickA_t, pickA_f, unA_not, faddr_L, faddr_F, extractA_tup, load1_F, load1_zero, load1_succ, Nat.reduceAdd, load1_one, load1_two, load1_three, loadN_zero, loadN_one, loadN_two, loadN_three, under_mk, binA_lss, binA_leq, binA_gtr, binA_geq, binA_eql, binA_neq, AV.cells?, AH.push, List.nil_append, List.cons_append, List.length_nil, List.length_cons, Nat.zero_add, List.getElem?_cons_zero, List.getElem?_cons_succ, List.set_cons_zero, List.set_cons_succ, Option.map_some, Bool.bne_false, Bool.bne_true, Bool.not_true, Bool.not_false, hly]
    refine ret _ _ (.inr ⟨hc, y, rfl, fun K' hK' => ?_⟩)
    rw [hK'.uniq hlast]
    simpa using hy

theorem sameInts_spec (hB : Body2 E P 7 F.keep_sameInts) {x y : AV} {l l' : List Int} (hx : Ints x l) (hy : Ints y l') (hl : l.length < 1000000000) : FC E P 7 [x, y] (fun r => r = flag (decide (l = l'))) := by
  refine FC.of fun n => hB _ _ _ _ ?_
  unfold F.keep_sameInts
  simp only [hx.len, hy.len, wGet_some, binA_neq, wIf_bool]
  refine ⟨fun h => ?_, fun h => ?_⟩
  · refine ⟨_, .same _, ?_⟩
    have : l ≠ l' := by rintro rfl; simp at h
    simp [flag, this]
  · have hlen : l.length = l'.length := by have := h; simp at this; omega
    refine wLoop.one (fun m t H => ∃ i : Nat, i + m = l.length ∧ t = .val (.int .i64 i) ∧ ∀ j, j < i → l[j]? = l'[j]?) l.length (gh1.mk ⟨0, by simp, rfl, by simp⟩) ?_
    rintro m t H ⟨i, him, rfl, hpre⟩
    simp only [wGet_some, binA_lss, wIf_bool]
    refine ⟨fun hlt => ?_, fun hge => ?_⟩
    · have hi : i < l.length := by simpa using hlt
      have hi' : i < l'.length := by omega
      simp only [hx.at hi, hy.at hi', wGet_some, load1_F, ints_get hi, ints_get hi', binA_neq, wIf_bool]
      refine ⟨fun hne => ⟨_, .same _, ?_⟩, fun he => ?_⟩
      · have : l ≠ l' := by rintro rfl; simp at hne
        simp [flag, this]
      · rw [binA_succ (by omega)]
        simp only [wGet_some]
        refine back1.mk (m' := m - 1) (by omega) ⟨i + 1, by omega, rfl, fun j hj => ?_⟩
        by_cases hji : j < i
        · exact hpre j hji
        · have : j = i := by omega
          subst this
          simpa [hi, hi'] using he
    · refine ⟨_, .same _, ?_⟩
      have : l = l' := by
        apply List.ext_getElem?
        intro j
        by_cases hj : j < i
        · exact hpre j hj
        · have : ¬ (i : Int) < l.length := by simpa using hge
          rw [List.getElem?_eq_none (by omega), List.getElem?_eq_none (by omega)]
      simp [flag, this]
end
end Go.Sb
