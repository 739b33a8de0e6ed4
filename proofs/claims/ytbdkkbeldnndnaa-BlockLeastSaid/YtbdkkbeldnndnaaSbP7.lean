/-
  CONTRACTS: signalboxkeep's blocked and BlockLeast.
-/
import Derived.Test.YtbdkkbeldnndnaaSbP6
import Derived.Test.YtbdkkbeldnndnaaSbQ1
namespace Go.Sb
open Go
set_option linter.unusedSimpArgs false

def t0 : Table := ⟨[[1], [0], [0]], [[5], [5], [6]]⟩
theorem t0_check : check t0 = none := by decide
theorem t0_last : IsLast t0 1 := by
  refine ⟨by decide, fun j hj => ?_⟩
  have : j = 0 := by omega
  subst this
  decide
def i1 (z : Int) : AV := .slF [.val (.int .i64 z)] 0 1
theorem Ints.one (z : Int) : Ints (i1 z) [z] := .inr rfl
theorem t0_tab : Tab (.agg [.slF [i1 1, i1 0, i1 0] 0 3, .slF [i1 5, i1 5, i1 6] 0 3]) t0 := by
  refine ⟨_, _, rfl, ⟨[i1 1, i1 0, i1 0], .inr rfl, ?_⟩, ⟨[i1 5, i1 5, i1 6], .inr rfl, ?_⟩⟩
  · exact ((AllInts.nil.snoc (Ints.one 1)).snoc (Ints.one 0)).snoc (Ints.one 0)
  · exact ((AllInts.nil.snoc (Ints.one 5)).snoc (Ints.one 5)).snoc (Ints.one 6)

section
variable {E : Env} {P : Program}
structure KeepBodies (E : Env) (P : Program) : Prop where
  block : BlockBodies E P
  part : Body3 E P 6 F.block_Part
  part1 : Body3 E P 10 F.block_Part_c1
  least : Body1 E P 3 F.block_Least
  few : Body2 E P 2 F.keep_few
  same : Body2 E P 7 F.keep_sameInts
  blocked : Body0 E P 4 F.keep_blocked

theorem blocked_spec (B : KeepBodies E P) : FC E P 4 [] (fun r => r = flag true) := by
  refine FC.of' fun n R hR => B.blocked _ _ ?_
  unfold F.keep_blocked
  have f1 : ∀ z, fillA (List.replicate 1 [AV.val (.int .i64 0)]).flatten [(0, 1, .val (.int .i64 z))] = some [.val (.int .i64 z)] := fun z => rfl
  have f3 : ∀ b1 b2 b3 g1 g2 g3, fillA (List.replicate 3 [AV.val (.slice none 0 0)]).flatten [(0, 1, .slL b1 0 1 g1), (1, 1, .slL b2 0 1 g2), (2, 1, .slL b3 0 1 g3)] = some [.slL b1 0 1 g1, .slL b2 0 1 g2, .slL b3 0 1 g3] := fun _ _ _ _ _ _ => rfl
  have f2 : ∀ b1 b2 g1 g2, fillA [AV.val (.slice none 0 0), AV.val (.slice none 0 0)] [(0, 1, .slL b1 0 3 g1), (1, 1, .slL b2 0 3 g2)] = some [.slL b1 0 3 g1, .slL b2 0 3 g2] := fun _ _ _ _ => rfl
  have fi : fillA (List.replicate 3 [AV.val (.int .i64 0)]).flatten [(0, 1, .val (.int .i64 0)), (1, 1, .val (.int .i64 0)), (2, 1, .val (.int .i64 1))] = some [.val (.int .i64 0), .val (.int .i64 0), .val (.int .i64 1)] := rfl
  simp only [wGet_some, wPut_some, wDo_some, wBool_some, wNew_some, wNewS_some, wAgg_some, wIf_true, wIf_false, wGuard_ff, wGuard_tt, wGuard_ft, wGuard_tf, wGuard_undef, pickA_t, pickA_f, unA_not, faddr_L, faddr_F, extractA_tup, load1_F, load1_zero, load1_succ, Nat.reduceAdd, load1_one, load1_two, load1_three, loadN_zero, loadN_one, loadN_two, loadN_three, under_mk, binA_lss, binA_leq, binA_gtr, binA_geq, binA_eql, binA_neq, AV.cells?, AH.push, List.nil_append, List.cons_append, List.length_nil, List.length_cons, Nat.zero_add, List.getElem?_cons_zero, List.getElem?_cons_succ, List.set_cons_zero, List.set_cons_succ, Option.map_some, Bool.bne_false, Bool.bne_true, Bool.not_true, Bool.not_false, f1, f2, f3, true_and]
  generalize e1 : n + 1 = n1
  generalize e2 : n1 + 1 = n2
  generalize e3 : n2 + 1 = n3
  generalize e4 : n3 + 1 = n4
  generalize e5 : n4 + 1 = n5
  generalize e6 : n5 + 1 = n6
  generalize e7 : n6 + 1 = n7
  generalize e8 : n7 + 1 = n8
  rw [storeN_L (n := 2) (xs := [.slL 3 0 3 n3, .slL 7 0 3 n7]) (by rfl) rfl rfl (show putL [AV.val (.slice none 0 0), AV.val (.slice none 0 0)] 0 [.slL 3 0 3 n3, .slL 7 0 3 n7] = some [.slL 3 0 3 n3, .slL 7 0 3 n7] from rfl)]
  simp only [wGet_some, wPut_some, wDo_some, wBool_some, wNew_some, wNewS_some, wAgg_some, wIf_true, wIf_false, wGuard_ff, wGuard_tt, wGuard_ft, wGuard_tf, wGuard_undef, pickA_t, pickA_f, unA_not, faddr_L, faddr_F, extractA_tup, load1_F, load1_zero, load1_succ, Nat.reduceAdd, load1_one, load1_two, load1_three, loadN_zero, loadN_one, loadN_two, loadN_three, under_mk, binA_lss, binA_leq, binA_gtr, binA_geq, binA_eql, binA_neq, AV.cells?, AH.push, List.nil_append, List.cons_append, List.length_nil, List.length_cons, Nat.zero_add, List.getElem?_cons_zero, List.getElem?_cons_succ, List.set_cons_zero, List.set_cons_succ, Option.map_some, Bool.bne_false, Bool.bne_true, Bool.not_true, Bool.not_false]
  rw [loadN_L (by rfl)]
  simp only [wGet_some, wPut_some, wDo_some, wBool_some, wNew_some, wNewS_some, wAgg_some, wIf_true, wIf_false, wGuard_ff, wGuard_tt, wGuard_ft, wGuard_tf, wGuard_undef, pickA_t, pickA_f, unA_not, faddr_L, faddr_F, extractA_tup, load1_F, load1_zero, load1_succ, Nat.reduceAdd, load1_one, load1_two, load1_three, loadN_zero, loadN_one, loadN_two, loadN_three, under_mk, binA_lss, binA_leq, binA_gtr, binA_geq, binA_eql, binA_neq, AV.cells?, AH.push, List.nil_append, List.cons_append, List.length_nil, List.length_cons, Nat.zero_add, List.getElem?_cons_zero, List.getElem?_cons_succ, List.set_cons_zero, List.set_cons_succ, Option.map_some, Bool.bne_false, Bool.bne_true, Bool.not_true, Bool.not_false, subL_two]
  generalize e9 : n8 + 1 = n9
  have hk : ∀ z : AV, Fk (⟨[.cells n 1 [.val (.int .i64 1)], .cells n1 1 [.val (.int .i64 0)], .cells n2 1 [.val (.int .i64 0)], .cells n3 1 [.slL 0 0 1 n, .slL 1 0 1 n1, .slL 2 0 1 n2], .cells n4 1 [.val (.int .i64 5)], .cells n5 1 [.val (.int .i64 5)], .cells n6 1 [.val (.int .i64 6)],
      .cells n7 1 [.slL 4 0 1 n4, .slL 5 0 1 n5, .slL 6 0 1 n6], .cells n8 2 [.slL 3 0 3 n3, .slL 7 0 3 n7]], n9⟩ : AH) [0, 1, 2, 3, 4, 5, 6, 7] z z := fun z => .same z
  have k3 : Fk (⟨[.cells n 1 [.val (.int .i64 1)], .cells n1 1 [.val (.int .i64 0)], .cells n2 1 [.val (.int .i64 0)], .cells n3 1 [.slL 0 0 1 n, .slL 1 0 1 n1, .slL 2 0 1 n2], .cells n4 1 [.val (.int .i64 5)], .cells n5 1 [.val (.int .i64 5)], .cells n6 1 [.val (.int .i64 6)],
      .cells n7 1 [.slL 4 0 1 n4, .slL 5 0 1 n5, .slL 6 0 1 n6], .cells n8 2 [.slL 3 0 3 n3, .slL 7 0 3 n7]], n9⟩ : AH) [0, 1, 2, 3, 4, 5, 6, 7] (.slL 3 0 3 n3) (.slF [i1 1, i1 0, i1 0] 0 3) :=
    .slF 3 (sz := 1) rfl (by simp) (.cons (.slF 1 (sz := 1) rfl (by simp) (FkL.same _)) (.cons (.slF 1 (sz := 1) rfl (by simp) (FkL.same _)) (.cons (.slF 1 (sz := 1) rfl (by simp) (FkL.same _)) .nil)))
  have k7 : Fk (⟨[.cells n 1 [.val (.int .i64 1)], .cells n1 1 [.val (.int .i64 0)], .cells n2 1 [.val (.int .i64 0)], .cells n3 1 [.slL 0 0 1 n, .slL 1 0 1 n1, .slL 2 0 1 n2], .cells n4 1 [.val (.int .i64 5)], .cells n5 1 [.val (.int .i64 5)], .cells n6 1 [.val (.int .i64 6)],
      .cells n7 1 [.slL 4 0 1 n4, .slL 5 0 1 n5, .slL 6 0 1 n6], .cells n8 2 [.slL 3 0 3 n3, .slL 7 0 3 n7]], n9⟩ : AH) [0, 1, 2, 3, 4, 5, 6, 7] (.slL 7 0 3 n7) (.slF [i1 5, i1 5, i1 6] 0 3) :=
    .slF 3 (sz := 1) rfl (by simp) (.cons (.slF 1 (sz := 1) rfl (by simp) (FkL.same _)) (.cons (.slF 1 (sz := 1) rfl (by simp) (FkL.same _)) (.cons (.slF 1 (sz := 1) rfl (by simp) (FkL.same _)) .nil)))
  have hg := ghost_kill (bs' := [.dead, .dead, .dead, .dead, .dead, .dead, .dead, .dead, .cells n8 2 [.slF [i1 1, i1 0, i1 0] 0 3, .slF [i1 5, i1 5, i1 6] 0 3]]) rfl (by
    intro i x hi
    rcases i with _ | _ | _ | _ | _ | _ | _ | _ | _ | i
    all_goals first
      | exact ⟨_, rfl, .inl ⟨by simp, rfl⟩⟩
      | (injection hi with hi; subst hi; exact ⟨_, rfl, .inr ⟨by simp, rfl, rfl, .cons k3 (.cons k7 .nil)⟩⟩)
      | (simp at hi)) (xs := [.agg [.slL 3 0 3 n3, .slL 7 0 3 n7]]) (.cons (.agg (.cons k3 (.cons k7 .nil))) .nil)
  have hcl : AV.closedL [.agg [.slF [i1 1, i1 0, i1 0] 0 3, .slF [i1 5, i1 5, i1 6] 0 3]] := by simpa [AV.closedL] using t0_tab.closed
  have hcl1 : ∀ r, BlocksR t0 r → r.closed := by
    rintro r (⟨e, h, _⟩ | ⟨_, y, rfl, hy⟩)
    · rw [t0_check] at h; cases h
    · simp [AV.closed, AV.closedL, errA_closed, (hy 1 t0_last).closed]
  refine wCall.freeze hg (Blocks_spec B.block t0_tab (ends t0) (by decide)) hcl hcl1 fun r hr => ?_
  rcases hr with ⟨e, h, _⟩ | ⟨_, y, rfl, hy⟩
  · rw [t0_check] at h; cases h
  have hy := hy 1 t0_last
  simp only [wGet_some, wPut_some, wDo_some, wBool_some, wNew_some, wNewS_some, wAgg_some, wIf_true, wIf_false, wGuard_ff, wGuard_tt, wGuard_ft, wGuard_tf, wGuard_undef, pickA_t, pickA_f, unA_not, faddr_L, faddr_F, extractA_tup, load1_F, load1_zero, load1_succ, Nat.reduceAdd, load1_one, load1_two, load1_three, loadN_zero, loadN_one, loadN_two, loadN_three, under_mk, binA_lss, binA_leq, binA_gtr, binA_geq, binA_eql, binA_neq, AV.cells?, AH.push, List.nil_append, List.cons_append, List.length_nil, List.length_cons, Nat.zero_add, List.getElem?_cons_zero, List.getElem?_cons_succ, List.set_cons_zero, List.set_cons_succ, Option.map_some, Bool.bne_false, Bool.bne_true, Bool.not_true, Bool.not_false]
  rw [loadN_L (by rfl)]
  simp only [wGet_some, wPut_some, wDo_some, wBool_some, wNew_some, wNewS_some, wAgg_some, wIf_true, wIf_false, wGuard_ff, wGuard_tt, wGuard_ft, wGuard_tf, wGuard_undef, pickA_t, pickA_f, unA_not, faddr_L, faddr_F, extractA_tup, load1_F, load1_zero, load1_succ, Nat.reduceAdd, load1_one, load1_two, load1_three, loadN_zero, loadN_one, loadN_two, loadN_three, under_mk, binA_lss, binA_leq, binA_gtr, binA_geq, binA_eql, binA_neq, AV.cells?, AH.push, List.nil_append, List.cons_append, List.length_nil, List.length_cons, Nat.zero_add, List.getElem?_cons_zero, List.getElem?_cons_succ, List.set_cons_zero, List.set_cons_succ, Option.map_some, Bool.bne_false, Bool.bne_true, Bool.not_true, Bool.not_false, subL_two]
  have hpr : ∀ r, PartR t0 0 2 r → ∃ z, r = .tup [z, errA none] ∧ Ints z [0] := by
    rintro r (⟨e, h, _⟩ | ⟨_, h, _⟩ | ⟨_, _, K, _, hK, h⟩)
    · rw [t0_check] at h; cases h
    · exact absurd h (by decide)
    · have : K = 1 := hK.uniq t0_last
      subst this
      have hf : ((List.range (1 + 1)).map (iter t0)).findIdx? (fun l => decide (cell l (0 : Int).toNat ≠ cell l (2 : Int).toNat)) = some 1 := by decide
      rw [hf] at h
      have hp : partFrom t0 1 (0 : Int).toNat (2 : Int).toNat [] = [0] := by decide
      simp only [hp] at h
      exact h
  refine wCall.lift (Part_spec B.block B.part B.part1 t0_tab (ends t0) (by decide) 0 2) (by simpa [AV.closedL, AV.closed] using t0_tab.closed) (fun r h => ?_) fun r hr => ?_
  · obtain ⟨z, rfl, hz⟩ := hpr r h
    simp [AV.closed, AV.closedL, errA_closed, hz.closed]
  obtain ⟨z, rfl, hz⟩ := hpr r hr
  simp only [wGet_some, wPut_some, wDo_some, wBool_some, wNew_some, wNewS_some, wAgg_some, wIf_true, wIf_false, wGuard_ff, wGuard_tt, wGuard_ft, wGuard_tf, wGuard_undef, pickA_t, pickA_f, unA_not, faddr_L, faddr_F, extractA_tup, load1_F, load1_zero, load1_succ, Nat.reduceAdd, load1_one, load1_two, load1_three, loadN_zero, loadN_one, loadN_two, loadN_three, under_mk, binA_lss, binA_leq, binA_gtr, binA_geq, binA_eql, binA_neq, AV.cells?, AH.push, List.nil_append, List.cons_append, List.length_nil, List.length_cons, Nat.zero_add, List.getElem?_cons_zero, List.getElem?_cons_succ, List.set_cons_zero, List.set_cons_succ, Option.map_some, Bool.bne_false, Bool.bne_true, Bool.not_true, Bool.not_false, eq_nilE, Option.isNone_none, fi, true_and]
  have hiter : iter t0 1 = [0, 0, 1] := by decide
  rw [hiter] at hy
  refine wCall.borrow (sameInts_spec B.same hy (y := .slF [.val (.int .i64 0), .val (.int .i64 0), .val (.int .i64 1)] 0 3) (l' := [0, 0, 1]) (.inr rfl) (by decide)) (.cons (.same _) (.cons (.slF 3 (sz := 1) (by rfl) (Nat.zero_le _) (by simp) (FzL.same _)) .nil)) (fun r h => by subst h; simp [flag, AV.flat]) fun r hr => ?_
  subst hr
  simp only [wGet_some, wPut_some, wDo_some, wBool_some, wNew_some, wNewS_some, wAgg_some, wIf_true, wIf_false, wGuard_ff, wGuard_tt, wGuard_ft, wGuard_tf, wGuard_undef, pickA_t, pickA_f, unA_not, faddr_L, faddr_F, extractA_tup, load1_F, load1_zero, load1_succ, Nat.reduceAdd, load1_one, load1_two, load1_three, loadN_zero, loadN_one, loadN_two, loadN_three, under_mk, binA_lss, binA_leq, binA_gtr, binA_geq, binA_eql, binA_neq, AV.cells?, AH.push, List.nil_append, List.cons_append, List.length_nil, List.length_cons, Nat.zero_add, List.getElem?_cons_zero, List.getElem?_cons_succ, List.set_cons_zero, List.set_cons_succ, Option.map_some, Bool.bne_false, Bool.bne_true, Bool.not_true, Bool.not_false, flag, decide_true]
  refine wCall.borrow (sameInts_spec B.same hz (y := .slF [.val (.int .i64 0)] 0 1) (l' := [0]) (.inr rfl) (by decide)) (.cons (.same _) (.cons (.slF 1 (sz := 1) (by rfl) (Nat.zero_le _) (by simp) (FzL.same _)) .nil)) (fun r h => by subst h; simp [flag, AV.flat]) fun r hr => ?_
  subst hr
  simp only [wGet_some, wPut_some, wDo_some, wBool_some, wNew_some, wNewS_some, wAgg_some, wIf_true, wIf_false, wGuard_ff, wGuard_tt, wGuard_ft, wGuard_tf, wGuard_undef, pickA_t, pickA_f, unA_not, faddr_L, faddr_F, extractA_tup, load1_F, load1_zero, load1_succ, Nat.reduceAdd, load1_one, load1_two, load1_three, loadN_zero, loadN_one, loadN_two, loadN_three, under_mk, binA_lss, binA_leq, binA_gtr, binA_geq, binA_eql, binA_neq, AV.cells?, AH.push, List.nil_append, List.cons_append, List.length_nil, List.length_cons, Nat.zero_add, List.getElem?_cons_zero, List.getElem?_cons_succ, List.set_cons_zero, List.set_cons_succ, Option.map_some, Bool.bne_false, Bool.bne_true, Bool.not_true, Bool.not_false, flag, decide_true]
  exact hR _ _ _ (.same _) rfl

theorem BlockLeast_body (B : KeepBodies E P) {x : AV} {t : Table} (hx : Tab x t) (n : Nat) : F.keep_BlockLeast E P x ⟨[], n⟩ (fun r _ => r = flag true) := by
  have hx' := hx
  have hcx : AV.closedL [x] := by simpa [AV.closedL] using hx'.closed
  obtain ⟨a, b, rfl, ha, hb⟩ := hx
  unfold F.keep_BlockLeast
  simp only [wGet_some, wPut_some, wDo_some, wBool_some, wNew_some, wNewS_some, wAgg_some, wIf_true, wIf_false, wGuard_ff, wGuard_tt, wGuard_ft, wGuard_tf, wGuard_undef, pickA_t, pickA_f, unA_not, faddr_L, faddr_F, extractA_tup, load1_F, load1_zero, load1_succ, Nat.reduceAdd, load1_one, load1_two, load1_three, loadN_zero, loadN_one, loadN_two, loadN_three, under_mk, binA_lss, binA_leq, binA_gtr, binA_geq, binA_eql, binA_neq, AV.cells?, AH.push, List.nil_append, List.cons_append, List.length_nil, List.length_cons, Nat.zero_add, List.getElem?_cons_zero, List.getElem?_cons_succ, List.set_cons_zero, List.set_cons_succ, Option.map_some, Bool.bne_false, Bool.bne_true, Bool.not_true, Bool.not_false, subL_two]
  refine wCall.lift (few_spec B.few hx' 60) (by simpa [AV.closedL, AV.closed] using hx'.closed) (fun r h => by subst h; simp [flag, AV.closed]) fun r hr => ?_
  subst hr
  simp only [wGet_some, wPut_some, wDo_some, wBool_some, wNew_some, wNewS_some, wAgg_some, wIf_true, wIf_false, wGuard_ff, wGuard_tt, wGuard_ft, wGuard_tf, wGuard_undef, pickA_t, pickA_f, unA_not, faddr_L, faddr_F, extractA_tup, load1_F, load1_zero, load1_succ, Nat.reduceAdd, load1_one, load1_two, load1_three, loadN_zero, loadN_one, loadN_two, loadN_three, under_mk, binA_lss, binA_leq, binA_gtr, binA_geq, binA_eql, binA_neq, AV.cells?, AH.push, List.nil_append, List.cons_append, List.length_nil, List.length_cons, Nat.zero_add, List.getElem?_cons_zero, List.getElem?_cons_succ, List.set_cons_zero, List.set_cons_succ, Option.map_some, Bool.bne_false, Bool.bne_true, Bool.not_true, Bool.not_false, flag]
  cases hf : fewB t 60 with
  | false => simp only [wGet_some, wPut_some, wDo_some, wBool_some, wNew_some, wNewS_some, wAgg_some, wIf_true, wIf_false, wGuard_ff, wGuard_tt, wGuard_ft, wGuard_tf, wGuard_undef, pickA_t, pickA_f, unA_not, faddr_L, faddr_F, extractA_tup, load1_F, load1_zero, load1_succ, Nat.reduceAdd, load1_one, load1_two, load1_three, loadN_zero, loadN_one, loadN_two, loadN_three, under_mk, binA_lss, binA_leq, binA_gtr, binA_geq, binA_eql, binA_neq, AV.cells?, AH.push, List.nil_append, List.cons_append, List.length_nil, List.length_cons, Nat.zero_add, List.getElem?_cons_zero, List.getElem?_cons_succ, List.set_cons_zero, List.set_cons_succ, Option.map_some, Bool.bne_false, Bool.bne_true, Bool.not_true, Bool.not_false, show (!false) = true from rfl]
  | true =>
    have hl : t.next.length < 1000000000 := by
      simp only [fewB, Bool.and_eq_true, decide_eq_true_eq] at hf
      omega
    simp only [wGet_some, wPut_some, wDo_some, wBool_some, wNew_some, wNewS_some, wAgg_some, wIf_true, wIf_false, wGuard_ff, wGuard_tt, wGuard_ft, wGuard_tf, wGuard_undef, pickA_t, pickA_f, unA_not, faddr_L, faddr_F, extractA_tup, load1_F, load1_zero, load1_succ, Nat.reduceAdd, load1_one, load1_two, load1_three, loadN_zero, loadN_one, loadN_two, loadN_three, under_mk, binA_lss, binA_leq, binA_gtr, binA_geq, binA_eql, binA_neq, AV.cells?, AH.push, List.nil_append, List.cons_append, List.length_nil, List.length_cons, Nat.zero_add, List.getElem?_cons_zero, List.getElem?_cons_succ, List.set_cons_zero, List.set_cons_succ, Option.map_some, Bool.bne_false, Bool.bne_true, Bool.not_true, Bool.not_false, subL_two]
    refine wCall.lift (Least_spec B.block B.least hx' (ends t) hl) hcx (fun r h => ?_) fun r hr => ?_
    · rcases h with ⟨e, _, rfl⟩ | ⟨hc, y, rfl, hy⟩
      · simp [AV.closed, AV.closedL, nilS, errA_closed]
      · obtain ⟨K, _, hK⟩ := ends t (good_iff.1 hc)
        simp [AV.closed, AV.closedL, errA_closed, (hy K hK).closed]
    have hblk := blocked_spec B
    rcases hr with ⟨e, hc, rfl⟩ | ⟨hc, y, rfl, hy⟩
    · simp only [wGet_some, wPut_some, wDo_some, wBool_some, wNew_some, wNewS_some, wAgg_some, wIf_true, wIf_false, wGuard_ff, wGuard_tt, wGuard_ft, wGuard_tf, wGuard_undef, pickA_t, pickA_f, unA_not, faddr_L, faddr_F, extractA_tup, load1_F, load1_zero, load1_succ, Nat.reduceAdd, load1_one, load1_two, load1_three, loadN_zero, loadN_one, loadN_two, loadN_three, under_mk, binA_lss, binA_leq, binA_gtr, binA_geq, binA_eql, binA_neq, AV.cells?, AH.push, List.nil_append, List.cons_append, List.length_nil, List.length_cons, Nat.zero_add, List.getElem?_cons_zero, List.getElem?_cons_succ, List.set_cons_zero, List.set_cons_succ, Option.map_some, Bool.bne_false, Bool.bne_true, Bool.not_true, Bool.not_false]
      rw [storeN_L (n := 2) (xs := [nilS, nilS]) (by rfl) rfl rfl (show putL [AV.val (.slice none 0 0), AV.val (.slice none 0 0)] 0 [nilS, nilS] = some [nilS, nilS] from rfl)]
      simp only [wGet_some, wPut_some, wDo_some, wBool_some, wNew_some, wNewS_some, wAgg_some, wIf_true, wIf_false, wGuard_ff, wGuard_tt, wGuard_ft, wGuard_tf, wGuard_undef, pickA_t, pickA_f, unA_not, faddr_L, faddr_F, extractA_tup, load1_F, load1_zero, load1_succ, Nat.reduceAdd, load1_one, load1_two, load1_three, loadN_zero, loadN_one, loadN_two, loadN_three, under_mk, binA_lss, binA_leq, binA_gtr, binA_geq, binA_eql, binA_neq, AV.cells?, AH.push, List.nil_append, List.cons_append, List.length_nil, List.length_cons, Nat.zero_add, List.getElem?_cons_zero, List.getElem?_cons_succ, List.set_cons_zero, List.set_cons_succ, Option.map_some, Bool.bne_false, Bool.bne_true, Bool.not_true, Bool.not_false]
      refine wCall.lift hblk trivial (fun r h => by subst h; simp [flag, AV.closed]) fun r hr => ?_
      subst hr
      simp only [wGet_some, wPut_some, wDo_some, wBool_some, wNew_some, wNewS_some, wAgg_some, wIf_true, wIf_false, wGuard_ff, wGuard_tt, wGuard_ft, wGuard_tf, wGuard_undef, pickA_t, pickA_f, unA_not, faddr_L, faddr_F, extractA_tup, load1_F, load1_zero, load1_succ, Nat.reduceAdd, load1_one, load1_two, load1_three, loadN_zero, loadN_one, loadN_two, loadN_three, under_mk, binA_lss, binA_leq, binA_gtr, binA_geq, binA_eql, binA_neq, AV.cells?, AH.push, List.nil_append, List.cons_append, List.length_nil, List.length_cons, Nat.zero_add, List.getElem?_cons_zero, List.getElem?_cons_succ, List.set_cons_zero, List.set_cons_succ, Option.map_some, Bool.bne_false, Bool.bne_true, Bool.not_true, Bool.not_false, flag, eq_nilE, Option.isNone_some]
      refine wCall.lift hblk trivial (fun r h => by subst h; simp [flag, AV.closed]) fun r hr => ?_
      subst hr
      simp only [wGet_some, wPut_some, wDo_some, wBool_some, wNew_some, wNewS_some, wAgg_some, wIf_true, wIf_false, wGuard_ff, wGuard_tt, wGuard_ft, wGuard_tf, wGuard_undef, pickA_t, pickA_f, unA_not, faddr_L, faddr_F, extractA_tup, load1_F, load1_zero, load1_succ, Nat.reduceAdd, load1_one, load1_two, load1_three, loadN_zero, loadN_one, loadN_two, loadN_three, under_mk, binA_lss, binA_leq, binA_gtr, binA_geq, binA_eql, binA_neq, AV.cells?, AH.push, List.nil_append, List.cons_append, List.length_nil, List.length_cons, Nat.zero_add, List.getElem?_cons_zero, List.getElem?_cons_succ, List.set_cons_zero, List.set_cons_succ, Option.map_some, Bool.bne_false, Bool.bne_true, Bool.not_true, Bool.not_false, flag, show lenA nilS = some (.val (.int .i64 0)) from rfl]
      rfl
    · have hg := good_iff.1 hc
      obtain ⟨K, _, hK⟩ := ends t hg
      have hy := hy K hK
      obtain ⟨hgx, hxl, hlaw⟩ := least_law hg hK
      have hcy : AV.closedL [y] := by simpa [AV.closedL] using hy.closed
      have hye := ends (leastT t (iter t K))
      generalize leastT t (iter t K) = x at *
      have hy' := hy
      obtain ⟨p, q, rfl, hp, hq⟩ := hy
      have hps : p.scalar = true := by obtain ⟨xs, h, _⟩ := hp; exact h.scalar
      have hqs : q.scalar = true := by obtain ⟨xs, h, _⟩ := hq; exact h.scalar
      simp only [wGet_some, wPut_some, wDo_some, wBool_some, wNew_some, wNewS_some, wAgg_some, wIf_true, wIf_false, wGuard_ff, wGuard_tt, wGuard_ft, wGuard_tf, wGuard_undef, pickA_t, pickA_f, unA_not, faddr_L, faddr_F, extractA_tup, load1_F, load1_zero, load1_succ, Nat.reduceAdd, load1_one, load1_two, load1_three, loadN_zero, loadN_one, loadN_two, loadN_three, under_mk, binA_lss, binA_leq, binA_gtr, binA_geq, binA_eql, binA_neq, AV.cells?, AH.push, List.nil_append, List.cons_append, List.length_nil, List.length_cons, Nat.zero_add, List.getElem?_cons_zero, List.getElem?_cons_succ, List.set_cons_zero, List.set_cons_succ, Option.map_some, Bool.bne_false, Bool.bne_true, Bool.not_true, Bool.not_false]
      rw [storeN_L (n := 2) (xs := [p, q]) (by rfl) rfl (by simp [hps, hqs]) (show putL [AV.val (.slice none 0 0), AV.val (.slice none 0 0)] 0 [p, q] = some [p, q] from rfl)]
      simp only [wGet_some, wPut_some, wDo_some, wBool_some, wNew_some, wNewS_some, wAgg_some, wIf_true, wIf_false, wGuard_ff, wGuard_tt, wGuard_ft, wGuard_tf, wGuard_undef, pickA_t, pickA_f, unA_not, faddr_L, faddr_F, extractA_tup, load1_F, load1_zero, load1_succ, Nat.reduceAdd, load1_one, load1_two, load1_three, loadN_zero, loadN_one, loadN_two, loadN_three, under_mk, binA_lss, binA_leq, binA_gtr, binA_geq, binA_eql, binA_neq, AV.cells?, AH.push, List.nil_append, List.cons_append, List.length_nil, List.length_cons, Nat.zero_add, List.getElem?_cons_zero, List.getElem?_cons_succ, List.set_cons_zero, List.set_cons_succ, Option.map_some, Bool.bne_false, Bool.bne_true, Bool.not_true, Bool.not_false]
      refine wCall.lift hblk trivial (fun r h => by subst h; simp [flag, AV.closed]) fun r hr => ?_
      subst hr
      simp only [wGet_some, wPut_some, wDo_some, wBool_some, wNew_some, wNewS_some, wAgg_some, wIf_true, wIf_false, wGuard_ff, wGuard_tt, wGuard_ft, wGuard_tf, wGuard_undef, pickA_t, pickA_f, unA_not, faddr_L, faddr_F, extractA_tup, load1_F, load1_zero, load1_succ, Nat.reduceAdd, load1_one, load1_two, load1_three, loadN_zero, loadN_one, loadN_two, loadN_three, under_mk, binA_lss, binA_leq, binA_gtr, binA_geq, binA_eql, binA_neq, AV.cells?, AH.push, List.nil_append, List.cons_append, List.length_nil, List.length_cons, Nat.zero_add, List.getElem?_cons_zero, List.getElem?_cons_succ, List.set_cons_zero, List.set_cons_succ, Option.map_some, Bool.bne_false, Bool.bne_true, Bool.not_true, Bool.not_false, flag, eq_nilE, Option.isNone_none, subL_two]
      refine wCall.lift (Blocks_spec B.block hy' hye (by omega)) hcy (fun r h => ?_) fun r hr => ?_
      · rcases h with ⟨e, _, rfl⟩ | ⟨hc, y, rfl, hy⟩
        · simp [AV.closed, AV.closedL, nilS, errA_closed]
        · obtain ⟨K', _, hK'⟩ := hye hgx
          simp [AV.closed, AV.closedL, errA_closed, (hy K' hK').closed]
      rcases hr with ⟨e, hc', _⟩ | ⟨_, z, rfl, hz⟩
      · rw [good_iff.2 hgx] at hc'; cases hc'
      obtain ⟨K', _, hK'⟩ := hye hgx
      have hz := hz K' hK'
      rw [hlaw K' hK'] at hz
      have hzl : ((List.range x.next.length).map fun (i : Nat) => (i : Int)).length = x.next.length := by simp
      have h1 : decide ((x.next.length : Int) ≠ x.next.length) = false := decide_eq_false (by simp)
      have h2 : decide ((x.next.length : Int) > t.next.length) = false := decide_eq_false (by omega)
      simp only [wGet_some, wPut_some, wDo_some, wBool_some, wNew_some, wNewS_some, wAgg_some, wIf_true, wIf_false, wGuard_ff, wGuard_tt, wGuard_ft, wGuard_tf, wGuard_undef, pickA_t, pickA_f, unA_not, faddr_L, faddr_F, extractA_tup, load1_F, load1_zero, load1_succ, Nat.reduceAdd, load1_one, load1_two, load1_three, loadN_zero, loadN_one, loadN_two, loadN_three, under_mk, binA_lss, binA_leq, binA_gtr, binA_geq, binA_eql, binA_neq, AV.cells?, AH.push, List.nil_append, List.cons_append, List.length_nil, List.length_cons, Nat.zero_add, List.getElem?_cons_zero, List.getElem?_cons_succ, List.set_cons_zero, List.set_cons_succ, Option.map_some, Bool.bne_false, Bool.bne_true, Bool.not_true, Bool.not_false, eq_nilE, Option.isNone_none, hz.len, hzl, hp.len, h1, ha.len, h2]
      refine wLoop.one (fun m t6 _ => ∃ i : Nat, i + m = x.next.length ∧ t6 = .val (.int .i64 i)) x.next.length (gh1.mk ⟨0, by omega, rfl⟩) ?_
      rintro m t6 H ⟨i, him, rfl⟩
      simp only [wGet_some, wPut_some, wDo_some, wBool_some, wNew_some, wNewS_some, wAgg_some, wIf_true, wIf_false, wGuard_ff, wGuard_tt, wGuard_ft, wGuard_tf, wGuard_undef, pickA_t, pickA_f, unA_not, faddr_L, faddr_F, extractA_tup, load1_F, load1_zero, load1_succ, Nat.reduceAdd, load1_one, load1_two, load1_three, loadN_zero, loadN_one, loadN_two, loadN_three, under_mk, binA_lss, binA_leq, binA_gtr, binA_geq, binA_eql, binA_neq, AV.cells?, AH.push, List.nil_append, List.cons_append, List.length_nil, List.length_cons, Nat.zero_add, List.getElem?_cons_zero, List.getElem?_cons_succ, List.set_cons_zero, List.set_cons_succ, Option.map_some, Bool.bne_false, Bool.bne_true, Bool.not_true, Bool.not_false, wIf_bool]
      refine ⟨fun hlt => ?_, fun _ => by trivial⟩
      have hi : i < x.next.length := by have := of_decide_eq_true hlt; omega
      obtain ⟨u, hu, hu'⟩ := hz.get (i := i) (by omega)
      have hci : cell ((List.range x.next.length).map fun (i : Nat) => (i : Int)) i = i := by simp [cell, hi]
      rw [hci] at hu'
      have h3 : decide ((i : Int) ≠ i) = false := decide_eq_false (by simp)
      have hfew := hgx.few
      simp only [wGet_some, wPut_some, wDo_some, wBool_some, wNew_some, wNewS_some, wAgg_some, wIf_true, wIf_false, wGuard_ff, wGuard_tt, wGuard_ft, wGuard_tf, wGuard_undef, pickA_t, pickA_f, unA_not, faddr_L, faddr_F, extractA_tup, load1_F, load1_zero, load1_succ, Nat.reduceAdd, load1_one, load1_two, load1_three, loadN_zero, loadN_one, loadN_two, loadN_three, under_mk, binA_lss, binA_leq, binA_gtr, binA_geq, binA_eql, binA_neq, AV.cells?, AH.push, List.nil_append, List.cons_append, List.length_nil, List.length_cons, Nat.zero_add, List.getElem?_cons_zero, List.getElem?_cons_succ, List.set_cons_zero, List.set_cons_succ, Option.map_some, Bool.bne_false, Bool.bne_true, Bool.not_true, Bool.not_false, hu, hu', h3]
      rw [binA_succ (by omega)]
      simp only [wGet_some, wPut_some, wDo_some, wBool_some, wNew_some, wNewS_some, wAgg_some, wIf_true, wIf_false, wGuard_ff, wGuard_tt, wGuard_ft, wGuard_tf, wGuard_undef, pickA_t, pickA_f, unA_not, faddr_L, faddr_F, extractA_tup, load1_F, load1_zero, load1_succ, Nat.reduceAdd, load1_one, load1_two, load1_three, loadN_zero, loadN_one, loadN_two, loadN_three, under_mk, binA_lss, binA_leq, binA_gtr, binA_geq, binA_eql, binA_neq, AV.cells?, AH.push, List.nil_append, List.cons_append, List.length_nil, List.length_cons, Nat.zero_add, List.getElem?_cons_zero, List.getElem?_cons_succ, List.set_cons_zero, List.set_cons_succ, Option.map_some, Bool.bne_false, Bool.bne_true, Bool.not_true, Bool.not_false]
      exact back1.mk (m' := m - 1) (by omega) ⟨i + 1, by omega, rfl⟩
end
end Go.Sb
