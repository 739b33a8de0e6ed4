/-
  CONTRACTS: package block's Least.
-/
import Derived.Test.YtbdkkbeldnndnaaSbP4
namespace Go.Sb
open Go
set_option linter.unnecessarySimpa false
set_option linter.unusedSimpArgs false

/-- the first state of each block -/
def repsTo (l : List Int) : Nat → List Nat
  | 0 => []
  | i + 1 => if cell l i < (repsTo l i).length then repsTo l i else repsTo l i ++ [i]
def leastTo (t : Table) (l : List Int) (i : Nat) : Table := ⟨(repsTo l i).map fun s => (row t.next s).map fun y => cell l y.toNat, (repsTo l i).map (row t.tells)⟩
def leastT (t : Table) (l : List Int) : Table := leastTo t l t.next.length
def LeastR (t : Table) (r : AV) : Prop :=
  (∃ e, check t = some e ∧ r = .tup [.agg [nilS, nilS], errA (some e)]) ∨ (check t = none ∧ ∃ y, r = .tup [y, errA none] ∧ ∀ K, IsLast t K → Tab y (leastT t (iter t K)))
theorem repsTo_len (l : List Int) : ∀ i, (repsTo l i).length ≤ i
  | 0 => by simp [repsTo]
  | i + 1 => by
    have := repsTo_len l i
    simp only [repsTo]; split <;> simp <;> omega

section
variable {E : Env} {P : Program}
theorem Least_spec (B : BlockBodies E P) (hB : Body1 E P 3 F.block_Least) {x : AV} {t : Table} (hx : Tab x t) (he : Ends t) (hl : t.next.length < 1000000000) : FC E P 3 [x] (LeastR t) := by
  refine FC.of' fun n R hR => hB _ _ _ ?_
  have ret : ∀ r H, LeastR t r → R r H := fun r H h => hR r r H (.same _) h
  have hx' := hx
  obtain ⟨a, b, rfl, ha, hb⟩ := hx
  unfold F.block_Least
  simp only [wGet_some, wPut_some, wDo_some, wBool_some, wNew_some, wNewS_some, wAgg_some, wIf_true, wIf_false, wGuard_ff, wGuard_tt, wGuard_ft, wGuard_tf, wGuard_undef, pickA_t, pickA_f, unA_not, faddr_L, faddr_F, extractA_tup, load1_F, load1_zero, load1_succ, Nat.reduceAdd, load1_one, load1_two, load1_three, loadN_zero, loadN_one, loadN_two, loadN_three, under_mk, binA_lss, binA_leq, binA_gtr, binA_geq, binA_eql, binA_neq, AV.cells?, AH.push, List.nil_append, List.cons_append, List.length_nil, List.length_cons, Nat.zero_add, List.getElem?_cons_zero, List.getElem?_cons_succ, List.set_cons_zero, List.set_cons_succ, Option.map_some, Bool.bne_false, Bool.bne_true, Bool.not_true, Bool.not_false, subL_two]
  refine wCall.lift (Blocks_spec B hx' he hl) (by simpa [AV.closedL] using hx'.closed) (fun r h => ?_) fun r hr => ?_
  · rcases h with ⟨e, _, rfl⟩ | ⟨hc, y, rfl, hy⟩
    · simp [AV.closed, AV.closedL, nilS, errA_closed]
    · obtain ⟨K, _, hK⟩ := he (good_iff.1 hc)
      simp [AV.closed, AV.closedL, errA_closed, (hy K hK).closed]
  have hf0 : fillA [AV.val (.slice none 0 0), AV.val (.slice none 0 0)] [] = some [nilS, nilS] := rfl
  rcases hr with ⟨e, hc, rfl⟩ | ⟨hc, y, rfl, hy⟩
  · simp only [wGet_some, wPut_some, wDo_some, wBool_some, wNew_some, wNewS_some, wAgg_some, wIf_true, wIf_false, wGuard_ff, wGuard_tt, wGuard_ft, wGuard_tf, wGuard_undef, pickA_t, pickA_f, unA_not, faddr_L, faddr_F, extractA_tup, load1_F, load1_zero, load1_succ, Nat.reduceAdd, load1_one, load1_two, load1_three, loadN_zero, loadN_one, loadN_two, loadN_three, under_mk, binA_lss, binA_leq, binA_gtr, binA_geq, binA_eql, binA_neq, AV.cells?, AH.push, List.nil_append, List.cons_append, List.length_nil, List.length_cons, Nat.zero_add, List.getElem?_cons_zero, List.getElem?_cons_succ, List.set_cons_zero, List.set_cons_succ, Option.map_some, Bool.bne_false, Bool.bne_true, Bool.not_true, Bool.not_false, eq_nilE, Option.isNone_some, show (!false) = true from rfl, hf0]
    rw [storeN_one, storeN_zero (xs := [nilS, nilS]) (n := 2) rfl rfl]
    simp only [wGet_some, wPut_some, wDo_some, wBool_some, wNew_some, wNewS_some, wAgg_some, wIf_true, wIf_false, wGuard_ff, wGuard_tt, wGuard_ft, wGuard_tf, wGuard_undef, pickA_t, pickA_f, unA_not, faddr_L, faddr_F, extractA_tup, load1_F, load1_zero, load1_succ, Nat.reduceAdd, load1_one, load1_two, load1_three, loadN_zero, loadN_one, loadN_two, loadN_three, under_mk, binA_lss, binA_leq, binA_gtr, binA_geq, binA_eql, binA_neq, AV.cells?, AH.push, List.nil_append, List.cons_append, List.length_nil, List.length_cons, Nat.zero_add, List.getElem?_cons_zero, List.getElem?_cons_succ, List.set_cons_zero, List.set_cons_succ, Option.map_some, Bool.bne_false, Bool.bne_true, Bool.not_true, Bool.not_false, show putL [AV.val (.slice none 0 0), AV.val (.slice none 0 0)] 0 [nilS, nilS] = some [nilS, nilS] from rfl, subL_two, retPack, allSome]
    exact ret _ _ (.inl ⟨e, hc, rfl⟩)
  have hg := good_iff.1 hc
  obtain ⟨K, hKl, hK⟩ := he hg
  have hy := hy K hK
  have g1 := hg.pos; have g2 := hg.few; have g3 := hg.wide; have g4 := hg.tells
  have hnl := iter_len t K
  simp only [wGet_some, wPut_some, wDo_some, wBool_some, wNew_some, wNewS_some, wAgg_some, wIf_true, wIf_false, wGuard_ff, wGuard_tt, wGuard_ft, wGuard_tf, wGuard_undef, pickA_t, pickA_f, unA_not, faddr_L, faddr_F, extractA_tup, load1_F, load1_zero, load1_succ, Nat.reduceAdd, load1_one, load1_two, load1_three, loadN_zero, loadN_one, loadN_two, loadN_three, under_mk, binA_lss, binA_leq, binA_gtr, binA_geq, binA_eql, binA_neq, AV.cells?, AH.push, List.nil_append, List.cons_append, List.length_nil, List.length_cons, Nat.zero_add, List.getElem?_cons_zero, List.getElem?_cons_succ, List.set_cons_zero, List.set_cons_succ, Option.map_some, Bool.bne_false, Bool.bne_true, Bool.not_true, Bool.not_false, eq_nilE, Option.isNone_none, hy.len]
  refine wLoop.one (fun m t23 H => ∃ (s : Nat) (on ot : AV) (nx tx : List AV), s + m = t.next.length ∧ t23 = .val (.int .i64 s) ∧ H.bs[0]? = some (.cells n 2 [a, b]) ∧ H.bs[1]? = some (.cells (n + 1) 2 [nilS, nilS]) ∧ H.bs[2]? = some (.cells (n + 1 + 1) 2 [on, ot]) ∧
      Own H 3 on nx ∧ Own H 3 ot tx ∧ Apart on ot ∧ AllInts nx (leastTo t (iter t K) s).next ∧ AllInts tx (leastTo t (iter t K) s).tells) t.next.length
    (gh1.mk ⟨0, nilS, nilS, [], [], by omega, rfl, rfl, rfl, rfl, .inl ⟨rfl, rfl⟩, .inl ⟨rfl, rfl⟩, .nil, AllInts.nil, AllInts.nil⟩) ?_
  rintro m t23 H ⟨s, on, ot, nx, tx, hsm, rfl, b0, b1, b2, o1, o2, hap, hn, ht⟩
  have hH3 : 3 ≤ H.bs.length := lt_of_get b2
  simp only [wGet_some, wPut_some, wDo_some, wBool_some, wNew_some, wNewS_some, wAgg_some, wIf_true, wIf_false, wGuard_ff, wGuard_tt, wGuard_ft, wGuard_tf, wGuard_undef, pickA_t, pickA_f, unA_not, faddr_L, faddr_F, extractA_tup, load1_F, load1_zero, load1_succ, Nat.reduceAdd, load1_one, load1_two, load1_three, loadN_zero, loadN_one, loadN_two, loadN_three, under_mk, binA_lss, binA_leq, binA_gtr, binA_geq, binA_eql, binA_neq, AV.cells?, AH.push, List.nil_append, List.cons_append, List.length_nil, List.length_cons, Nat.zero_add, List.getElem?_cons_zero, List.getElem?_cons_succ, List.set_cons_zero, List.set_cons_succ, Option.map_some, Bool.bne_false, Bool.bne_true, Bool.not_true, Bool.not_false, wIf_bool, hnl]
  refine ⟨fun hlt => ?_, fun hge => ?_⟩
  · have hs : s < t.next.length := by have := of_decide_eq_true hlt; omega
    obtain ⟨q1, hq1, hq1'⟩ := hy.get (i := s) (by omega)
    obtain ⟨p1, y1, hp1, hl1, hy1⟩ := ha.at hs
    obtain ⟨p2, y2, hp2, hl2, hy2⟩ := hb.at (i := s) (by omega)
    have hrow := hg.rows s hs
    have hnxl : nx.length = (repsTo (iter t K) s).length := by simpa [leastTo] using hn.1
    have htxl : tx.length = (repsTo (iter t K) s).length := by simpa [leastTo] using ht.1
    have hrl := repsTo_len (iter t K) s
    refine wJoin.nul (fun H => ∃ (on ot : AV) (nx tx : List AV), H.bs[0]? = some (.cells n 2 [a, b]) ∧ H.bs[1]? = some (.cells (n + 1) 2 [nilS, nilS]) ∧ H.bs[2]? = some (.cells (n + 1 + 1) 2 [on, ot]) ∧
      Own H 3 on nx ∧ Own H 3 ot tx ∧ Apart on ot ∧ AllInts nx (leastTo t (iter t K) (s + 1)).next ∧ AllInts tx (leastTo t (iter t K) (s + 1)).tells) ?_ ?_
    case refine_2 =>
      rintro H' ⟨on', ot', nx', tx', c0, c1, c2, c3, c4, c5, c6, c7⟩
      rw [binA_succ (by omega)]
      simp only [wGet_some, wPut_some, wDo_some, wBool_some, wNew_some, wNewS_some, wAgg_some, wIf_true, wIf_false, wGuard_ff, wGuard_tt, wGuard_ft, wGuard_tf, wGuard_undef, pickA_t, pickA_f, unA_not, faddr_L, faddr_F, extractA_tup, load1_F, load1_zero, load1_succ, Nat.reduceAdd, load1_one, load1_two, load1_three, loadN_zero, loadN_one, loadN_two, loadN_three, under_mk, binA_lss, binA_leq, binA_gtr, binA_geq, binA_eql, binA_neq, AV.cells?, AH.push, List.nil_append, List.cons_append, List.length_nil, List.length_cons, Nat.zero_add, List.getElem?_cons_zero, List.getElem?_cons_succ, List.set_cons_zero, List.set_cons_succ, Option.map_some, Bool.bne_false, Bool.bne_true, Bool.not_true, Bool.not_false]
      exact back1.mk (m' := m - 1) (by omega) ⟨s + 1, on', ot', nx', tx', by omega, rfl, c0, c1, c2, c3, c4, c5, c6, c7⟩
    simp only [wGet_some, wPut_some, wDo_some, wBool_some, wNew_some, wNewS_some, wAgg_some, wIf_true, wIf_false, wGuard_ff, wGuard_tt, wGuard_ft, wGuard_tf, wGuard_undef, pickA_t, pickA_f, unA_not, faddr_L, faddr_F, extractA_tup, load1_F, load1_zero, load1_succ, Nat.reduceAdd, load1_one, load1_two, load1_three, loadN_zero, loadN_one, loadN_two, loadN_three, under_mk, binA_lss, binA_leq, binA_gtr, binA_geq, binA_eql, binA_neq, AV.cells?, AH.push, List.nil_append, List.cons_append, List.length_nil, List.length_cons, Nat.zero_add, List.getElem?_cons_zero, List.getElem?_cons_succ, List.set_cons_zero, List.set_cons_succ, Option.map_some, Bool.bne_false, Bool.bne_true, Bool.not_true, Bool.not_false, hq1, hq1', load1_L b2, o1.len, wIf_bool, hnxl]
    refine ⟨fun hk => ?_, fun hk => ?_⟩
    · have hk := of_decide_eq_true hk
      have hrep : repsTo (iter t K) (s + 1) = repsTo (iter t K) s := by simp only [repsTo]; rw [if_pos hk]
      refine gh0.mk ⟨on, ot, nx, tx, b0, b1, b2, o1, o2, hap, ?_, ?_⟩
      · simp only [leastTo, hrep]; exact hn
      · simp only [leastTo, hrep]; exact ht
    · have hk := of_decide_eq_false hk
      have hrep : repsTo (iter t K) (s + 1) = repsTo (iter t K) s ++ [s] := by simp only [repsTo]; rw [if_neg hk]
      simp only [wGet_some, wPut_some, wDo_some, wBool_some, wNew_some, wNewS_some, wAgg_some, wIf_true, wIf_false, wGuard_ff, wGuard_tt, wGuard_ft, wGuard_tf, wGuard_undef, pickA_t, pickA_f, unA_not, faddr_L, faddr_F, extractA_tup, load1_F, load1_zero, load1_succ, Nat.reduceAdd, load1_one, load1_two, load1_three, loadN_zero, loadN_one, loadN_two, loadN_three, under_mk, binA_lss, binA_leq, binA_gtr, binA_geq, binA_eql, binA_neq, AV.cells?, AH.push, List.nil_append, List.cons_append, List.length_nil, List.length_cons, Nat.zero_add, List.getElem?_cons_zero, List.getElem?_cons_succ, List.set_cons_zero, List.set_cons_succ, Option.map_some, Bool.bne_false, Bool.bne_true, Bool.not_true, Bool.not_false, load1_L b0, hp1, hl1, hy1.len]
      refine wLoop.two (fun m t9 t39 H' => ∃ i : Nat, i + m = (row t.next s).length ∧ t39 = .val (.int .i64 i) ∧ H.bs.length ≤ H'.bs.length ∧ H'.bs.take H.bs.length = H.bs ∧
          (i < (row t.next s).length → Own H' H.bs.length t9 (ints (((row t.next s).take i).map fun y => cell (iter t K) y.toNat))) ∧ (i = (row t.next s).length → Ints t9 ((row t.next s).map fun y => cell (iter t K) y.toNat))) (row t.next s).length
        (gh2.mk ⟨0, by omega, rfl, Nat.le_refl _, by simp, fun _ => .inl ⟨rfl, by simp [ints]⟩, fun h => .inl ⟨rfl, by rw [List.length_eq_zero_iff.1 h.symm]; rfl⟩⟩) ?_
      rintro m3 t9 t39 H3 ⟨i, him, rfl, hle3, htk, ho9, hs9⟩
      have hkeep : ∀ (j : Nat) (v : Blk), H.bs[j]? = some v → H3.bs[j]? = some v := by
        intro j v hv
        have := lt_of_get hv
        rw [← htk, List.getElem?_take, if_pos this] at hv
        exact hv
      have hE : Ext H H3 := ⟨hkeep, hle3⟩
      simp only [wGet_some, wPut_some, wDo_some, wBool_some, wNew_some, wNewS_some, wAgg_some, wIf_true, wIf_false, wGuard_ff, wGuard_tt, wGuard_ft, wGuard_tf, wGuard_undef, pickA_t, pickA_f, unA_not, faddr_L, faddr_F, extractA_tup, load1_F, load1_zero, load1_succ, Nat.reduceAdd, load1_one, load1_two, load1_three, loadN_zero, loadN_one, loadN_two, loadN_three, under_mk, binA_lss, binA_leq, binA_gtr, binA_geq, binA_eql, binA_neq, AV.cells?, AH.push, List.nil_append, List.cons_append, List.length_nil, List.length_cons, Nat.zero_add, List.getElem?_cons_zero, List.getElem?_cons_succ, List.set_cons_zero, List.set_cons_succ, Option.map_some, Bool.bne_false, Bool.bne_true, Bool.not_true, Bool.not_false, wIf_bool]
      refine ⟨fun hlt3 => ?_, fun hge3 => ?_⟩
      · have hi : i < (row t.next s).length := by
          have := of_decide_eq_true hlt3
          simp only [row]; omega
        have ho9 := ho9 hi
        obtain ⟨u1, hu1, hu1'⟩ := hy1.get (i := i) hi
        have hthere := hg.there s hs (cell (row t.next s) i) (by
          have : (row t.next s)[i] ∈ row t.next s := List.getElem_mem hi
          simpa [cell, hi] using this)
        obtain ⟨u3, hu3, hu3'⟩ := hy.get (i := (cell (row t.next s) i).toNat) (by omega)
        rw [show (((cell (row t.next s) i).toNat : Nat) : Int) = cell (row t.next s) i by omega] at hu3
        simp only [wGet_some, wPut_some, wDo_some, wBool_some, wNew_some, wNewS_some, wAgg_some, wIf_true, wIf_false, wGuard_ff, wGuard_tt, wGuard_ft, wGuard_tf, wGuard_undef, pickA_t, pickA_f, unA_not, faddr_L, faddr_F, extractA_tup, load1_F, load1_zero, load1_succ, Nat.reduceAdd, load1_one, load1_two, load1_three, loadN_zero, loadN_one, loadN_two, loadN_three, under_mk, binA_lss, binA_leq, binA_gtr, binA_geq, binA_eql, binA_neq, AV.cells?, AH.push, List.nil_append, List.cons_append, List.length_nil, List.length_cons, Nat.zero_add, List.getElem?_cons_zero, List.getElem?_cons_succ, List.set_cons_zero, List.set_cons_succ, Option.map_some, Bool.bne_false, Bool.bne_true, Bool.not_true, Bool.not_false, hu1, hu1']
        rw [show cell (t.next[s]?.getD []) i = cell (row t.next s) i from rfl, hu3]
        simp only [wGet_some, wPut_some, wDo_some, wBool_some, wNew_some, wNewS_some, wAgg_some, wIf_true, wIf_false, wGuard_ff, wGuard_tt, wGuard_ft, wGuard_tf, wGuard_undef, pickA_t, pickA_f, unA_not, faddr_L, faddr_F, extractA_tup, load1_F, load1_zero, load1_succ, Nat.reduceAdd, load1_one, load1_two, load1_three, loadN_zero, loadN_one, loadN_two, loadN_three, under_mk, binA_lss, binA_leq, binA_gtr, binA_geq, binA_eql, binA_neq, AV.cells?, AH.push, List.nil_append, List.cons_append, List.length_nil, List.length_cons, Nat.zero_add, List.getElem?_cons_zero, List.getElem?_cons_succ, List.set_cons_zero, List.set_cons_succ, Option.map_some, Bool.bne_false, Bool.bne_true, Bool.not_true, Bool.not_false, hu3', fill_one (show (AV.val (.int .i64 (cell (iter t K) (cell (row t.next s) i).toNat))).scalar = true from rfl)]
        refine ⟨trivial, ?_⟩
        obtain ⟨x3, H4, v1, v2, v3, v4, v5⟩ := (ho9.ext (.push H3 1 [AV.val (.int .i64 (cell (iter t K) (cell (row t.next s) i).toNat))])).grow (Nat.le_trans hle3 (Ext.push H3 _ _).2) (bytes := 8)
          (y := .slL H3.bs.length 0 1 H3.ctr) (own_get (push_get H3 1 _)) rfl rfl (by simp only [mostBytes, ints_length, List.length_map, List.length_take]; omega) (by simp only [mostBytes, ints_length, List.length_map, List.length_take]; omega)
        rw [show (⟨H3.bs ++ [Blk.cells H3.ctr 1 [AV.val (.int .i64 (cell (iter t K) (cell (row t.next s) i).toNat))]], H3.ctr + 1⟩ : AH) = H3.push 1 [AV.val (.int .i64 (cell (iter t K) (cell (row t.next s) i).toNat))] from rfl, v1]
        simp only [wGet_some, wPut_some, wDo_some, wBool_some, wNew_some, wNewS_some, wAgg_some, wIf_true, wIf_false, wGuard_ff, wGuard_tt, wGuard_ft, wGuard_tf, wGuard_undef, pickA_t, pickA_f, unA_not, faddr_L, faddr_F, extractA_tup, load1_F, load1_zero, load1_succ, Nat.reduceAdd, load1_one, load1_two, load1_three, loadN_zero, loadN_one, loadN_two, loadN_three, under_mk, binA_lss, binA_leq, binA_gtr, binA_geq, binA_eql, binA_neq, AV.cells?, AH.push, List.nil_append, List.cons_append, List.length_nil, List.length_cons, Nat.zero_add, List.getElem?_cons_zero, List.getElem?_cons_succ, List.set_cons_zero, List.set_cons_succ, Option.map_some, Bool.bne_false, Bool.bne_true, Bool.not_true, Bool.not_false]
        rw [binA_succ (by omega)]
        simp only [wGet_some, wPut_some, wDo_some, wBool_some, wNew_some, wNewS_some, wAgg_some, wIf_true, wIf_false, wGuard_ff, wGuard_tt, wGuard_ft, wGuard_tf, wGuard_undef, pickA_t, pickA_f, unA_not, faddr_L, faddr_F, extractA_tup, load1_F, load1_zero, load1_succ, Nat.reduceAdd, load1_one, load1_two, load1_three, loadN_zero, loadN_one, loadN_two, loadN_three, under_mk, binA_lss, binA_leq, binA_gtr, binA_geq, binA_eql, binA_neq, AV.cells?, AH.push, List.nil_append, List.cons_append, List.length_nil, List.length_cons, Nat.zero_add, List.getElem?_cons_zero, List.getElem?_cons_succ, List.set_cons_zero, List.set_cons_succ, Option.map_some, Bool.bne_false, Bool.bne_true, Bool.not_true, Bool.not_false]
        have hnew : ints (((row t.next s).take i).map fun y => cell (iter t K) y.toNat) ++ [AV.val (.int .i64 (cell (iter t K) (cell (row t.next s) i).toNat))] = ints (((row t.next s).take (i + 1)).map fun y => cell (iter t K) y.toNat) := by
          have hci : cell (row t.next s) i = (row t.next s)[i] := by simp [cell, hi]
          rw [List.take_succ_eq_append_getElem hi, List.map_append, ints_append, hci]
          rfl
        rw [hnew] at v2
        have hT : H4.bs.take H.bs.length = H.bs := (take_keep (fun j v hv hj => v3 j v ((Ext.push H3 1 _).1 j v hv) hj) hle3).trans htk
        have hle4 : H.bs.length ≤ H4.bs.length := Nat.le_trans (Nat.le_trans hle3 (Ext.push H3 _ _).2) v4
        by_cases hend : i + 1 = (row t.next s).length
        · obtain ⟨x9, z1, z2⟩ := v2.frozen (m0 := H.bs.length) (mv := []) (Nat.le_refl _) (by simp) (FzL.same _)
          refine back2.of (m' := m3 - 1) (by omega) (ghost_take hle4 (.cons z1 (.cons (.same _) .nil))) ⟨i + 1, by omega, rfl, by simp; omega, by simp [hT], fun h => by omega, fun _ => ?_⟩
          rw [hend, List.take_length] at z2
          exact z2
        · exact back2.mk (m' := m3 - 1) (by omega) ⟨i + 1, by omega, rfl, hle4, hT, fun _ => v2, fun h => absurd h hend⟩
      · have hie : i = (row t.next s).length := by
          have := of_decide_eq_false hge3
          simp only [row] at *; omega
        have hs9 := hs9 hie
        clear ho9
        have c0 := hkeep _ _ b0; have c1 := hkeep _ _ b1; have c2 := hkeep _ _ b2
        have p1' := o1.ext hE; have p2' := o2.ext hE
        have h9s : t9.scalar = true := Sl.scalar hs9
        simp only [wGet_some, wPut_some, wDo_some, wBool_some, wNew_some, wNewS_some, wAgg_some, wIf_true, wIf_false, wGuard_ff, wGuard_tt, wGuard_ft, wGuard_tf, wGuard_undef, pickA_t, pickA_f, unA_not, faddr_L, faddr_F, extractA_tup, load1_F, load1_zero, load1_succ, Nat.reduceAdd, load1_one, load1_two, load1_three, loadN_zero, loadN_one, loadN_two, loadN_three, under_mk, binA_lss, binA_leq, binA_gtr, binA_geq, binA_eql, binA_neq, AV.cells?, AH.push, List.nil_append, List.cons_append, List.length_nil, List.length_cons, Nat.zero_add, List.getElem?_cons_zero, List.getElem?_cons_succ, List.set_cons_zero, List.set_cons_succ, Option.map_some, Bool.bne_false, Bool.bne_true, Bool.not_true, Bool.not_false, load1_L c2, load1_L c0, hp2, hl2, fill_one h9s]
        refine ⟨trivial, ?_⟩
        have hE3 : Ext H3 (H3.push 1 [t9]) := .push _ _ _
        obtain ⟨x3, H4, v1, v2, v3, v4, v5⟩ := (p1'.ext hE3).grow (Nat.le_trans (Nat.le_trans hH3 hle3) hE3.2) (bytes := 24)
          (y := .slL H3.bs.length 0 1 H3.ctr) (own_get (push_get H3 1 _)) rfl (by simpa using h9s) (by simp only [mostBytes, hnxl]; omega) (by simp only [mostBytes, hnxl]; omega)
        obtain ⟨w1, w2⟩ := v5 _ _ (p2'.ext hE3) hap
        have d0 := v3 _ _ (hE3.1 _ _ c0) (by omega); have d1 := v3 _ _ (hE3.1 _ _ c1) (by omega); have d2 := v3 _ _ (hE3.1 _ _ c2) (by omega)
        rw [show (⟨H3.bs ++ [Blk.cells H3.ctr 1 [t9]], H3.ctr + 1⟩ : AH) = H3.push 1 [t9] from rfl, v1]
        have e0 : (⟨H3.bs ++ [Blk.cells H3.ctr 1 [t9]], H3.ctr + 1⟩ : AH).bs[0]? = _ := hE3.1 _ _ c0
        have e2 : (⟨H3.bs ++ [Blk.cells H3.ctr 1 [t9]], H3.ctr + 1⟩ : AH).bs[2]? = _ := hE3.1 _ _ c2
        simp only [wGet_some, wPut_some, wDo_some, wBool_some, wNew_some, wNewS_some, wAgg_some, wIf_true, wIf_false, wGuard_ff, wGuard_tt, wGuard_ft, wGuard_tf, wGuard_undef, pickA_t, pickA_f, unA_not, faddr_L, faddr_F, extractA_tup, load1_F, load1_zero, load1_succ, Nat.reduceAdd, load1_one, load1_two, load1_three, loadN_zero, loadN_one, loadN_two, loadN_three, under_mk, binA_lss, binA_leq, binA_gtr, binA_geq, binA_eql, binA_neq, AV.cells?, AH.push, List.nil_append, List.cons_append, List.length_nil, List.length_cons, Nat.zero_add, List.getElem?_cons_zero, List.getElem?_cons_succ, List.set_cons_zero, List.set_cons_succ, Option.map_some, Bool.bne_false, Bool.bne_true, Bool.not_true, Bool.not_false, load1_L e0, load1_L e2, load1_L d0, load1_L d2, hl2, and_self, true_and]
        refine wCall.lift (Clone_spec B.clone hy2 (by have h3' := hrow.2; have h4' := g3; simp only [row] at h3' h4'; omega)) (by simpa [AV.closedL] using hy2.closed) (fun r h => h.closed) fun r hr => ?_
        have hrs : r.scalar = true := Sl.scalar hr
        simp only [wGet_some, wPut_some, wDo_some, wBool_some, wNew_some, wNewS_some, wAgg_some, wIf_true, wIf_false, wGuard_ff, wGuard_tt, wGuard_ft, wGuard_tf, wGuard_undef, pickA_t, pickA_f, unA_not, faddr_L, faddr_F, extractA_tup, load1_F, load1_zero, load1_succ, Nat.reduceAdd, load1_one, load1_two, load1_three, loadN_zero, loadN_one, loadN_two, loadN_three, under_mk, binA_lss, binA_leq, binA_gtr, binA_geq, binA_eql, binA_neq, AV.cells?, AH.push, List.nil_append, List.cons_append, List.length_nil, List.length_cons, Nat.zero_add, List.getElem?_cons_zero, List.getElem?_cons_succ, List.set_cons_zero, List.set_cons_succ, Option.map_some, Bool.bne_false, Bool.bne_true, Bool.not_true, Bool.not_false, load1_L d2, fill_one hrs, and_self, true_and]
        have hE4 : Ext H4 (H4.push 1 [r]) := .push _ _ _
        have hH4 : 3 ≤ H4.bs.length := lt_of_get d2
        obtain ⟨x4, H5, v6, v7, v8, v9, v10⟩ := (w1.ext hE4).grow (Nat.le_trans hH4 hE4.2) (bytes := 24)
          (y := .slL H4.bs.length 0 1 H4.ctr) (own_get (push_get H4 1 _)) rfl (by simpa using hrs) (by simp only [mostBytes, htxl]; omega) (by simp only [mostBytes, htxl]; omega)
        obtain ⟨w3, w4⟩ := v10 _ _ (v2.ext hE4) w2.symm
        have f0 := hE4.1 _ _ d0; have f1 := hE4.1 _ _ d1
        have f2 : (⟨H4.bs ++ [Blk.cells H4.ctr 1 [r]], H4.ctr + 1⟩ : AH).bs[2]? = _ := hE4.1 _ _ d2
        have k0 := v8 _ _ f0 (by omega); have k1 := v8 _ _ f1 (by omega); have k2 := v8 _ _ f2 (by omega)
        rw [show (⟨H4.bs ++ [Blk.cells H4.ctr 1 [r]], H4.ctr + 1⟩ : AH) = H4.push 1 [r] from rfl, v6]
        simp only [wGet_some, wPut_some, wDo_some, wBool_some, wNew_some, wNewS_some, wAgg_some, wIf_true, wIf_false, wGuard_ff, wGuard_tt, wGuard_ft, wGuard_tf, wGuard_undef, pickA_t, pickA_f, unA_not, faddr_L, faddr_F, extractA_tup, load1_F, load1_zero, load1_succ, Nat.reduceAdd, load1_one, load1_two, load1_three, loadN_zero, loadN_one, loadN_two, loadN_three, under_mk, binA_lss, binA_leq, binA_gtr, binA_geq, binA_eql, binA_neq, AV.cells?, AH.push, List.nil_append, List.cons_append, List.length_nil, List.length_cons, Nat.zero_add, List.getElem?_cons_zero, List.getElem?_cons_succ, List.set_cons_zero, List.set_cons_succ, Option.map_some, Bool.bne_false, Bool.bne_true, Bool.not_true, Bool.not_false, load1_L f2, and_self, true_and]
        have hlt5 : 2 < H5.bs.length := lt_of_get k2
        rw [store1_L k2 v2.scalar (by simp)]
        simp only [wGet_some, wPut_some, wDo_some, wBool_some, wNew_some, wNewS_some, wAgg_some, wIf_true, wIf_false, wGuard_ff, wGuard_tt, wGuard_ft, wGuard_tf, wGuard_undef, pickA_t, pickA_f, unA_not, faddr_L, faddr_F, extractA_tup, load1_F, load1_zero, load1_succ, Nat.reduceAdd, load1_one, load1_two, load1_three, loadN_zero, loadN_one, loadN_two, loadN_three, under_mk, binA_lss, binA_leq, binA_gtr, binA_geq, binA_eql, binA_neq, AV.cells?, AH.push, List.nil_append, List.cons_append, List.length_nil, List.length_cons, Nat.zero_add, List.getElem?_cons_zero, List.getElem?_cons_succ, List.set_cons_zero, List.set_cons_succ, Option.map_some, Bool.bne_false, Bool.bne_true, Bool.not_true, Bool.not_false]
        rw [store1_L (by simp only; rw [List.getElem?_set_self hlt5]) v7.scalar (by simp)]
        simp only [wGet_some, wPut_some, wDo_some, wBool_some, wNew_some, wNewS_some, wAgg_some, wIf_true, wIf_false, wGuard_ff, wGuard_tt, wGuard_ft, wGuard_tf, wGuard_undef, pickA_t, pickA_f, unA_not, faddr_L, faddr_F, extractA_tup, load1_F, load1_zero, load1_succ, Nat.reduceAdd, load1_one, load1_two, load1_three, loadN_zero, loadN_one, loadN_two, loadN_three, under_mk, binA_lss, binA_leq, binA_gtr, binA_geq, binA_eql, binA_neq, AV.cells?, AH.push, List.nil_append, List.cons_append, List.length_nil, List.length_cons, Nat.zero_add, List.getElem?_cons_zero, List.getElem?_cons_succ, List.set_cons_zero, List.set_cons_succ, Option.map_some, Bool.bne_false, Bool.bne_true, Bool.not_true, Bool.not_false, List.set_set]
        refine gh0.mk ⟨x3, x4, nx ++ [t9], tx ++ [r], ?_, ?_, ?_, w3.setLow (by omega) _, v7.setLow (by omega) _, w4.symm, ?_, ?_⟩
        · simp only; rw [List.getElem?_set_ne (by omega)]; exact k0
        · simp only; rw [List.getElem?_set_ne (by omega)]; exact k1
        · simp only; rw [List.getElem?_set_self hlt5]
        · simp only [leastTo, hrep, List.map_append]
          exact hn.snoc hs9
        · simp only [leastTo, hrep, List.map_append]
          exact ht.snoc hr
  · have hse : s = t.next.length := by
      have := of_decide_eq_false hge
      omega
    subst hse
    have hlt1 : 1 < H.bs.length := lt_of_get b1
    simp only [wGet_some, wPut_some, wDo_some, wBool_some, wNew_some, wNewS_some, wAgg_some, wIf_true, wIf_false, wGuard_ff, wGuard_tt, wGuard_ft, wGuard_tf, wGuard_undef, pickA_t, pickA_f, unA_not, faddr_L, faddr_F, extractA_tup, load1_F, load1_zero, load1_succ, Nat.reduceAdd, load1_one, load1_two, load1_three, loadN_zero, loadN_one, loadN_two, loadN_three, under_mk, binA_lss, binA_leq, binA_gtr, binA_geq, binA_eql, binA_neq, AV.cells?, AH.push, List.nil_append, List.cons_append, List.length_nil, List.length_cons, Nat.zero_add, List.getElem?_cons_zero, List.getElem?_cons_succ, List.set_cons_zero, List.set_cons_succ, Option.map_some, Bool.bne_false, Bool.bne_true, Bool.not_true, Bool.not_false, loadN_L b2, subL_two]
    rw [storeN_L (n := 2) (xs := [on, ot]) b1 rfl (by simp [o1.scalar, o2.scalar]) (show putL [nilS, nilS] 0 [on, ot] = some [on, ot] from rfl)]
    simp only [wGet_some, wPut_some, wDo_some, wBool_some, wNew_some, wNewS_some, wAgg_some, wIf_true, wIf_false, wGuard_ff, wGuard_tt, wGuard_ft, wGuard_tf, wGuard_undef, pickA_t, pickA_f, unA_not, faddr_L, faddr_F, extractA_tup, load1_F, load1_zero, load1_succ, Nat.reduceAdd, load1_one, load1_two, load1_three, loadN_zero, loadN_one, loadN_two, loadN_three, under_mk, binA_lss, binA_leq, binA_gtr, binA_geq, binA_eql, binA_neq, AV.cells?, AH.push, List.nil_append, List.cons_append, List.length_nil, List.length_cons, Nat.zero_add, List.getElem?_cons_zero, List.getElem?_cons_succ, List.set_cons_zero, List.set_cons_succ, Option.map_some, Bool.bne_false, Bool.bne_true, Bool.not_true, Bool.not_false]
    rw [loadN_L (by simp only; rw [List.getElem?_set_self hlt1])]
    simp only [wGet_some, wPut_some, wDo_some, wBool_some, wNew_some, wNewS_some, wAgg_some, wIf_true, wIf_false, wGuard_ff, wGuard_tt, wGuard_ft, wGuard_tf, wGuard_undef, pickA_t, pickA_f, unA_not, faddr_L, faddr_F, extractA_tup, load1_F, load1_zero, load1_succ, Nat.reduceAdd, load1_one, load1_two, load1_three, loadN_zero, loadN_one, loadN_two, loadN_three, under_mk, binA_lss, binA_leq, binA_gtr, binA_geq, binA_eql, binA_neq, AV.cells?, AH.push, List.nil_append, List.cons_append, List.length_nil, List.length_cons, Nat.zero_add, List.getElem?_cons_zero, List.getElem?_cons_succ, List.set_cons_zero, List.set_cons_succ, Option.map_some, Bool.bne_false, Bool.bne_true, Bool.not_true, Bool.not_false, subL_two, retPack, allSome]
    obtain ⟨xn, z1, z2⟩ := (o1.setLow (b := 1) (c := H.ctr) (by omega) (.cells (n + 1) 2 [on, ot])).frozen (m0 := 0) (mv := []) (Nat.zero_le _) (by simp) (FzL.same _)
    obtain ⟨xt, z3, z4⟩ := (o2.setLow (b := 1) (c := H.ctr) (by omega) (.cells (n + 1) 2 [on, ot])).frozen (m0 := 0) (mv := []) (Nat.zero_le _) (by simp) (FzL.same _)
    refine hR _ (.tup [.agg [xn, xt], errA none]) _ (.tup (.cons (.agg (.cons z1 (.cons z3 .nil))) (.cons (.same _) .nil))) (.inr ⟨hc, _, rfl, fun K' hK' => ?_⟩)
    rw [hK'.uniq hK]
    exact ⟨xn, xt, rfl, ⟨nx, z2, hn⟩, ⟨tx, z4, ht⟩⟩
end
end Go.Sb
