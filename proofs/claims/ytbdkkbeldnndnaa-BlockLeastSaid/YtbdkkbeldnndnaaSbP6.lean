/-
  CONTRACTS: package block's Part.
-/
import Derived.Test.YtbdkkbeldnndnaaSbP5
namespace Go.Sb
open Go
set_option linter.unusedSimpArgs false
set_option linter.unnecessarySimpa false

/-- does input 'i' part two states 'k' rounds before the end? -/
def parts (t : Table) (k : Nat) (a b i : Nat) : Bool :=
  (decide (k = 1) && decide (cell (row t.tells a) i ≠ cell (row t.tells b) i)) || (decide (k > 1) && decide (cell (iter t (k - 1)) (cell (row t.next a) i).toNat ≠ cell (iter t (k - 1)) (cell (row t.next b) i).toNat))
def partFrom (t : Table) : Nat → Nat → Nat → List Int → List Int
  | 0, _, _, out => out
  | k + 1, a, b, out => match (List.range (row t.next a).length).find? (parts t (k + 1) a b) with
    | some i => partFrom t k (cell (row t.next a) i).toNat (cell (row t.next b) i).toNat (out ++ [(i : Int)])
    | none => partFrom t k a b out
def PartR (t : Table) (a b : Int) (r : AV) : Prop :=
  (∃ e, check t = some e ∧ r = .tup [nilS, errA (some e)]) ∨
  (check t = none ∧ ¬ (0 ≤ a ∧ a < t.next.length ∧ 0 ≤ b ∧ b < t.next.length) ∧ r = .tup [nilS, errA (some (2, none))]) ∨
  (check t = none ∧ (0 ≤ a ∧ a < t.next.length ∧ 0 ≤ b ∧ b < t.next.length) ∧ ∃ K, K < 1000000 ∧ IsLast t K ∧
    match ((List.range (K + 1)).map (iter t)).findIdx? (fun l => decide (cell l a.toNat ≠ cell l b.toNat)) with
    | none => r = .tup [nilS, errA (some (8, none))]
    | some k => ∃ y, r = .tup [y, errA none] ∧ Ints y (partFrom t k a.toNat b.toNat []))

theorem Ints.getI {x : AV} {l : List Int} (h : Ints x l) {i : Int} (h0 : 0 ≤ i) (hi : i < l.length) : ∃ p, (∀ k, iaddr 1 x (.val (.int k i)) = some p) ∧ ∀ H, load1 p H = some (.val (.int .i64 (cell l i.toNat))) := by
  obtain ⟨p, h1, h2⟩ := h.get (i := i.toNat) (by omega)
  rw [show ((i.toNat : Nat) : Int) = i by omega] at h1
  exact ⟨p, h1, h2⟩
theorem Rows.atI {x : AV} {t : List (List Int)} (h : Rows x t) {i : Int} (h0 : 0 ≤ i) (hi : i < t.length) : ∃ p y, (∀ k, iaddr 1 x (.val (.int k i)) = some p) ∧ (∀ H, load1 p H = some y) ∧ Ints y (row t i.toNat) := by
  obtain ⟨p, y, h1, h2, h3⟩ := h.at (i := i.toNat) (by omega)
  rw [show ((i.toNat : Nat) : Int) = i by omega] at h1
  exact ⟨p, y, h1, h2, h3⟩

section
variable {E : Env} {P : Program}
theorem Part_c1_spec (hB : Body3 E P 10 F.block_Part_c1) {y : AV} {l : List Int} (hy : Ints y l) {a b : Int} (ha : 0 ≤ a ∧ a < l.length) (hb : 0 ≤ b ∧ b < l.length) :
    FC E P 10 [y, .ptrF [.val (.int .i64 a)] 0, .ptrF [.val (.int .i64 b)] 0] (fun r => r = flag (decide (cell l a.toNat ≠ cell l b.toNat))) := by
  refine FC.of' fun n R hR => hB _ _ _ _ _ ?_
  obtain ⟨p, h1, h2⟩ := hy.getI ha.1 ha.2
  obtain ⟨q, h3, h4⟩ := hy.getI hb.1 hb.2
  unfold F.block_Part_c1
  simp only [wGet_some, wPut_some, wDo_some, wBool_some, wNew_some, wNewS_some, wAgg_some, wIf_true, wIf_false, wGuard_ff, wGuard_tt, wGuard_ft, wGuard_tf, wGuard_undef, pickA_t, pickA_f, unA_not, faddr_L, faddr_F, extractA_tup, load1_F, load1_zero, load1_succ, Nat.reduceAdd, load1_one, load1_two, load1_three, loadN_zero, loadN_one, loadN_two, loadN_three, under_mk, binA_lss, binA_leq, binA_gtr, binA_geq, binA_eql, binA_neq, AV.cells?, AH.push, List.nil_append, List.cons_append, List.length_nil, List.length_cons, Nat.zero_add, List.getElem?_cons_zero, List.getElem?_cons_succ, List.set_cons_zero, List.set_cons_succ, Option.map_some, Bool.bne_false, Bool.bne_true, Bool.not_true, Bool.not_false, h1, h2, h3, h4]
  exact hR _ _ _ (.same _) rfl

theorem Part_spec (B : BlockBodies E P) (hB : Body3 E P 6 F.block_Part) (hc : Body3 E P 10 F.block_Part_c1) {x : AV} {t : Table} (hx : Tab x t) (he : Ends t) (hl : t.next.length < 1000000000) (sa sb : Int) :
    FC E P 6 [x, .val (.int .i64 sa), .val (.int .i64 sb)] (PartR t sa sb) := by
  refine FC.of' fun n R hR => hB _ _ _ _ _ ?_
  have ret : ∀ r H, PartR t sa sb r → R r H := fun r H h => hR r r H (.same _) h
  have hx' := hx
  obtain ⟨a, b, rfl, ha, hb⟩ := hx
  unfold F.block_Part
  simp only [show AV.cells? (.val (.int .i64 sa)) = some [.val (.int .i64 sa)] from rfl, show AV.cells? (.val (.int .i64 sb)) = some [.val (.int .i64 sb)] from rfl]
  simp only [wGet_some, wPut_some, wDo_some, wBool_some, wNew_some, wNewS_some, wAgg_some, wIf_true, wIf_false, wGuard_ff, wGuard_tt, wGuard_ft, wGuard_tf, wGuard_undef, pickA_t, pickA_f, unA_not, faddr_L, faddr_F, extractA_tup, load1_F, load1_zero, load1_succ, Nat.reduceAdd, load1_one, load1_two, load1_three, loadN_zero, loadN_one, loadN_two, loadN_three, under_mk, binA_lss, binA_leq, binA_gtr, binA_geq, binA_eql, binA_neq, AV.cells?, AH.push, List.nil_append, List.cons_append, List.length_nil, List.length_cons, Nat.zero_add, List.getElem?_cons_zero, List.getElem?_cons_succ, List.set_cons_zero, List.set_cons_succ, Option.map_some, Bool.bne_false, Bool.bne_true, Bool.not_true, Bool.not_false, subL_two]
  refine wCall.lift (Check_spec B.check B.cont B.idxL B.chk1 hx' hl) (by simpa [AV.closedL] using hx'.closed) (fun r h => h ▸ errA_closed _) fun r hr => ?_
  subst hr
  simp only [wGet_some, wPut_some, wDo_some, wBool_some, wNew_some, wNewS_some, wAgg_some, wIf_true, wIf_false, wGuard_ff, wGuard_tt, wGuard_ft, wGuard_tf, wGuard_undef, pickA_t, pickA_f, unA_not, faddr_L, faddr_F, extractA_tup, load1_F, load1_zero, load1_succ, Nat.reduceAdd, load1_one, load1_two, load1_three, loadN_zero, loadN_one, loadN_two, loadN_three, under_mk, binA_lss, binA_leq, binA_gtr, binA_geq, binA_eql, binA_neq, AV.cells?, AH.push, List.nil_append, List.cons_append, List.length_nil, List.length_cons, Nat.zero_add, List.getElem?_cons_zero, List.getElem?_cons_succ, List.set_cons_zero, List.set_cons_succ, Option.map_some, Bool.bne_false, Bool.bne_true, Bool.not_true, Bool.not_false, eq_nilE]
  cases hck : check t with
  | some e =>
    simp only [wGet_some, wPut_some, wDo_some, wBool_some, wNew_some, wNewS_some, wAgg_some, wIf_true, wIf_false, wGuard_ff, wGuard_tt, wGuard_ft, wGuard_tf, wGuard_undef, pickA_t, pickA_f, unA_not, faddr_L, faddr_F, extractA_tup, load1_F, load1_zero, load1_succ, Nat.reduceAdd, load1_one, load1_two, load1_three, loadN_zero, loadN_one, loadN_two, loadN_three, under_mk, binA_lss, binA_leq, binA_gtr, binA_geq, binA_eql, binA_neq, AV.cells?, AH.push, List.nil_append, List.cons_append, List.length_nil, List.length_cons, Nat.zero_add, List.getElem?_cons_zero, List.getElem?_cons_succ, List.set_cons_zero, List.set_cons_succ, Option.map_some, Bool.bne_false, Bool.bne_true, Bool.not_true, Bool.not_false, Option.isNone_some, show (!false) = true from rfl]
    exact ret _ _ (.inl ⟨e, hck, rfl⟩)
  | none =>
    have hg := good_iff.1 hck
    have g1 := hg.pos; have g2 := hg.few; have g3 := hg.wide; have g4 := hg.tells
    simp only [wGet_some, wPut_some, wDo_some, wBool_some, wNew_some, wNewS_some, wAgg_some, wIf_true, wIf_false, wGuard_ff, wGuard_tt, wGuard_ft, wGuard_tf, wGuard_undef, pickA_t, pickA_f, unA_not, faddr_L, faddr_F, extractA_tup, load1_F, load1_zero, load1_succ, Nat.reduceAdd, load1_one, load1_two, load1_three, loadN_zero, loadN_one, loadN_two, loadN_three, under_mk, binA_lss, binA_leq, binA_gtr, binA_geq, binA_eql, binA_neq, AV.cells?, AH.push, List.nil_append, List.cons_append, List.length_nil, List.length_cons, Nat.zero_add, List.getElem?_cons_zero, List.getElem?_cons_succ, List.set_cons_zero, List.set_cons_succ, Option.map_some, Bool.bne_false, Bool.bne_true, Bool.not_true, Bool.not_false, Option.isNone_none]
    have hout : ¬ (0 ≤ sa ∧ sa < t.next.length ∧ 0 ≤ sb ∧ sb < t.next.length) → R (.tup [nilS, .ifc 1 (.val (.int .i64 2))]) ⟨[.cells n 2 [a, b], .cells (n + 1) 1 [.val (.int .i64 sa)], .cells (n + 1 + 1) 1 [.val (.int .i64 sb)]], n + 1 + 1 + 1⟩ :=
      fun h => ret _ _ (.inr (.inl ⟨hck, h, rfl⟩))
    by_cases c1 : sa < 0
    · simp only [wGet_some, wPut_some, wDo_some, wBool_some, wNew_some, wNewS_some, wAgg_some, wIf_true, wIf_false, wGuard_ff, wGuard_tt, wGuard_ft, wGuard_tf, wGuard_undef, pickA_t, pickA_f, unA_not, faddr_L, faddr_F, extractA_tup, load1_F, load1_zero, load1_succ, Nat.reduceAdd, load1_one, load1_two, load1_three, loadN_zero, loadN_one, loadN_two, loadN_three, under_mk, binA_lss, binA_leq, binA_gtr, binA_geq, binA_eql, binA_neq, AV.cells?, AH.push, List.nil_append, List.cons_append, List.length_nil, List.length_cons, Nat.zero_add, List.getElem?_cons_zero, List.getElem?_cons_succ, List.set_cons_zero, List.set_cons_succ, Option.map_some, Bool.bne_false, Bool.bne_true, Bool.not_true, Bool.not_false, show decide (sa < 0) = true from decide_eq_true c1]
      exact hout (by omega)
    simp only [wGet_some, wPut_some, wDo_some, wBool_some, wNew_some, wNewS_some, wAgg_some, wIf_true, wIf_false, wGuard_ff, wGuard_tt, wGuard_ft, wGuard_tf, wGuard_undef, pickA_t, pickA_f, unA_not, faddr_L, faddr_F, extractA_tup, load1_F, load1_zero, load1_succ, Nat.reduceAdd, load1_one, load1_two, load1_three, loadN_zero, loadN_one, loadN_two, loadN_three, under_mk, binA_lss, binA_leq, binA_gtr, binA_geq, binA_eql, binA_neq, AV.cells?, AH.push, List.nil_append, List.cons_append, List.length_nil, List.length_cons, Nat.zero_add, List.getElem?_cons_zero, List.getElem?_cons_succ, List.set_cons_zero, List.set_cons_succ, Option.map_some, Bool.bne_false, Bool.bne_true, Bool.not_true, Bool.not_false, show decide (sa < 0) = false from decide_eq_false c1, ha.len]
    by_cases c2 : sa ≥ t.next.length
    · simp only [wGet_some, wPut_some, wDo_some, wBool_some, wNew_some, wNewS_some, wAgg_some, wIf_true, wIf_false, wGuard_ff, wGuard_tt, wGuard_ft, wGuard_tf, wGuard_undef, pickA_t, pickA_f, unA_not, faddr_L, faddr_F, extractA_tup, load1_F, load1_zero, load1_succ, Nat.reduceAdd, load1_one, load1_two, load1_three, loadN_zero, loadN_one, loadN_two, loadN_three, under_mk, binA_lss, binA_leq, binA_gtr, binA_geq, binA_eql, binA_neq, AV.cells?, AH.push, List.nil_append, List.cons_append, List.length_nil, List.length_cons, Nat.zero_add, List.getElem?_cons_zero, List.getElem?_cons_succ, List.set_cons_zero, List.set_cons_succ, Option.map_some, Bool.bne_false, Bool.bne_true, Bool.not_true, Bool.not_false, show decide (sa ≥ t.next.length) = true from decide_eq_true c2]
      exact hout (by omega)
    simp only [wGet_some, wPut_some, wDo_some, wBool_some, wNew_some, wNewS_some, wAgg_some, wIf_true, wIf_false, wGuard_ff, wGuard_tt, wGuard_ft, wGuard_tf, wGuard_undef, pickA_t, pickA_f, unA_not, faddr_L, faddr_F, extractA_tup, load1_F, load1_zero, load1_succ, Nat.reduceAdd, load1_one, load1_two, load1_three, loadN_zero, loadN_one, loadN_two, loadN_three, under_mk, binA_lss, binA_leq, binA_gtr, binA_geq, binA_eql, binA_neq, AV.cells?, AH.push, List.nil_append, List.cons_append, List.length_nil, List.length_cons, Nat.zero_add, List.getElem?_cons_zero, List.getElem?_cons_succ, List.set_cons_zero, List.set_cons_succ, Option.map_some, Bool.bne_false, Bool.bne_true, Bool.not_true, Bool.not_false, show decide (sa ≥ t.next.length) = false from decide_eq_false c2]
    by_cases c3 : sb < 0
    · simp only [wGet_some, wPut_some, wDo_some, wBool_some, wNew_some, wNewS_some, wAgg_some, wIf_true, wIf_false, wGuard_ff, wGuard_tt, wGuard_ft, wGuard_tf, wGuard_undef, pickA_t, pickA_f, unA_not, faddr_L, faddr_F, extractA_tup, load1_F, load1_zero, load1_succ, Nat.reduceAdd, load1_one, load1_two, load1_three, loadN_zero, loadN_one, loadN_two, loadN_three, under_mk, binA_lss, binA_leq, binA_gtr, binA_geq, binA_eql, binA_neq, AV.cells?, AH.push, List.nil_append, List.cons_append, List.length_nil, List.length_cons, Nat.zero_add, List.getElem?_cons_zero, List.getElem?_cons_succ, List.set_cons_zero, List.set_cons_succ, Option.map_some, Bool.bne_false, Bool.bne_true, Bool.not_true, Bool.not_false, show decide (sb < 0) = true from decide_eq_true c3]
      exact hout (by omega)
    simp only [wGet_some, wPut_some, wDo_some, wBool_some, wNew_some, wNewS_some, wAgg_some, wIf_true, wIf_false, wGuard_ff, wGuard_tt, wGuard_ft, wGuard_tf, wGuard_undef, pickA_t, pickA_f, unA_not, faddr_L, faddr_F, extractA_tup, load1_F, load1_zero, load1_succ, Nat.reduceAdd, load1_one, load1_two, load1_three, loadN_zero, loadN_one, loadN_two, loadN_three, under_mk, binA_lss, binA_leq, binA_gtr, binA_geq, binA_eql, binA_neq, AV.cells?, AH.push, List.nil_append, List.cons_append, List.length_nil, List.length_cons, Nat.zero_add, List.getElem?_cons_zero, List.getElem?_cons_succ, List.set_cons_zero, List.set_cons_succ, Option.map_some, Bool.bne_false, Bool.bne_true, Bool.not_true, Bool.not_false, show decide (sb < 0) = false from decide_eq_false c3, ha.len]
    by_cases c4 : sb ≥ t.next.length
    · simp only [wGet_some, wPut_some, wDo_some, wBool_some, wNew_some, wNewS_some, wAgg_some, wIf_true, wIf_false, wGuard_ff, wGuard_tt, wGuard_ft, wGuard_tf, wGuard_undef, pickA_t, pickA_f, unA_not, faddr_L, faddr_F, extractA_tup, load1_F, load1_zero, load1_succ, Nat.reduceAdd, load1_one, load1_two, load1_three, loadN_zero, loadN_one, loadN_two, loadN_three, under_mk, binA_lss, binA_leq, binA_gtr, binA_geq, binA_eql, binA_neq, AV.cells?, AH.push, List.nil_append, List.cons_append, List.length_nil, List.length_cons, Nat.zero_add, List.getElem?_cons_zero, List.getElem?_cons_succ, List.set_cons_zero, List.set_cons_succ, Option.map_some, Bool.bne_false, Bool.bne_true, Bool.not_true, Bool.not_false, show decide (sb ≥ t.next.length) = true from decide_eq_true c4]
      exact hout (by omega)
    simp only [wGet_some, wPut_some, wDo_some, wBool_some, wNew_some, wNewS_some, wAgg_some, wIf_true, wIf_false, wGuard_ff, wGuard_tt, wGuard_ft, wGuard_tf, wGuard_undef, pickA_t, pickA_f, unA_not, faddr_L, faddr_F, extractA_tup, load1_F, load1_zero, load1_succ, Nat.reduceAdd, load1_one, load1_two, load1_three, loadN_zero, loadN_one, loadN_two, loadN_three, under_mk, binA_lss, binA_leq, binA_gtr, binA_geq, binA_eql, binA_neq, AV.cells?, AH.push, List.nil_append, List.cons_append, List.length_nil, List.length_cons, Nat.zero_add, List.getElem?_cons_zero, List.getElem?_cons_succ, List.set_cons_zero, List.set_cons_succ, Option.map_some, Bool.bne_false, Bool.bne_true, Bool.not_true, Bool.not_false, show decide (sb ≥ t.next.length) = false from decide_eq_false c4, subL_two]
    have hin : 0 ≤ sa ∧ sa < t.next.length ∧ 0 ≤ sb ∧ sb < t.next.length := by omega
    obtain ⟨K, hK, hlast⟩ := he hg
    refine wCall.lift (rounds_spec B.rounds B.number B.idxLL B.num1 B.equal hx' hg hlast hK) (by simpa [AV.closedL] using hx'.closed) (fun r h => h.closed) fun rr hr => ?_
    have hrr := hr
    obtain ⟨rs, hsl, hrs⟩ := hr
    have hrsl : rs.length = K + 1 := by simpa using hrs.1
    have hp1 : Fz (⟨[.cells n 2 [a, b], .cells (n + 1) 1 [.val (.int .i64 sa)], .cells (n + 1 + 1) 1 [.val (.int .i64 sb)]], n + 1 + 1 + 1⟩ : AH) 0 [] (.ptrL (0 + 1) 0 (n + 1)) (.ptrF [.val (.int .i64 sa)] 0) := .ptrF 1 (sz := 1) rfl (Nat.zero_le _) (by simp) (FzL.same _)
    have hp2 : Fz (⟨[.cells n 2 [a, b], .cells (n + 1) 1 [.val (.int .i64 sa)], .cells (n + 1 + 1) 1 [.val (.int .i64 sb)]], n + 1 + 1 + 1⟩ : AH) 0 [] (.ptrL (0 + 1 + 1) 0 (n + 1 + 1)) (.ptrF [.val (.int .i64 sb)] 0) := .ptrF 1 (sz := 1) rfl (Nat.zero_le _) (by simp) (FzL.same _)
    refine wCall.borrow (IndexFunc_any (.inl rfl) B.idxLL (k := 10) (fs := []) (cs := [.ptrF [.val (.int .i64 sa)] 0, .ptrF [.val (.int .i64 sb)] 0]) (p := fun j => ((((List.range (K + 1)).map (iter t))[j]?).map (fun l => decide (cell l sa.toNat ≠ cell l sb.toNat))).getD false) hsl hrs.closed (by omega) (by simp [AV.closedL]) (by simp [AV.closedL, AV.closed]) ?_)
      (.cons (.same _) (.cons (.fn .nil (.cons hp1 (.cons hp2 .nil))) .nil)) (fun r h => by obtain ⟨o, _, rfl⟩ := h; simp [AV.flat]) fun r hr2 => ?_
    · intro j z hz
      obtain ⟨l, e1, e2⟩ := hrs.2 j z hz
      have hll : l.length = t.next.length := by
        simp only [List.getElem?_map, Option.map_eq_some_iff] at e1
        obtain ⟨k, _, rfl⟩ := e1
        exact iter_len t k
      refine (Part_c1_spec hc e2 (by omega) (by omega)).mono fun r hr => ?_
      rw [hr, e1]; rfl
    · obtain ⟨o, ho, rfl⟩ := hr2
      rw [hrs.1] at ho
      have hfi := ho.findIdx
      simp only [wGet_some, wPut_some, wDo_some, wBool_some, wNew_some, wNewS_some, wAgg_some, wIf_true, wIf_false, wGuard_ff, wGuard_tt, wGuard_ft, wGuard_tf, wGuard_undef, pickA_t, pickA_f, unA_not, faddr_L, faddr_F, extractA_tup, load1_F, load1_zero, load1_succ, Nat.reduceAdd, load1_one, load1_two, load1_three, loadN_zero, loadN_one, loadN_two, loadN_three, under_mk, binA_lss, binA_leq, binA_gtr, binA_geq, binA_eql, binA_neq, AV.cells?, AH.push, List.nil_append, List.cons_append, List.length_nil, List.length_cons, Nat.zero_add, List.getElem?_cons_zero, List.getElem?_cons_succ, List.set_cons_zero, List.set_cons_succ, Option.map_some, Bool.bne_false, Bool.bne_true, Bool.not_true, Bool.not_false]
      cases o with
      | none =>
        simp only [wGet_some, wPut_some, wDo_some, wBool_some, wNew_some, wNewS_some, wAgg_some, wIf_true, wIf_false, wGuard_ff, wGuard_tt, wGuard_ft, wGuard_tf, wGuard_undef, pickA_t, pickA_f, unA_not, faddr_L, faddr_F, extractA_tup, load1_F, load1_zero, load1_succ, Nat.reduceAdd, load1_one, load1_two, load1_three, loadN_zero, loadN_one, loadN_two, loadN_three, under_mk, binA_lss, binA_leq, binA_gtr, binA_geq, binA_eql, binA_neq, AV.cells?, AH.push, List.nil_append, List.cons_append, List.length_nil, List.length_cons, Nat.zero_add, List.getElem?_cons_zero, List.getElem?_cons_succ, List.set_cons_zero, List.set_cons_succ, Option.map_some, Bool.bne_false, Bool.bne_true, Bool.not_true, Bool.not_false, show decide (idxZ none < 0) = true from rfl]
        exact ret _ _ (.inr (.inr ⟨hck, hin, K, hK, hlast, by rw [hfi]; rfl⟩))
      | some k0 =>
        have hk0 : k0 < K + 1 := by have := ho.1; simpa using this
        have hd : decide (idxZ (some k0) < 0) = false := decide_eq_false (by simp only [idxZ]; omega)
        simp only [wGet_some, wPut_some, wDo_some, wBool_some, wNew_some, wNewS_some, wAgg_some, wIf_true, wIf_false, wGuard_ff, wGuard_tt, wGuard_ft, wGuard_tf, wGuard_undef, pickA_t, pickA_f, unA_not, faddr_L, faddr_F, extractA_tup, load1_F, load1_zero, load1_succ, Nat.reduceAdd, load1_one, load1_two, load1_three, loadN_zero, loadN_one, loadN_two, loadN_three, under_mk, binA_lss, binA_leq, binA_gtr, binA_geq, binA_eql, binA_neq, AV.cells?, AH.push, List.nil_append, List.cons_append, List.length_nil, List.length_cons, Nat.zero_add, List.getElem?_cons_zero, List.getElem?_cons_succ, List.set_cons_zero, List.set_cons_succ, Option.map_some, Bool.bne_false, Bool.bne_true, Bool.not_true, Bool.not_false, hd]
        have hfin : ∀ y, Ints y (partFrom t k0 sa.toNat sb.toNat []) → PartR t sa sb (.tup [y, errA none]) := fun y hy => .inr (.inr ⟨hck, hin, K, hK, hlast, by rw [hfi]; exact ⟨y, rfl, hy⟩⟩)
        generalize hF : partFrom t k0 sa.toNat sb.toNat [] = fin at hfin
        refine wLoop.two (fun (m : Nat) (t10 t11 : AV) (H : AH) => ∃ (k : Nat) (sa' sb' : Int) (out : List Int), m = k ∧ t10 = .val (.int .i64 k) ∧ out.length + k ≤ k0 ∧ Own H 3 t11 (ints out) ∧ H.bs[0]? = some (.cells n 2 [a, b]) ∧ H.bs[1]? = some (.cells (n + 1) 1 [.val (.int .i64 sa')]) ∧ H.bs[2]? = some (.cells (n + 1 + 1) 1 [.val (.int .i64 sb')]) ∧
            (0 ≤ sa' ∧ sa' < t.next.length ∧ 0 ≤ sb' ∧ sb' < t.next.length) ∧ partFrom t k sa'.toNat sb'.toNat out = fin) k0
          (gh2.mk ⟨k0, sa, sb, ([] : List Int), rfl, rfl, by simp, .inl ⟨rfl, rfl⟩, rfl, rfl, rfl, hin, hF⟩) ?_
        rintro m t10 t11 H ⟨k, sa', sb', out, rfl, rfl, hol, ho, b0, b1, b2, hin', hfin'⟩
        have hH3 : 3 ≤ H.bs.length := lt_of_get b2
        simp only [wGet_some, wPut_some, wDo_some, wBool_some, wNew_some, wNewS_some, wAgg_some, wIf_true, wIf_false, wGuard_ff, wGuard_tt, wGuard_ft, wGuard_tf, wGuard_undef, pickA_t, pickA_f, unA_not, faddr_L, faddr_F, extractA_tup, load1_F, load1_zero, load1_succ, Nat.reduceAdd, load1_one, load1_two, load1_three, loadN_zero, loadN_one, loadN_two, loadN_three, under_mk, binA_lss, binA_leq, binA_gtr, binA_geq, binA_eql, binA_neq, AV.cells?, AH.push, List.nil_append, List.cons_append, List.length_nil, List.length_cons, Nat.zero_add, List.getElem?_cons_zero, List.getElem?_cons_succ, List.set_cons_zero, List.set_cons_succ, Option.map_some, Bool.bne_false, Bool.bne_true, Bool.not_true, Bool.not_false, wIf_bool]
        refine ⟨fun hgt => ?_, fun hle => ?_⟩
        · have hgt := of_decide_eq_true hgt
          obtain ⟨k', rfl⟩ : ∃ k', m = k' + 1 := ⟨m - 1, by omega⟩
          clear hgt
          obtain ⟨p1, y1, hp1, hl1, hy1⟩ := ha.atI hin'.1 hin'.2.1
          obtain ⟨p2, y2, hp2, hl2, hy2⟩ := ha.atI hin'.2.2.1 hin'.2.2.2
          obtain ⟨p3, y3, hp3, hl3, hy3⟩ := hb.atI hin'.1 (by omega)
          obtain ⟨p4, y4, hp4, hl4, hy4⟩ := hb.atI hin'.2.2.1 (by omega)
          have hra := hg.rows sa'.toNat (by omega)
          have hrb := hg.rows sb'.toNat (by omega)
          refine wJoin.one (fun t11' H' => ∃ (sa'' sb'' : Int) (out' : List Int), out'.length ≤ out.length + 1 ∧ Own H' 3 t11' (ints out') ∧ H'.bs[0]? = some (.cells n 2 [a, b]) ∧ H'.bs[1]? = some (.cells (n + 1) 1 [.val (.int .i64 sa'')]) ∧ H'.bs[2]? = some (.cells (n + 1 + 1) 1 [.val (.int .i64 sb'')]) ∧
            (0 ≤ sa'' ∧ sa'' < t.next.length ∧ 0 ≤ sb'' ∧ sb'' < t.next.length) ∧ partFrom t k' sa''.toNat sb''.toNat out' = fin) ?_ ?_
          case refine_2 =>
            rintro t11' H' ⟨sa'', sb'', out', c1, c2, c3, c4, c5, c6, c7⟩
            rw [binA_sub (by omega)]
            simp only [wGet_some, wPut_some, wDo_some, wBool_some, wNew_some, wNewS_some, wAgg_some, wIf_true, wIf_false, wGuard_ff, wGuard_tt, wGuard_ft, wGuard_tf, wGuard_undef, pickA_t, pickA_f, unA_not, faddr_L, faddr_F, extractA_tup, load1_F, load1_zero, load1_succ, Nat.reduceAdd, load1_one, load1_two, load1_three, loadN_zero, loadN_one, loadN_two, loadN_three, under_mk, binA_lss, binA_leq, binA_gtr, binA_geq, binA_eql, binA_neq, AV.cells?, AH.push, List.nil_append, List.cons_append, List.length_nil, List.length_cons, Nat.zero_add, List.getElem?_cons_zero, List.getElem?_cons_succ, List.set_cons_zero, List.set_cons_succ, Option.map_some, Bool.bne_false, Bool.bne_true, Bool.not_true, Bool.not_false]
            rw [show ((k' + 1 : Nat) : Int) - 1 = (k' : Nat) by omega]
            exact back2.mk (m' := k') (by omega) ⟨k', sa'', sb'', out', rfl, rfl, by omega, c2, c3, c4, c5, c6, c7⟩
          obtain ⟨q, hq⟩ : ∃ q, q = parts t (k' + 1) sa'.toNat sb'.toNat := ⟨_, rfl⟩
          simp only [wGet_some, wPut_some, wDo_some, wBool_some, wNew_some, wNewS_some, wAgg_some, wIf_true, wIf_false, wGuard_ff, wGuard_tt, wGuard_ft, wGuard_tf, wGuard_undef, pickA_t, pickA_f, unA_not, faddr_L, faddr_F, extractA_tup, load1_F, load1_zero, load1_succ, Nat.reduceAdd, load1_one, load1_two, load1_three, loadN_zero, loadN_one, loadN_two, loadN_three, under_mk, binA_lss, binA_leq, binA_gtr, binA_geq, binA_eql, binA_neq, AV.cells?, AH.push, List.nil_append, List.cons_append, List.length_nil, List.length_cons, Nat.zero_add, List.getElem?_cons_zero, List.getElem?_cons_succ, List.set_cons_zero, List.set_cons_succ, Option.map_some, Bool.bne_false, Bool.bne_true, Bool.not_true, Bool.not_false, load1_L b0, load1_L b1, hp1, hl1, hy1.len]
          refine wLoop.two (fun m t11' t59 H' => H = H' ∧ t11 = t11' ∧ ∃ i : Nat, i + m = (row t.next sa'.toNat).length ∧ t59 = .val (.int .i64 i) ∧ ∀ j, j < i → q j = false) (row t.next sa'.toNat).length
            (gh2.mk ⟨rfl, rfl, 0, by omega, rfl, by simp⟩) ?_
          rintro m3 _ t59 _ ⟨rfl, rfl, i, him, rfl, hpre⟩
          simp only [wGet_some, wPut_some, wDo_some, wBool_some, wNew_some, wNewS_some, wAgg_some, wIf_true, wIf_false, wGuard_ff, wGuard_tt, wGuard_ft, wGuard_tf, wGuard_undef, pickA_t, pickA_f, unA_not, faddr_L, faddr_F, extractA_tup, load1_F, load1_zero, load1_succ, Nat.reduceAdd, load1_one, load1_two, load1_three, loadN_zero, loadN_one, loadN_two, loadN_three, under_mk, binA_lss, binA_leq, binA_gtr, binA_geq, binA_eql, binA_neq, AV.cells?, AH.push, List.nil_append, List.cons_append, List.length_nil, List.length_cons, Nat.zero_add, List.getElem?_cons_zero, List.getElem?_cons_succ, List.set_cons_zero, List.set_cons_succ, Option.map_some, Bool.bne_false, Bool.bne_true, Bool.not_true, Bool.not_false, wIf_bool]
          refine ⟨fun hlt3 => ?_, fun hge3 => ?_⟩
          · have hi : i < (row t.next sa'.toNat).length := by have := of_decide_eq_true hlt3; omega
            obtain ⟨u1, hu1, hu1'⟩ := hy1.get (i := i) hi
            obtain ⟨u2, hu2, hu2'⟩ := hy2.get (i := i) (by omega)
            obtain ⟨u3, hu3, hu3'⟩ := hy3.get (i := i) (by omega)
            obtain ⟨u4, hu4, hu4'⟩ := hy4.get (i := i) (by omega)
            have hxa := hg.there sa'.toNat (by omega) (cell (row t.next sa'.toNat) i) (by
              have : (row t.next sa'.toNat)[i] ∈ row t.next sa'.toNat := List.getElem_mem hi
              simpa [cell, hi] using this)
            have hi2 : i < (row t.next sb'.toNat).length := by omega
            have hxb := hg.there sb'.toNat (by omega) (cell (row t.next sb'.toNat) i) (by
              have : (row t.next sb'.toNat)[i] ∈ row t.next sb'.toNat := List.getElem_mem hi2
              simpa [cell, hi2] using this)
            simp only [wGet_some, wPut_some, wDo_some, wBool_some, wNew_some, wNewS_some, wAgg_some, wIf_true, wIf_false, wGuard_ff, wGuard_tt, wGuard_ft, wGuard_tf, wGuard_undef, pickA_t, pickA_f, unA_not, faddr_L, faddr_F, extractA_tup, load1_F, load1_zero, load1_succ, Nat.reduceAdd, load1_one, load1_two, load1_three, loadN_zero, loadN_one, loadN_two, loadN_three, under_mk, binA_lss, binA_leq, binA_gtr, binA_geq, binA_eql, binA_neq, AV.cells?, AH.push, List.nil_append, List.cons_append, List.length_nil, List.length_cons, Nat.zero_add, List.getElem?_cons_zero, List.getElem?_cons_succ, List.set_cons_zero, List.set_cons_succ, Option.map_some, Bool.bne_false, Bool.bne_true, Bool.not_true, Bool.not_false, load1_L b0, load1_L b1, load1_L b2, hp1, hl1, hp2, hl2, hu1, hu1', hu2, hu2', and_self, true_and]
            -- the two ways on
            have hyes : q i = true → (wNewS 1 1 (fillA (List.replicate 1 [(AV.val (.int .i64 0))]).flatten [(0, 1, .val (.int .i64 i))]) H fun t124 H =>
                wDo (appendA 1 8 t11 t124 H) fun t125 H =>
                wPut (store1 (.ptrL 1 0 (n + 1)) (.val (.int .i64 (cell (row t.next sa'.toNat) i))) H) fun _ H =>
                wPut (store1 (.ptrL 2 0 (n + 1 + 1)) (.val (.int .i64 (cell (row t.next sb'.toNat) i))) H) fun _ H =>
                gh1 (fun t11' H' => ∃ (sa'' sb'' : Int) (out' : List Int), out'.length ≤ out.length + 1 ∧ Own H' 3 t11' (ints out') ∧ H'.bs[0]? = some (.cells n 2 [a, b]) ∧ H'.bs[1]? = some (.cells (n + 1) 1 [.val (.int .i64 sa'')]) ∧ H'.bs[2]? = some (.cells (n + 1 + 1) 1 [.val (.int .i64 sb'')]) ∧
                  (0 ≤ sa'' ∧ sa'' < t.next.length ∧ 0 ≤ sb'' ∧ sb'' < t.next.length) ∧ partFrom t k' sa''.toNat sb''.toNat out' = fin) t125 H) := by
              intro hy
              rw [fill_one rfl]
              simp only [wGet_some, wPut_some, wDo_some, wBool_some, wNew_some, wNewS_some, wAgg_some, wIf_true, wIf_false, wGuard_ff, wGuard_tt, wGuard_ft, wGuard_tf, wGuard_undef, pickA_t, pickA_f, unA_not, faddr_L, faddr_F, extractA_tup, load1_F, load1_zero, load1_succ, Nat.reduceAdd, load1_one, load1_two, load1_three, loadN_zero, loadN_one, loadN_two, loadN_three, under_mk, binA_lss, binA_leq, binA_gtr, binA_geq, binA_eql, binA_neq, AV.cells?, AH.push, List.nil_append, List.cons_append, List.length_nil, List.length_cons, Nat.zero_add, List.getElem?_cons_zero, List.getElem?_cons_succ, List.set_cons_zero, List.set_cons_succ, Option.map_some, Bool.bne_false, Bool.bne_true, Bool.not_true, Bool.not_false]
              refine ⟨trivial, ?_⟩
              have hE3 : Ext H (H.push 1 [AV.val (.int .i64 i)]) := .push _ _ _
              obtain ⟨x3, H4, v1, v2, v3, v4, v5⟩ := (ho.ext hE3).grow (Nat.le_trans hH3 hE3.2) (bytes := 8)
                (y := .slL H.bs.length 0 1 H.ctr) (own_get (push_get H 1 _)) rfl rfl (by simp only [mostBytes, ints_length]; omega) (by simp only [mostBytes, ints_length]; omega)
              rw [show (⟨H.bs ++ [Blk.cells H.ctr 1 [AV.val (.int .i64 i)]], H.ctr + 1⟩ : AH) = H.push 1 [AV.val (.int .i64 i)] from rfl, v1]
              have d0 := v3 _ _ (hE3.1 _ _ b0) (by omega); have d1 := v3 _ _ (hE3.1 _ _ b1) (by omega); have d2 := v3 _ _ (hE3.1 _ _ b2) (by omega)
              have l1 := lt_of_get d1; have l2 := lt_of_get d2
              simp only [wGet_some, wPut_some, wDo_some, wBool_some, wNew_some, wNewS_some, wAgg_some, wIf_true, wIf_false, wGuard_ff, wGuard_tt, wGuard_ft, wGuard_tf, wGuard_undef, pickA_t, pickA_f, unA_not, faddr_L, faddr_F, extractA_tup, load1_F, load1_zero, load1_succ, Nat.reduceAdd, load1_one, load1_two, load1_three, loadN_zero, loadN_one, loadN_two, loadN_three, under_mk, binA_lss, binA_leq, binA_gtr, binA_geq, binA_eql, binA_neq, AV.cells?, AH.push, List.nil_append, List.cons_append, List.length_nil, List.length_cons, Nat.zero_add, List.getElem?_cons_zero, List.getElem?_cons_succ, List.set_cons_zero, List.set_cons_succ, Option.map_some, Bool.bne_false, Bool.bne_true, Bool.not_true, Bool.not_false]
              rw [store1_L d1 rfl (by simp)]
              simp only [wGet_some, wPut_some, wDo_some, wBool_some, wNew_some, wNewS_some, wAgg_some, wIf_true, wIf_false, wGuard_ff, wGuard_tt, wGuard_ft, wGuard_tf, wGuard_undef, pickA_t, pickA_f, unA_not, faddr_L, faddr_F, extractA_tup, load1_F, load1_zero, load1_succ, Nat.reduceAdd, load1_one, load1_two, load1_three, loadN_zero, loadN_one, loadN_two, loadN_three, under_mk, binA_lss, binA_leq, binA_gtr, binA_geq, binA_eql, binA_neq, AV.cells?, AH.push, List.nil_append, List.cons_append, List.length_nil, List.length_cons, Nat.zero_add, List.getElem?_cons_zero, List.getElem?_cons_succ, List.set_cons_zero, List.set_cons_succ, Option.map_some, Bool.bne_false, Bool.bne_true, Bool.not_true, Bool.not_false]
              rw [store1_L (by simp only; rw [List.getElem?_set_ne (by omega)]; exact d2) rfl (by simp)]
              simp only [wGet_some, wPut_some, wDo_some, wBool_some, wNew_some, wNewS_some, wAgg_some, wIf_true, wIf_false, wGuard_ff, wGuard_tt, wGuard_ft, wGuard_tf, wGuard_undef, pickA_t, pickA_f, unA_not, faddr_L, faddr_F, extractA_tup, load1_F, load1_zero, load1_succ, Nat.reduceAdd, load1_one, load1_two, load1_three, loadN_zero, loadN_one, loadN_two, loadN_three, under_mk, binA_lss, binA_leq, binA_gtr, binA_geq, binA_eql, binA_neq, AV.cells?, AH.push, List.nil_append, List.cons_append, List.length_nil, List.length_cons, Nat.zero_add, List.getElem?_cons_zero, List.getElem?_cons_succ, List.set_cons_zero, List.set_cons_succ, Option.map_some, Bool.bne_false, Bool.bne_true, Bool.not_true, Bool.not_false]
              refine gh1.mk ⟨_, _, out ++ [(i : Int)], by simp, by rw [ints_append]; exact (v2.setLow (c := H4.ctr) (by omega) _).setLow (by omega) _, ?_, ?_, ?_, ⟨hxa.1, hxa.2, hxb.1, hxb.2⟩, ?_⟩
              · simp only; rw [List.getElem?_set_ne (by omega), List.getElem?_set_ne (by omega)]; exact d0
              · simp only; rw [List.getElem?_set_ne (by omega), List.getElem?_set_self l1]
              · simp only; rw [List.getElem?_set_self (by simpa using l2)]
              · rw [← hfin', partFrom, ← hq]
                have : (List.range (row t.next sa'.toNat).length).find? q = some i := by
                  rw [List.find?_eq_some_iff_getElem]
                  exact ⟨hy, i, by simpa using hi, by simp, fun j hj => by simp [hpre j hj]⟩
                rw [this]
            have hno : q i = false → (wGet (binA .add (.val (.int .i64 i)) (.val (.int .i64 1))) H fun t128 H0 => back2 (fun m t11' t59 H' => H = H' ∧ t11 = t11' ∧ ∃ i : Nat, i + m = (row t.next sa'.toNat).length ∧ t59 = .val (.int .i64 i) ∧ ∀ j, j < i → q j = false) m3 t11 t128 H0) := by
              intro hn
              rw [binA_succ (by omega)]
              simp only [wGet_some, wPut_some, wDo_some, wBool_some, wNew_some, wNewS_some, wAgg_some, wIf_true, wIf_false, wGuard_ff, wGuard_tt, wGuard_ft, wGuard_tf, wGuard_undef, pickA_t, pickA_f, unA_not, faddr_L, faddr_F, extractA_tup, load1_F, load1_zero, load1_succ, Nat.reduceAdd, load1_one, load1_two, load1_three, loadN_zero, loadN_one, loadN_two, loadN_three, under_mk, binA_lss, binA_leq, binA_gtr, binA_geq, binA_eql, binA_neq, AV.cells?, AH.push, List.nil_append, List.cons_append, List.length_nil, List.length_cons, Nat.zero_add, List.getElem?_cons_zero, List.getElem?_cons_succ, List.set_cons_zero, List.set_cons_succ, Option.map_some, Bool.bne_false, Bool.bne_true, Bool.not_true, Bool.not_false]
              refine back2.mk (m' := m3 - 1) (by omega) ⟨rfl, rfl, i + 1, by omega, rfl, fun j hj => ?_⟩
              by_cases hji : j < i
              · exact hpre j hji
              · have : j = i := by omega
                subst this; exact hn
            by_cases hk1 : k' = 0
            · subst hk1
              simp only [wGet_some, wPut_some, wDo_some, wBool_some, wNew_some, wNewS_some, wAgg_some, wIf_true, wIf_false, wGuard_ff, wGuard_tt, wGuard_ft, wGuard_tf, wGuard_undef, pickA_t, pickA_f, unA_not, faddr_L, faddr_F, extractA_tup, load1_F, load1_zero, load1_succ, Nat.reduceAdd, load1_one, load1_two, load1_three, loadN_zero, loadN_one, loadN_two, loadN_three, under_mk, binA_lss, binA_leq, binA_gtr, binA_geq, binA_eql, binA_neq, AV.cells?, AH.push, List.nil_append, List.cons_append, List.length_nil, List.length_cons, Nat.zero_add, List.getElem?_cons_zero, List.getElem?_cons_succ, List.set_cons_zero, List.set_cons_succ, Option.map_some, Bool.bne_false, Bool.bne_true, Bool.not_true, Bool.not_false, show decide (((0 + 1 : Nat) : Int) = 1) = true from rfl, load1_L b0, load1_L b1, load1_L b2, hp3, hl3, hp4, hl4, hu3, hu3', hu4, hu4']
              by_cases hne : cell (row t.tells sa'.toNat) i = cell (row t.tells sb'.toNat) i
              · simp only [wGet_some, wPut_some, wDo_some, wBool_some, wNew_some, wNewS_some, wAgg_some, wIf_true, wIf_false, wGuard_ff, wGuard_tt, wGuard_ft, wGuard_tf, wGuard_undef, pickA_t, pickA_f, unA_not, faddr_L, faddr_F, extractA_tup, load1_F, load1_zero, load1_succ, Nat.reduceAdd, load1_one, load1_two, load1_three, loadN_zero, loadN_one, loadN_two, loadN_three, under_mk, binA_lss, binA_leq, binA_gtr, binA_geq, binA_eql, binA_neq, AV.cells?, AH.push, List.nil_append, List.cons_append, List.length_nil, List.length_cons, Nat.zero_add, List.getElem?_cons_zero, List.getElem?_cons_succ, List.set_cons_zero, List.set_cons_succ, Option.map_some, Bool.bne_false, Bool.bne_true, Bool.not_true, Bool.not_false, show decide (cell (row t.tells sa'.toNat) i ≠ cell (row t.tells sb'.toNat) i) = false from by simp [hne], show decide (((0 + 1 : Nat) : Int) > 1) = false from rfl]
                exact hno (by rw [hq]; simp [parts, hne])
              · simp only [wGet_some, wPut_some, wDo_some, wBool_some, wNew_some, wNewS_some, wAgg_some, wIf_true, wIf_false, wGuard_ff, wGuard_tt, wGuard_ft, wGuard_tf, wGuard_undef, pickA_t, pickA_f, unA_not, faddr_L, faddr_F, extractA_tup, load1_F, load1_zero, load1_succ, Nat.reduceAdd, load1_one, load1_two, load1_three, loadN_zero, loadN_one, loadN_two, loadN_three, under_mk, binA_lss, binA_leq, binA_gtr, binA_geq, binA_eql, binA_neq, AV.cells?, AH.push, List.nil_append, List.cons_append, List.length_nil, List.length_cons, Nat.zero_add, List.getElem?_cons_zero, List.getElem?_cons_succ, List.set_cons_zero, List.set_cons_succ, Option.map_some, Bool.bne_false, Bool.bne_true, Bool.not_true, Bool.not_false, show decide (cell (row t.tells sa'.toNat) i ≠ cell (row t.tells sb'.toNat) i) = true from by simp [hne]]
                exact hyes (by rw [hq]; simp [parts, hne])
            · have hd1 : decide (((k' + 1 : Nat) : Int) = 1) = false := decide_eq_false (by omega)
              have hd2 : decide (((k' + 1 : Nat) : Int) > 1) = true := decide_eq_true (by omega)
              simp only [wGet_some, wPut_some, wDo_some, wBool_some, wNew_some, wNewS_some, wAgg_some, wIf_true, wIf_false, wGuard_ff, wGuard_tt, wGuard_ft, wGuard_tf, wGuard_undef, pickA_t, pickA_f, unA_not, faddr_L, faddr_F, extractA_tup, load1_F, load1_zero, load1_succ, Nat.reduceAdd, load1_one, load1_two, load1_three, loadN_zero, loadN_one, loadN_two, loadN_three, under_mk, binA_lss, binA_leq, binA_gtr, binA_geq, binA_eql, binA_neq, AV.cells?, AH.push, List.nil_append, List.cons_append, List.length_nil, List.length_cons, Nat.zero_add, List.getElem?_cons_zero, List.getElem?_cons_succ, List.set_cons_zero, List.set_cons_succ, Option.map_some, Bool.bne_false, Bool.bne_true, Bool.not_true, Bool.not_false, hd1, hd2]
              rw [binA_sub (by omega)]
              simp only [wGet_some, wPut_some, wDo_some, wBool_some, wNew_some, wNewS_some, wAgg_some, wIf_true, wIf_false, wGuard_ff, wGuard_tt, wGuard_ft, wGuard_tf, wGuard_undef, pickA_t, pickA_f, unA_not, faddr_L, faddr_F, extractA_tup, load1_F, load1_zero, load1_succ, Nat.reduceAdd, load1_one, load1_two, load1_three, loadN_zero, loadN_one, loadN_two, loadN_three, under_mk, binA_lss, binA_leq, binA_gtr, binA_geq, binA_eql, binA_neq, AV.cells?, AH.push, List.nil_append, List.cons_append, List.length_nil, List.length_cons, Nat.zero_add, List.getElem?_cons_zero, List.getElem?_cons_succ, List.set_cons_zero, List.set_cons_succ, Option.map_some, Bool.bne_false, Bool.bne_true, Bool.not_true, Bool.not_false]
              rw [show ((k' + 1 : Nat) : Int) - 1 = (k' : Nat) by omega]
              obtain ⟨v1, w1, hv1, hv2, hv3⟩ := hrr.at (i := k') (by simp; omega)
              have hv3 : Ints w1 (iter t k') := by
                have : ((List.range (K + 1)).map (iter t))[k']?.getD [] = iter t k' := by simp [show k' < K + 1 by omega]
                rwa [this] at hv3
              have hil := iter_len t k'
              obtain ⟨v4, hv4, hv4'⟩ := hv3.getI hxa.1 (by omega)
              obtain ⟨v5, hv5, hv5'⟩ := hv3.getI hxb.1 (by omega)
              simp only [wGet_some, wPut_some, wDo_some, wBool_some, wNew_some, wNewS_some, wAgg_some, wIf_true, wIf_false, wGuard_ff, wGuard_tt, wGuard_ft, wGuard_tf, wGuard_undef, pickA_t, pickA_f, unA_not, faddr_L, faddr_F, extractA_tup, load1_F, load1_zero, load1_succ, Nat.reduceAdd, load1_one, load1_two, load1_three, loadN_zero, loadN_one, loadN_two, loadN_three, under_mk, binA_lss, binA_leq, binA_gtr, binA_geq, binA_eql, binA_neq, AV.cells?, AH.push, List.nil_append, List.cons_append, List.length_nil, List.length_cons, Nat.zero_add, List.getElem?_cons_zero, List.getElem?_cons_succ, List.set_cons_zero, List.set_cons_succ, Option.map_some, Bool.bne_false, Bool.bne_true, Bool.not_true, Bool.not_false, hv1, hv2, hv4, hv4', hv5, hv5']
              by_cases hne : cell (iter t k') (cell (row t.next sa'.toNat) i).toNat = cell (iter t k') (cell (row t.next sb'.toNat) i).toNat
              · simp only [wGet_some, wPut_some, wDo_some, wBool_some, wNew_some, wNewS_some, wAgg_some, wIf_true, wIf_false, wGuard_ff, wGuard_tt, wGuard_ft, wGuard_tf, wGuard_undef, pickA_t, pickA_f, unA_not, faddr_L, faddr_F, extractA_tup, load1_F, load1_zero, load1_succ, Nat.reduceAdd, load1_one, load1_two, load1_three, loadN_zero, loadN_one, loadN_two, loadN_three, under_mk, binA_lss, binA_leq, binA_gtr, binA_geq, binA_eql, binA_neq, AV.cells?, AH.push, List.nil_append, List.cons_append, List.length_nil, List.length_cons, Nat.zero_add, List.getElem?_cons_zero, List.getElem?_cons_succ, List.set_cons_zero, List.set_cons_succ, Option.map_some, Bool.bne_false, Bool.bne_true, Bool.not_true, Bool.not_false, show decide (cell (iter t k') (cell (row t.next sa'.toNat) i).toNat ≠ cell (iter t k') (cell (row t.next sb'.toNat) i).toNat) = false from by simp [hne]]
                exact hno (by rw [hq]; simp [parts, hne, hk1])
              · simp only [wGet_some, wPut_some, wDo_some, wBool_some, wNew_some, wNewS_some, wAgg_some, wIf_true, wIf_false, wGuard_ff, wGuard_tt, wGuard_ft, wGuard_tf, wGuard_undef, pickA_t, pickA_f, unA_not, faddr_L, faddr_F, extractA_tup, load1_F, load1_zero, load1_succ, Nat.reduceAdd, load1_one, load1_two, load1_three, loadN_zero, loadN_one, loadN_two, loadN_three, under_mk, binA_lss, binA_leq, binA_gtr, binA_geq, binA_eql, binA_neq, AV.cells?, AH.push, List.nil_append, List.cons_append, List.length_nil, List.length_cons, Nat.zero_add, List.getElem?_cons_zero, List.getElem?_cons_succ, List.set_cons_zero, List.set_cons_succ, Option.map_some, Bool.bne_false, Bool.bne_true, Bool.not_true, Bool.not_false, show decide (cell (iter t k') (cell (row t.next sa'.toNat) i).toNat ≠ cell (iter t k') (cell (row t.next sb'.toNat) i).toNat) = true from by simp [hne]]
                exact hyes (by rw [hq]; simp [parts, hne, hk1]; omega)
          · have hie : i = (row t.next sa'.toNat).length := by
              have := of_decide_eq_false hge3
              omega
            refine gh1.mk ⟨sa', sb', out, by omega, ho, b0, b1, b2, hin', ?_⟩
            rw [← hfin', partFrom, ← hq]
            have : (List.range (row t.next sa'.toNat).length).find? q = none := by
              rw [List.find?_eq_none]
              intro j hj
              have := List.mem_range.1 hj
              simp [hpre j (by omega)]
            rw [this]
        · have hle := of_decide_eq_false hle
          have hm0 : m = 0 := by omega
          subst hm0
          obtain ⟨x', z1, z2⟩ := ho.frozen (m0 := 0) (mv := []) (Nat.zero_le _) (by simp) (FzL.same _)
          simp only [partFrom] at hfin'
          subst hfin'
          exact hR _ (.tup [x', errA none]) _ (.tup (.cons z1 (.cons (.same _) .nil))) (hfin x' z2)
end
end Go.Sb
