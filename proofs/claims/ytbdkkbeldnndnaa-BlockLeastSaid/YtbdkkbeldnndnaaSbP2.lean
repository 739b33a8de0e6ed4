/-
  CONTRACTS: package block's Check, rounds, Blocks.
-/
import Derived.Test.YtbdkkbeldnndnaaSbP1
namespace Go.Sb
open Go
set_option linter.unusedSimpArgs false

/-- errors: a code, and a place -/
abbrev Err := Option (Nat × Option Nat)
def errA : Err → AV
  | none => .val .nilIface
  | some (k, none) => .ifc 1 (.val (.int .i64 k))
  | some (k, some s) => .ifc 2 (.ptrF [.val (.int .i64 k), .val (.int .i64 s)] 0)
theorem errA_closed (e : Err) : (errA e).closed := by
  rcases e with _ | ⟨k, _ | s⟩ <;> simp [errA, AV.closed, AV.closedL]

section
variable {E : Env} {P : Program}

theorem IndexFunc_int {kk : Nat} (hB : Body2 E P kk F.slices_IndexFunc_Lint_int) {x : AV} {l : List Int} (hx : Ints x l) (hl : l.length < 1000000000) {k : Nat} {fs cs : List AV} (hfs : AV.closedL fs) (hcs : AV.closedL cs) {p : Int → Bool}
    (hp : ∀ i ∈ l, FC E P k (fs ++ [.val (.int .i64 i)] ++ cs) (fun r => r = flag (p i))) : FC E P kk [x, .fn k fs cs] (fun r => r = .val (.int .i64 (idxZ (l.findIdx? p)))) := by
  refine (IndexFunc_any (.inr rfl) hB (p := fun j => (l[j]?.map p).getD false) hx (by simp [ints, AV.closed]) (by rwa [ints_length]) hfs hcs ?_).mono ?_
  · intro i y hy
    simp only [ints, List.getElem?_map, Option.map_eq_some_iff] at hy
    obtain ⟨z, hz, rfl⟩ := hy
    refine (hp z (List.mem_of_getElem? hz)).mono fun r hr => ?_
    simp [hr, hz]
  · rintro r ⟨o, ho, rfl⟩
    rw [ints_length] at ho
    rw [ho.findIdx]

theorem ContainsFunc_int (hB : Body2 E P 13 F.slices_ContainsFunc_Lint_int) (hI : Body2 E P 16 F.slices_IndexFunc_Lint_int) {x : AV} {l : List Int} (hx : Ints x l) (hl : l.length < 1000000000) {k : Nat} {fs cs : List AV} (hfs : AV.closedL fs) (hcs : AV.closedL cs) {p : Int → Bool}
    (hp : ∀ i ∈ l, FC E P k (fs ++ [.val (.int .i64 i)] ++ cs) (fun r => r = flag (p i))) : FC E P 13 [x, .fn k fs cs] (fun r => r = flag (l.any p)) := by
  refine FC.of fun n => hB _ _ _ _ ?_
  unfold F.slices_ContainsFunc_Lint_int
  refine wCall.lift (IndexFunc_int hI hx hl hfs hcs hp) ?_ (fun r h => by subst h; simp [AV.closed]) fun r h => ?_
  · simp [AV.closedL, AV.closed, hx.closed, hfs, hcs]
  · subst h
    simp only [binA_geq, wGet_some]
    refine ⟨_, .same _, ?_⟩
    simp only [flag]
    congr 2
    cases hf : l.findIdx? p with
    | none =>
      rw [List.findIdx?_eq_none_iff] at hf
      simp [idxZ]
      intro x hx; simp [hf x hx]
    | some i =>
      rw [List.findIdx?_eq_some_iff_getElem] at hf
      obtain ⟨h1, h2, _⟩ := hf
      simp [idxZ]
      exact ⟨_, List.getElem_mem h1, h2⟩

theorem Check_c1_spec (hB : Body2 E P 12 F.block_Check_c1) (x n : Int) : FC E P 12 [.val (.int .i64 x), .ptrF [.val (.int .i64 n)] 0] (fun r => r = flag (decide (x < 0) || decide (x ≥ n))) := by
  refine FC.of fun m => hB _ _ _ _ ?_
  unfold F.block_Check_c1
  by_cases h : x < 0
  · simp [h]
    exact .same _
  · simp [h, load1, binA_geq]
    exact .same _

theorem Clone_spec (hB : Body1 E P 19 F.slices_Clone_Lint_int) {x : AV} {l : List Int} (hx : Ints x l) (hl : l.length < 1000000000) : FC E P 19 [x] (fun r => Ints r l) := by
  refine FC.of fun n => hB _ _ _ ?_
  unfold F.slices_Clone_Lint_int
  obtain ⟨b, h1, h2, h3⟩ := Sl.nil_iff hx
  rw [show (AV.val (.slice none 0 0)) = nilS from rfl, h1]
  simp only [wBool_some, wIf_bool, Bool.bne_false]
  refine ⟨fun h => ?_, fun h => ?_⟩
  · obtain ⟨h4, h5⟩ := h2 h
    exact ⟨nilS, .same _, .inl ⟨rfl, h4⟩⟩
  · have hf : fillA (List.replicate 0 [AV.val (.int .i64 0)]).flatten [] = some [] := rfl
    rw [hf]
    simp only [wNewS_some]
    refine ⟨rfl, ?_⟩
    have ho : Own ((⟨[], n⟩ : AH).push 1 []) 0 (.slL (⟨[], n⟩ : AH).bs.length 0 0 n) [] := .inr ⟨0, n, Nat.le_refl _, rfl, rfl⟩
    obtain ⟨x2, H2, q1, q2, q3, q4, q5⟩ := ho.grow (Nat.zero_le _) (bytes := 8) (y := x) (new := ints l) (n := (ints l).length) (Sl.cells hx _) rfl (by simp [ints, AV.scalar])
      (by simp only [mostBytes, ints_length, List.length_nil]; omega) (by simp only [mostBytes, ints_length, List.length_nil]; omega)
    rw [q1]
    simp only [wDo_some]
    obtain ⟨x', hz1, hz2⟩ := q2.frozen (m0 := 0) (mv := []) (Nat.le_refl _) (by simp) (FzL.same _)
    exact ⟨x', hz1, hz2⟩

/-! ### tables -/
structure Table where
  next : List (List Int)
  tells : List (List Int)
def Tab (x : AV) (t : Table) : Prop := ∃ a b, x = .agg [a, b] ∧ Rows a t.next ∧ Rows b t.tells
theorem Tab.closed {x : AV} {t : Table} (h : Tab x t) : x.closed := by
  obtain ⟨a, b, rfl, h1, h2⟩ := h
  simp [AV.closed, AV.closedL, h1.closed, h2.closed]

def checkAt (t : Table) (s : Nat) : Err :=
  if (t.next[s]?.getD []).length ≠ (t.next[0]?.getD []).length ∨ (t.tells[s]?.getD []).length ≠ (t.next[0]?.getD []).length then some (3, some s)
  else if (t.next[s]?.getD []).any (fun x => decide (x < 0) || decide (x ≥ t.next.length)) then some (2, some s)
  else none
def check (t : Table) : Err :=
  if t.next.length < 1 ∨ t.next.length > 500 ∨ (t.next[0]?.getD []).length > 64 then some (4, none)
  else if t.tells.length ≠ t.next.length then some (3, none)
  else (List.range t.next.length).findSome? (checkAt t)

theorem Rows.len {x : AV} {t : List (List Int)} (h : Rows x t) : lenA x = some (.val (.int .i64 t.length)) := by
  obtain ⟨xs, h1, h2⟩ := h
  rw [h1.len, h2.1]
theorem Rows.at {x : AV} {t : List (List Int)} (h : Rows x t) {i : Nat} (hi : i < t.length) : ∃ p y, (∀ k, iaddr 1 x (.val (.int k i)) = some p) ∧ (∀ H, load1 p H = some y) ∧ Ints y (t[i]?.getD []) := by
  obtain ⟨xs, h1, h2⟩ := h
  obtain ⟨y, h3, h4⟩ := h2.get hi
  exact ⟨.ptrF xs i, y, fun k => h1.at (lt_of_get h3), fun H => h3, by simpa [hi] using h4⟩
theorem Rows.fst {x : AV} {t : List (List Int)} (h : Rows x t) (hi : 0 < t.length) : ∃ p y, (∀ k, iaddr 1 x (.val (.int k 0)) = some p) ∧ (∀ H, load1 p H = some y) ∧ Ints y (t[0]?.getD []) := by
  obtain ⟨p, y, h1, h2, h3⟩ := h.at hi
  exact ⟨p, y, fun k => by simpa using h1 k, h2, h3⟩

theorem findSome_none_of {α β : Type} {f : α → Option β} {l : List α} (h : ∀ x ∈ l, f x = none) : l.findSome? f = none := by
  rw [List.findSome?_eq_none_iff]; exact h
theorem findSome_range {β : Type} {f : Nat → Option β} {n i : Nat} {y : β} (hi : i < n) (hpre : ∀ j, j < i → f j = none) (hy : f i = some y) : (List.range n).findSome? f = some y := by
  rw [List.findSome?_eq_some_iff]
  refine ⟨(List.range n).take i, i, (List.range n).drop (i + 1), ?_, hy, fun a ha => hpre a ?_⟩
  · have h : i < (List.range n).length := by simpa using hi
    have := List.take_append_drop i (List.range n)
    rw [List.drop_eq_getElem_cons h] at this
    simpa using this.symm
  · rw [List.take_range] at ha
    have := List.mem_range.1 ha
    omega

theorem Check_spec (hB : Body1 E P 8 F.block_Check) (hC : Body2 E P 13 F.slices_ContainsFunc_Lint_int) (hI : Body2 E P 16 F.slices_IndexFunc_Lint_int) (hc1 : Body2 E P 12 F.block_Check_c1)
    {x : AV} {t : Table} (hx : Tab x t) (hl : t.next.length < 1000000000) : FC E P 8 [x] (fun r => r = errA (check t)) := by
  obtain ⟨a, b, rfl, ha, hb⟩ := hx
  refine FC.of' fun n R hR => hB _ _ _ ?_
  have ret : ∀ r H, r = errA (check t) → R r H := fun r H h => hR r r H (.same _) h
  unfold F.block_Check
  simp only [wGet_some, wPut_some, wDo_some, wBool_some, wNew_some, wNewS_some, wAgg_some, wIf_true, wIf_false, wGuard_ff, wGuard_tt, wGuard_ft, wGuard_tf, wGuard_undef, pickA_t, pickA_f, unA_not, faddr_L, faddr_F, extractA_tup, load1_F, load1_zero, load1_succ, Nat.reduceAdd, load1_one, load1_two, load1_three, loadN_zero, loadN_one, loadN_two, loadN_three, under_mk, binA_lss, binA_leq, binA_gtr, binA_geq, binA_eql, binA_neq, AV.cells?, AH.push, List.nil_append, List.cons_append, List.length_nil, List.length_cons, Nat.zero_add, List.getElem?_cons_zero, List.getElem?_cons_succ, List.set_cons_zero, List.set_cons_succ, Option.map_some, Bool.bne_false, Bool.bne_true, Bool.not_true, Bool.not_false, ha.len, store1_one, store1_zero (show (AV.val (.int .i64 (t.next.length : Int))).scalar = true from rfl) (show 0 < [AV.val (.int .i64 0)].length from Nat.zero_lt_one)]
  by_cases c1 : t.next.length < 1
  · have h1 : decide ((t.next.length : Int) < 1) = true := by simp; omega
    simp only [wGet_some, wPut_some, wDo_some, wBool_some, wNew_some, wNewS_some, wAgg_some, wIf_true, wIf_false, wGuard_ff, wGuard_tt, wGuard_ft, wGuard_tf, wGuard_undef, pickA_t, pickA_f, unA_not, faddr_L, faddr_F, extractA_tup, load1_F, load1_zero, load1_succ, Nat.reduceAdd, load1_one, load1_two, load1_three, loadN_zero, loadN_one, loadN_two, loadN_three, under_mk, binA_lss, binA_leq, binA_gtr, binA_geq, binA_eql, binA_neq, AV.cells?, AH.push, List.nil_append, List.cons_append, List.length_nil, List.length_cons, Nat.zero_add, List.getElem?_cons_zero, List.getElem?_cons_succ, List.set_cons_zero, List.set_cons_succ, Option.map_some, Bool.bne_false, Bool.bne_true, Bool.not_true, Bool.not_false, h1]
    exact ret _ _ (by simp [check, c1, errA])
  have h1 : decide ((t.next.length : Int) < 1) = false := by simp; omega
  simp only [wGet_some, wPut_some, wDo_some, wBool_some, wNew_some, wNewS_some, wAgg_some, wIf_true, wIf_false, wGuard_ff, wGuard_tt, wGuard_ft, wGuard_tf, wGuard_undef, pickA_t, pickA_f, unA_not, faddr_L, faddr_F, extractA_tup, load1_F, load1_zero, load1_succ, Nat.reduceAdd, load1_one, load1_two, load1_three, loadN_zero, loadN_one, loadN_two, loadN_three, under_mk, binA_lss, binA_leq, binA_gtr, binA_geq, binA_eql, binA_neq, AV.cells?, AH.push, List.nil_append, List.cons_append, List.length_nil, List.length_cons, Nat.zero_add, List.getElem?_cons_zero, List.getElem?_cons_succ, List.set_cons_zero, List.set_cons_succ, Option.map_some, Bool.bne_false, Bool.bne_true, Bool.not_true, Bool.not_false, h1]
  by_cases c2 : t.next.length > 500
  · have h2 : decide ((t.next.length : Int) > 500) = true := by simp; omega
    simp only [wGet_some, wPut_some, wDo_some, wBool_some, wNew_some, wNewS_some, wAgg_some, wIf_true, wIf_false, wGuard_ff, wGuard_tt, wGuard_ft, wGuard_tf, wGuard_undef, pickA_t, pickA_f, unA_not, faddr_L, faddr_F, extractA_tup, load1_F, load1_zero, load1_succ, Nat.reduceAdd, load1_one, load1_two, load1_three, loadN_zero, loadN_one, loadN_two, loadN_three, under_mk, binA_lss, binA_leq, binA_gtr, binA_geq, binA_eql, binA_neq, AV.cells?, AH.push, List.nil_append, List.cons_append, List.length_nil, List.length_cons, Nat.zero_add, List.getElem?_cons_zero, List.getElem?_cons_succ, List.set_cons_zero, List.set_cons_succ, Option.map_some, Bool.bne_false, Bool.bne_true, Bool.not_true, Bool.not_false, h2]
    exact ret _ _ (by simp [check, c2, errA])
  have h2 : decide ((t.next.length : Int) > 500) = false := by simp; omega
  obtain ⟨p0, y0, hp0, hl0, hy0⟩ := ha.fst (by omega)
  simp only [wGet_some, wPut_some, wDo_some, wBool_some, wNew_some, wNewS_some, wAgg_some, wIf_true, wIf_false, wGuard_ff, wGuard_tt, wGuard_ft, wGuard_tf, wGuard_undef, pickA_t, pickA_f, unA_not, faddr_L, faddr_F, extractA_tup, load1_F, load1_zero, load1_succ, Nat.reduceAdd, load1_one, load1_two, load1_three, loadN_zero, loadN_one, loadN_two, loadN_three, under_mk, binA_lss, binA_leq, binA_gtr, binA_geq, binA_eql, binA_neq, AV.cells?, AH.push, List.nil_append, List.cons_append, List.length_nil, List.length_cons, Nat.zero_add, List.getElem?_cons_zero, List.getElem?_cons_succ, List.set_cons_zero, List.set_cons_succ, Option.map_some, Bool.bne_false, Bool.bne_true, Bool.not_true, Bool.not_false, h2, hp0, hl0, hy0.len]
  by_cases c3 : (t.next[0]?.getD []).length > 64
  · have h3 : decide (((t.next[0]?.getD []).length : Int) > 64) = true := by simp; omega
    simp only [wGet_some, wPut_some, wDo_some, wBool_some, wNew_some, wNewS_some, wAgg_some, wIf_true, wIf_false, wGuard_ff, wGuard_tt, wGuard_ft, wGuard_tf, wGuard_undef, pickA_t, pickA_f, unA_not, faddr_L, faddr_F, extractA_tup, load1_F, load1_zero, load1_succ, Nat.reduceAdd, load1_one, load1_two, load1_three, loadN_zero, loadN_one, loadN_two, loadN_three, under_mk, binA_lss, binA_leq, binA_gtr, binA_geq, binA_eql, binA_neq, AV.cells?, AH.push, List.nil_append, List.cons_append, List.length_nil, List.length_cons, Nat.zero_add, List.getElem?_cons_zero, List.getElem?_cons_succ, List.set_cons_zero, List.set_cons_succ, Option.map_some, Bool.bne_false, Bool.bne_true, Bool.not_true, Bool.not_false, h3]
    exact ret _ _ (by simp [check, c3, errA])
  have h3 : decide (((t.next[0]?.getD []).length : Int) > 64) = false := by simp; omega
  simp only [wGet_some, wPut_some, wDo_some, wBool_some, wNew_some, wNewS_some, wAgg_some, wIf_true, wIf_false, wGuard_ff, wGuard_tt, wGuard_ft, wGuard_tf, wGuard_undef, pickA_t, pickA_f, unA_not, faddr_L, faddr_F, extractA_tup, load1_F, load1_zero, load1_succ, Nat.reduceAdd, load1_one, load1_two, load1_three, loadN_zero, loadN_one, loadN_two, loadN_three, under_mk, binA_lss, binA_leq, binA_gtr, binA_geq, binA_eql, binA_neq, AV.cells?, AH.push, List.nil_append, List.cons_append, List.length_nil, List.length_cons, Nat.zero_add, List.getElem?_cons_zero, List.getElem?_cons_succ, List.set_cons_zero, List.set_cons_succ, Option.map_some, Bool.bne_false, Bool.bne_true, Bool.not_true, Bool.not_false, h3, hb.len]
  by_cases c4 : t.tells.length = t.next.length
  case neg =>
    have h4 : decide ((t.tells.length : Int) ≠ t.next.length) = true := by simp; omega
    simp only [wGet_some, wPut_some, wDo_some, wBool_some, wNew_some, wNewS_some, wAgg_some, wIf_true, wIf_false, wGuard_ff, wGuard_tt, wGuard_ft, wGuard_tf, wGuard_undef, pickA_t, pickA_f, unA_not, faddr_L, faddr_F, extractA_tup, load1_F, load1_zero, load1_succ, Nat.reduceAdd, load1_one, load1_two, load1_three, loadN_zero, loadN_one, loadN_two, loadN_three, under_mk, binA_lss, binA_leq, binA_gtr, binA_geq, binA_eql, binA_neq, AV.cells?, AH.push, List.nil_append, List.cons_append, List.length_nil, List.length_cons, Nat.zero_add, List.getElem?_cons_zero, List.getElem?_cons_succ, List.set_cons_zero, List.set_cons_succ, Option.map_some, Bool.bne_false, Bool.bne_true, Bool.not_true, Bool.not_false, h4]
    exact ret _ _ (by simp [check, c1, c2, c3, c4, errA])
  have h4 : decide ((t.tells.length : Int) ≠ t.next.length) = false := by simp; omega
  simp only [wGet_some, wPut_some, wDo_some, wBool_some, wNew_some, wNewS_some, wAgg_some, wIf_true, wIf_false, wGuard_ff, wGuard_tt, wGuard_ft, wGuard_tf, wGuard_undef, pickA_t, pickA_f, unA_not, faddr_L, faddr_F, extractA_tup, load1_F, load1_zero, load1_succ, Nat.reduceAdd, load1_one, load1_two, load1_three, loadN_zero, loadN_one, loadN_two, loadN_three, under_mk, binA_lss, binA_leq, binA_gtr, binA_geq, binA_eql, binA_neq, AV.cells?, AH.push, List.nil_append, List.cons_append, List.length_nil, List.length_cons, Nat.zero_add, List.getElem?_cons_zero, List.getElem?_cons_succ, List.set_cons_zero, List.set_cons_succ, Option.map_some, Bool.bne_false, Bool.bne_true, Bool.not_true, Bool.not_false, h4, ha.len]
  have hchk : check t = (List.range t.next.length).findSome? (checkAt t) := by simp only [check]; rw [if_neg (by omega), if_neg (by omega)]
  refine wLoop.one (fun m t32 H => ∃ i : Nat, i + m = t.next.length ∧ t32 = .val (.int .i64 i) ∧ H = ⟨[.cells n 2 [a, b], .cells (n + 1) 1 [.val (.int .i64 t.next.length)]], n + 1 + 1⟩ ∧ ∀ j, j < i → checkAt t j = none) t.next.length (gh1.mk ⟨0, by simp, rfl, rfl, by simp⟩) ?_
  rintro m t32 H ⟨i, him, rfl, rfl, hpre⟩
  simp only [wGet_some, wPut_some, wDo_some, wBool_some, wNew_some, wNewS_some, wAgg_some, wIf_true, wIf_false, wGuard_ff, wGuard_tt, wGuard_ft, wGuard_tf, wGuard_undef, pickA_t, pickA_f, unA_not, faddr_L, faddr_F, extractA_tup, load1_F, load1_zero, load1_succ, Nat.reduceAdd, load1_one, load1_two, load1_three, loadN_zero, loadN_one, loadN_two, loadN_three, under_mk, binA_lss, binA_leq, binA_gtr, binA_geq, binA_eql, binA_neq, AV.cells?, AH.push, List.nil_append, List.cons_append, List.length_nil, List.length_cons, Nat.zero_add, List.getElem?_cons_zero, List.getElem?_cons_succ, List.set_cons_zero, List.set_cons_succ, Option.map_some, Bool.bne_false, Bool.bne_true, Bool.not_true, Bool.not_false, wIf_bool]
  refine ⟨fun hlt => ?_, fun hge => ?_⟩
  · have hi : i < t.next.length := by have := of_decide_eq_true hlt; omega
    obtain ⟨p1, y1, hp1, hl1, hy1⟩ := ha.at hi
    obtain ⟨p2, y2, hp2, hl2, hy2⟩ := hb.at (i := i) (by omega)
    simp only [wGet_some, wPut_some, wDo_some, wBool_some, wNew_some, wNewS_some, wAgg_some, wIf_true, wIf_false, wGuard_ff, wGuard_tt, wGuard_ft, wGuard_tf, wGuard_undef, pickA_t, pickA_f, unA_not, faddr_L, faddr_F, extractA_tup, load1_F, load1_zero, load1_succ, Nat.reduceAdd, load1_one, load1_two, load1_three, loadN_zero, loadN_one, loadN_two, loadN_three, under_mk, binA_lss, binA_leq, binA_gtr, binA_geq, binA_eql, binA_neq, AV.cells?, AH.push, List.nil_append, List.cons_append, List.length_nil, List.length_cons, Nat.zero_add, List.getElem?_cons_zero, List.getElem?_cons_succ, List.set_cons_zero, List.set_cons_succ, Option.map_some, Bool.bne_false, Bool.bne_true, Bool.not_true, Bool.not_false, hp1, hl1, hy1.len, hp0, hl0, hy0.len]
    by_cases c5 : (t.next[i]?.getD []).length = (t.next[0]?.getD []).length
    case neg =>
      have h5 : decide (((t.next[i]?.getD []).length : Int) ≠ (t.next[0]?.getD []).length) = true := by simp; omega
      have hf : fillA [AV.val (.int .i64 0), .val (.int .i64 0)] [(0, 1, .val (.int .i64 3)), (1, 1, .val (.int .i64 i))] = some [.val (.int .i64 3), .val (.int .i64 i)] := rfl
      simp only [wGet_some, wPut_some, wDo_some, wBool_some, wNew_some, wNewS_some, wAgg_some, wIf_true, wIf_false, wGuard_ff, wGuard_tt, wGuard_ft, wGuard_tf, wGuard_undef, pickA_t, pickA_f, unA_not, faddr_L, faddr_F, extractA_tup, load1_F, load1_zero, load1_succ, Nat.reduceAdd, load1_one, load1_two, load1_three, loadN_zero, loadN_one, loadN_two, loadN_three, under_mk, binA_lss, binA_leq, binA_gtr, binA_geq, binA_eql, binA_neq, AV.cells?, AH.push, List.nil_append, List.cons_append, List.length_nil, List.length_cons, Nat.zero_add, List.getElem?_cons_zero, List.getElem?_cons_succ, List.set_cons_zero, List.set_cons_succ, Option.map_some, Bool.bne_false, Bool.bne_true, Bool.not_true, Bool.not_false, h5, hf]
      refine hR _ (errA (some (3, some i))) _ (.ifc (.ptrF 2 (sz := 2) rfl (Nat.zero_le _) (by simp) (FzL.same _))) ?_
      rw [hchk, findSome_range hi hpre]
      simp [checkAt, c5]
    have h5 : decide (((t.next[i]?.getD []).length : Int) ≠ (t.next[0]?.getD []).length) = false := by simp; omega
    simp only [wGet_some, wPut_some, wDo_some, wBool_some, wNew_some, wNewS_some, wAgg_some, wIf_true, wIf_false, wGuard_ff, wGuard_tt, wGuard_ft, wGuard_tf, wGuard_undef, pickA_t, pickA_f, unA_not, faddr_L, faddr_F, extractA_tup, load1_F, load1_zero, load1_succ, Nat.reduceAdd, load1_one, load1_two, load1_three, loadN_zero, loadN_one, loadN_two, loadN_three, under_mk, binA_lss, binA_leq, binA_gtr, binA_geq, binA_eql, binA_neq, AV.cells?, AH.push, List.nil_append, List.cons_append, List.length_nil, List.length_cons, Nat.zero_add, List.getElem?_cons_zero, List.getElem?_cons_succ, List.set_cons_zero, List.set_cons_succ, Option.map_some, Bool.bne_false, Bool.bne_true, Bool.not_true, Bool.not_false, h5, hp2, hl2, hy2.len, hp0, hl0, hy0.len]
    by_cases c6 : (t.tells[i]?.getD []).length = (t.next[0]?.getD []).length
    case neg =>
      have h6 : decide (((t.tells[i]?.getD []).length : Int) ≠ (t.next[0]?.getD []).length) = true := by simp; omega
      have hf : fillA [AV.val (.int .i64 0), .val (.int .i64 0)] [(0, 1, .val (.int .i64 3)), (1, 1, .val (.int .i64 i))] = some [.val (.int .i64 3), .val (.int .i64 i)] := rfl
      simp only [wGet_some, wPut_some, wDo_some, wBool_some, wNew_some, wNewS_some, wAgg_some, wIf_true, wIf_false, wGuard_ff, wGuard_tt, wGuard_ft, wGuard_tf, wGuard_undef, pickA_t, pickA_f, unA_not, faddr_L, faddr_F, extractA_tup, load1_F, load1_zero, load1_succ, Nat.reduceAdd, load1_one, load1_two, load1_three, loadN_zero, loadN_one, loadN_two, loadN_three, under_mk, binA_lss, binA_leq, binA_gtr, binA_geq, binA_eql, binA_neq, AV.cells?, AH.push, List.nil_append, List.cons_append, List.length_nil, List.length_cons, Nat.zero_add, List.getElem?_cons_zero, List.getElem?_cons_succ, List.set_cons_zero, List.set_cons_succ, Option.map_some, Bool.bne_false, Bool.bne_true, Bool.not_true, Bool.not_false, h6, hf]
      refine hR _ (errA (some (3, some i))) _ (.ifc (.ptrF 2 (sz := 2) rfl (Nat.zero_le _) (by simp) (FzL.same _))) ?_
      rw [hchk, findSome_range hi hpre]
      simp [checkAt, c6]
    have h6 : decide (((t.tells[i]?.getD []).length : Int) ≠ (t.next[0]?.getD []).length) = false := by simp; omega
    simp only [wGet_some, wPut_some, wDo_some, wBool_some, wNew_some, wNewS_some, wAgg_some, wIf_true, wIf_false, wGuard_ff, wGuard_tt, wGuard_ft, wGuard_tf, wGuard_undef, pickA_t, pickA_f, unA_not, faddr_L, faddr_F, extractA_tup, load1_F, load1_zero, load1_succ, Nat.reduceAdd, load1_one, load1_two, load1_three, loadN_zero, loadN_one, loadN_two, loadN_three, under_mk, binA_lss, binA_leq, binA_gtr, binA_geq, binA_eql, binA_neq, AV.cells?, AH.push, List.nil_append, List.cons_append, List.length_nil, List.length_cons, Nat.zero_add, List.getElem?_cons_zero, List.getElem?_cons_succ, List.set_cons_zero, List.set_cons_succ, Option.map_some, Bool.bne_false, Bool.bne_true, Bool.not_true, Bool.not_false, h6, hp1, hl1]
    have hpt : Fz (⟨[.cells n 2 [a, b], .cells (n + 1) 1 [.val (.int .i64 t.next.length)]], n + 1 + 1⟩ : AH) 0 [] (.ptrL 1 0 (n + 1)) (.ptrF [.val (.int .i64 t.next.length)] 0) := .ptrF 1 (sz := 1) rfl (Nat.zero_le _) (by simp) (FzL.same _)
    have hb1 : (t.next[i]?.getD []).length < 1000000000 := by omega
    refine wCall.borrow (ContainsFunc_int hC hI hy1 hb1 (k := 12) (fs := []) (cs := [.ptrF [.val (.int .i64 t.next.length)] 0]) trivial (by simp [AV.closedL, AV.closed]) (fun z _ => Check_c1_spec hc1 z t.next.length)) (.cons (.same _) (.cons (.fn .nil (.cons hpt .nil)) .nil)) (fun r h => by subst h; simp [flag, AV.flat]) fun r hr => ?_
    subst hr
    simp only [flag, wIf_bool]
    refine ⟨fun h7 => ?_, fun h7 => ?_⟩
    · have hf : fillA [AV.val (.int .i64 0), .val (.int .i64 0)] [(0, 1, .val (.int .i64 2)), (1, 1, .val (.int .i64 i))] = some [.val (.int .i64 2), .val (.int .i64 i)] := rfl
      simp only [wGet_some, wPut_some, wDo_some, wBool_some, wNew_some, wNewS_some, wAgg_some, wIf_true, wIf_false, wGuard_ff, wGuard_tt, wGuard_ft, wGuard_tf, wGuard_undef, pickA_t, pickA_f, unA_not, faddr_L, faddr_F, extractA_tup, load1_F, load1_zero, load1_succ, Nat.reduceAdd, load1_one, load1_two, load1_three, loadN_zero, loadN_one, loadN_two, loadN_three, under_mk, binA_lss, binA_leq, binA_gtr, binA_geq, binA_eql, binA_neq, AV.cells?, AH.push, List.nil_append, List.cons_append, List.length_nil, List.length_cons, Nat.zero_add, List.getElem?_cons_zero, List.getElem?_cons_succ, List.set_cons_zero, List.set_cons_succ, Option.map_some, Bool.bne_false, Bool.bne_true, Bool.not_true, Bool.not_false, hf]
      refine hR _ (errA (some (2, some i))) _ (.ifc (.ptrF 2 (sz := 2) rfl (Nat.zero_le _) (by simp) (FzL.same _))) ?_
      rw [hchk, findSome_range hi hpre]
      simp only [checkAt, h7]
      rw [if_neg (by omega)]; rfl
    · rw [binA_succ (by omega)]
      simp only [wGet_some, wPut_some, wDo_some, wBool_some, wNew_some, wNewS_some, wAgg_some, wIf_true, wIf_false, wGuard_ff, wGuard_tt, wGuard_ft, wGuard_tf, wGuard_undef, pickA_t, pickA_f, unA_not, faddr_L, faddr_F, extractA_tup, load1_F, load1_zero, load1_succ, Nat.reduceAdd, load1_one, load1_two, load1_three, loadN_zero, loadN_one, loadN_two, loadN_three, under_mk, binA_lss, binA_leq, binA_gtr, binA_geq, binA_eql, binA_neq, AV.cells?, AH.push, List.nil_append, List.cons_append, List.length_nil, List.length_cons, Nat.zero_add, List.getElem?_cons_zero, List.getElem?_cons_succ, List.set_cons_zero, List.set_cons_succ, Option.map_some, Bool.bne_false, Bool.bne_true, Bool.not_true, Bool.not_false]
      refine back1.mk (m' := m - 1) (by omega) ⟨i + 1, by omega, rfl, rfl, fun j hj => ?_⟩
      by_cases hji : j < i
      · exact hpre j hji
      · have : j = i := by omega
        subst this
        simp only [checkAt, h7]
        rw [if_neg (by omega)]; rfl
  · have hge' : ¬ (i : Int) < t.next.length := of_decide_eq_false hge
    refine ret _ _ ?_
    rw [hchk, findSome_none_of]
    · rfl
    · intro j hj
      exact hpre j (by have := List.mem_range.1 hj; omega)
end
end Go.Sb
