/-
  CONTRACTS: package block's rounds.
-/
import Derived.Test.YtbdkkbeldnndnaaSbP2
namespace Go.Sb
open Go
set_option linter.unnecessarySimpa false
set_option linter.unusedSimpArgs false

def cell (l : List Int) (i : Nat) : Int := l[i]?.getD 0
def row (t : List (List Int)) (i : Nat) : List Int := t[i]?.getD []
/-- what is told of a state: its block, and by each input what it tells, and the block to which it leads -/
def lineTo (t : Table) (now : List Int) (s i : Nat) : List Int := cell now s :: ((List.range i).map fun j => [cell (row t.tells s) j, cell now (cell (row t.next s) j).toNat]).flatten
def line (t : Table) (now : List Int) (s : Nat) : List Int := lineTo t now s (row t.next s).length
def stepR (t : Table) (now : List Int) : List Int := number ((List.range t.next.length).map (line t now))
def iter (t : Table) : Nat → List Int
  | 0 => List.replicate t.next.length 0
  | k + 1 => stepR t (iter t k)
def IsLast (t : Table) (k : Nat) : Prop := iter t (k + 1) = iter t k ∧ ∀ j, j < k → iter t (j + 1) ≠ iter t j

theorem stepR_len (t : Table) (now : List Int) : (stepR t now).length = t.next.length := by
  have := (numAll_len ((List.range t.next.length).map (line t now))).2
  simpa [stepR, number] using this
theorem iter_len (t : Table) : ∀ k, (iter t k).length = t.next.length
  | 0 => by simp [iter]
  | k + 1 => stepR_len t _

/-- a table that may be -/
structure Good (t : Table) : Prop where
  pos : 1 ≤ t.next.length
  few : t.next.length ≤ 500
  wide : (row t.next 0).length ≤ 64
  tells : t.tells.length = t.next.length
  rows : ∀ s, s < t.next.length → (row t.next s).length = (row t.next 0).length ∧ (row t.tells s).length = (row t.next 0).length
  there : ∀ s, s < t.next.length → ∀ x ∈ row t.next s, 0 ≤ x ∧ x < t.next.length
theorem good_iff {t : Table} : check t = none ↔ Good t := by
  unfold check
  constructor
  · intro h
    split at h
    · cases h
    rename_i h1
    split at h
    · cases h
    rename_i h2
    rw [List.findSome?_eq_none_iff] at h
    have hs : ∀ s, s < t.next.length → ((row t.next s).length = (row t.next 0).length ∧ (row t.tells s).length = (row t.next 0).length) ∧ ∀ x ∈ row t.next s, 0 ≤ x ∧ x < t.next.length := by
      intro s hs
      have := h s (List.mem_range.2 hs)
      unfold checkAt at this
      split at this
      · cases this
      rename_i h3
      split at this
      · cases this
      rename_i h4
      refine ⟨by simp only [row]; omega, fun x hx => ?_⟩
      simp only [List.any_eq_true, Bool.or_eq_true, decide_eq_true_eq, not_exists, not_and] at h4
      have := h4 x hx
      omega
    exact ⟨by omega, by omega, by simp only [row]; omega, by simpa using h2, fun s h => (hs s h).1, fun s h => (hs s h).2⟩
  · intro g
    have := g.pos; have := g.few; have := g.tells
    rw [if_neg (by have := g.wide; simp only [row] at this; omega), if_neg (by omega)]
    apply findSome_none_of
    intro s hs
    have hs := List.mem_range.1 hs
    have h1 := g.rows s hs
    have h2 := g.there s hs
    simp only [row] at h1 h2
    unfold checkAt
    rw [if_neg (by omega), if_neg]
    simp only [List.any_eq_true, Bool.or_eq_true, decide_eq_true_eq, not_exists, not_and]
    intro x hx
    have := h2 x hx
    omega

theorem Ints.get {x : AV} {l : List Int} (h : Ints x l) {i : Nat} (hi : i < l.length) : ∃ p, (∀ k, iaddr 1 x (.val (.int k i)) = some p) ∧ ∀ H, load1 p H = some (.val (.int .i64 (cell l i))) :=
  ⟨.ptrF (ints l) i, fun _ => h.at hi, fun H => by simp [load1_F, ints_get hi, cell, hi]⟩
theorem ints_append (a b : List Int) : ints (a ++ b) = ints a ++ ints b := by simp [ints]
theorem lineTo_succ (t : Table) (now : List Int) (s i : Nat) : lineTo t now s (i + 1) = lineTo t now s i ++ [cell (row t.tells s) i, cell now (cell (row t.next s) i).toNat] := by
  simp [lineTo, List.range_succ]
theorem lineTo_len (t : Table) (now : List Int) (s i : Nat) : (lineTo t now s i).length = 1 + 2 * i := by
  induction i with
  | zero => simp [lineTo]
  | succ i ih => rw [lineTo_succ]; simp [ih]; omega

section
variable {E : Env} {P : Program}
theorem rounds_spec (hB : Body1 E P 9 F.block_rounds) (hnum : Body1 E P 14 F.block_number) (hI : Body2 E P 11 F.slices_IndexFunc_LLint_Lint) (hN : Body2 E P 17 F.block_number_c1) (hEq : Body2 E P 15 F.slices_Equal_Lint_int)
    {x : AV} {t : Table} (hx : Tab x t) (hg : Good t) {K : Nat} (hK : IsLast t K) (hKl : K < 1000000) : FC E P 9 [x] (fun r => Rows r ((List.range (K + 1)).map (iter t))) := by
  obtain ⟨a, b, rfl, ha, hb⟩ := hx
  have g1 := hg.pos; have g2 := hg.few; have g3 := hg.wide; have g4 := hg.tells
  refine FC.of' fun n R hR => hB _ _ _ ?_
  unfold F.block_rounds
  have hmk : ∀ H, makeA 1 8 [AV.val (.int .i64 0)] (.val (.int .i64 t.next.length)) (.val (.int .i64 t.next.length)) H = some (.slL H.bs.length 0 t.next.length H.ctr, H.push 1 (ints (List.replicate t.next.length 0))) := by
    intro H
    simp only [makeA]
    have hc : (0 : Int) ≤ t.next.length ∧ (t.next.length : Int) = t.next.length ∧ (t.next.length : Int) * (8 : Nat) ≤ (mostBytes : Nat) ∧ (t.next.length : Int) ≤ (mostBytes : Nat) := by
      rw [show mostBytes = 70368744177664 from rfl]; omega
    simp only [eq_self, true_and] at hc ⊢
    rw [if_pos hc]
    simp [ints]
  have hfl : ∀ y, y.scalar = true → fillA (List.replicate 1 [AV.val (.slice none 0 0)]).flatten [(0, 1, y)] = some [y] := by
    intro y hy
    cases y <;> simp [AV.scalar] at hy <;> try rfl
    rename_i v
    cases v <;> simp at hy <;> rfl
  simp only [wGet_some, wPut_some, wDo_some, wBool_some, wNew_some, wNewS_some, wAgg_some, wIf_true, wIf_false, wGuard_ff, wGuard_tt, wGuard_ft, wGuard_tf, wGuard_undef, pickA_t, pickA_f, unA_not, faddr_L, faddr_F, extractA_tup, load1_F, load1_zero, load1_succ, Nat.reduceAdd, load1_one, load1_two, load1_three, loadN_zero, loadN_one, loadN_two, loadN_three, under_mk, binA_lss, binA_leq, binA_gtr, binA_geq, binA_eql, binA_neq, AV.cells?, AH.push, List.nil_append, List.cons_append, List.length_nil, List.length_cons, Nat.zero_add, List.getElem?_cons_zero, List.getElem?_cons_succ, List.set_cons_zero, List.set_cons_succ, Option.map_some, Bool.bne_false, Bool.bne_true, Bool.not_true, Bool.not_false, ha.len, hmk]
  rw [hfl _ rfl]
  simp only [wGet_some, wPut_some, wDo_some, wBool_some, wNew_some, wNewS_some, wAgg_some, wIf_true, wIf_false, wGuard_ff, wGuard_tt, wGuard_ft, wGuard_tf, wGuard_undef, pickA_t, pickA_f, unA_not, faddr_L, faddr_F, extractA_tup, load1_F, load1_zero, load1_succ, Nat.reduceAdd, load1_one, load1_two, load1_three, loadN_zero, loadN_one, loadN_two, loadN_three, under_mk, binA_lss, binA_leq, binA_gtr, binA_geq, binA_eql, binA_neq, AV.cells?, AH.push, List.nil_append, List.cons_append, List.length_nil, List.length_cons, Nat.zero_add, List.getElem?_cons_zero, List.getElem?_cons_succ, List.set_cons_zero, List.set_cons_succ, Option.map_some, Bool.bne_false, Bool.bne_true, Bool.not_true, Bool.not_false]
  refine ⟨trivial, ?_⟩
  -- the rounds
  refine wLoop.one (fun m t4 H => ∃ k rs g c, k + m = K ∧ AllInts rs ((List.range (k + 1)).map (iter t)) ∧ t4 = .slL 1 0 rs.length g ∧ H = ⟨[.cells n 2 [a, b], .cells g 1 rs], c⟩) K ?_ ?_
  · have hm := ghost_move (H := ⟨[.cells n 2 [a, b], .cells (n + 1) 1 (ints (List.replicate t.next.length 0)), .cells (n + 1 + 1) 1 [.slL 1 0 t.next.length (n + 1)]], n + 1 + 1 + 1⟩) (n0 := 1) (b := 2) (by omega) rfl
      (cs' := [.slF (ints (List.replicate t.next.length 0)) 0 t.next.length]) (.cons (.slF t.next.length (sz := 1) rfl (by omega) (by simp) (by
        have : (ints (List.replicate t.next.length 0)).take t.next.length = ints (List.replicate t.next.length 0) := List.take_of_length_le (by simp [ints])
        simp only [List.drop_zero, this]
        exact FzL.same _)) .nil) (xs := [.slL 2 0 1 (n + 1 + 1)]) (xs' := [.slL 1 0 1 (n + 1 + 1 + 1)]) (.cons (Fz.slM (i := 0) rfl rfl) .nil)
    refine gh1.of hm ⟨0, [.slF (ints (List.replicate t.next.length 0)) 0 t.next.length], n + 1 + 1 + 1, _, by omega, ?_, rfl, rfl⟩
    have : AllInts ([] ++ [.slF (ints (List.replicate t.next.length 0)) 0 t.next.length]) ([] ++ [List.replicate t.next.length 0]) := AllInts.nil.snoc (.inr (by simp [ints]))
    simpa [iter] using this
  rintro m t4 H ⟨k, rs, g, c, hkm, hrs, rfl, rfl⟩
  have hrl : rs.length = k + 1 := by simpa using hrs.1
  have hOwn : Own (⟨[.cells n 2 [a, b], .cells g 1 rs], c⟩ : AH) 1 (.slL 1 0 rs.length g) rs := .inr ⟨1, g, Nat.le_refl _, rfl, rfl⟩
  obtain ⟨p0, hp0, hp0'⟩ := hOwn.at (k := .i64) (i := k) (by omega)
  obtain ⟨now, hnow, hnowI⟩ := hrs.get (i := k) (by simp)
  have hnowI : Ints now (iter t k) := by simpa using hnowI
  have hnl := iter_len t k
  rw [hOwn.len]
  simp only [wGet_some, wPut_some, wDo_some, wBool_some, wNew_some, wNewS_some, wAgg_some, wIf_true, wIf_false, wGuard_ff, wGuard_tt, wGuard_ft, wGuard_tf, wGuard_undef, pickA_t, pickA_f, unA_not, faddr_L, faddr_F, extractA_tup, load1_F, load1_zero, load1_succ, Nat.reduceAdd, load1_one, load1_two, load1_three, loadN_zero, loadN_one, loadN_two, loadN_three, under_mk, binA_lss, binA_leq, binA_gtr, binA_geq, binA_eql, binA_neq, AV.cells?, AH.push, List.nil_append, List.cons_append, List.length_nil, List.length_cons, Nat.zero_add, List.getElem?_cons_zero, List.getElem?_cons_succ, List.set_cons_zero, List.set_cons_succ, Option.map_some, Bool.bne_false, Bool.bne_true, Bool.not_true, Bool.not_false]
  rw [binA_sub (by omega)]
  simp only [wGet_some, wPut_some, wDo_some, wBool_some, wNew_some, wNewS_some, wAgg_some, wIf_true, wIf_false, wGuard_ff, wGuard_tt, wGuard_ft, wGuard_tf, wGuard_undef, pickA_t, pickA_f, unA_not, faddr_L, faddr_F, extractA_tup, load1_F, load1_zero, load1_succ, Nat.reduceAdd, load1_one, load1_two, load1_three, loadN_zero, loadN_one, loadN_two, loadN_three, under_mk, binA_lss, binA_leq, binA_gtr, binA_geq, binA_eql, binA_neq, AV.cells?, AH.push, List.nil_append, List.cons_append, List.length_nil, List.length_cons, Nat.zero_add, List.getElem?_cons_zero, List.getElem?_cons_succ, List.set_cons_zero, List.set_cons_succ, Option.map_some, Bool.bne_false, Bool.bne_true, Bool.not_true, Bool.not_false, hrl]
  rw [show ((k + 1 : Nat) : Int) - 1 = (k : Nat) by omega]
  rw [hrl] at hp0 hOwn
  rw [hp0]
  simp only [wGet_some, wPut_some, wDo_some, wBool_some, wNew_some, wNewS_some, wAgg_some, wIf_true, wIf_false, wGuard_ff, wGuard_tt, wGuard_ft, wGuard_tf, wGuard_undef, pickA_t, pickA_f, unA_not, faddr_L, faddr_F, extractA_tup, load1_F, load1_zero, load1_succ, Nat.reduceAdd, load1_one, load1_two, load1_three, loadN_zero, loadN_one, loadN_two, loadN_three, under_mk, binA_lss, binA_leq, binA_gtr, binA_geq, binA_eql, binA_neq, AV.cells?, AH.push, List.nil_append, List.cons_append, List.length_nil, List.length_cons, Nat.zero_add, List.getElem?_cons_zero, List.getElem?_cons_succ, List.set_cons_zero, List.set_cons_succ, Option.map_some, Bool.bne_false, Bool.bne_true, Bool.not_true, Bool.not_false, hp0', hnow]
  -- the lists
  refine wLoop.two (fun m t6 t25 H => ∃ s lx, s + m = t.next.length ∧ t25 = .val (.int .i64 (s : Nat)) ∧ AllInts lx ((List.range s).map (line t (iter t k))) ∧ Own H 2 t6 lx ∧ H.bs.take 2 = [.cells n 2 [a, b], .cells g 1 rs]) t.next.length
    (gh2.mk ⟨0, [], by omega, rfl, AllInts.nil, .inl ⟨rfl, rfl⟩, rfl⟩) ?_
  rintro m2 t6 t25 H ⟨s, lx, hsm, rfl, hlx, h6, hH⟩
  have hH2 : 2 ≤ H.bs.length := by
    have := congrArg List.length hH
    simp at this; omega
  simp only [wGet_some, wPut_some, wDo_some, wBool_some, wNew_some, wNewS_some, wAgg_some, wIf_true, wIf_false, wGuard_ff, wGuard_tt, wGuard_ft, wGuard_tf, wGuard_undef, pickA_t, pickA_f, unA_not, faddr_L, faddr_F, extractA_tup, load1_F, load1_zero, load1_succ, Nat.reduceAdd, load1_one, load1_two, load1_three, loadN_zero, loadN_one, loadN_two, loadN_three, under_mk, binA_lss, binA_leq, binA_gtr, binA_geq, binA_eql, binA_neq, AV.cells?, AH.push, List.nil_append, List.cons_append, List.length_nil, List.length_cons, Nat.zero_add, List.getElem?_cons_zero, List.getElem?_cons_succ, List.set_cons_zero, List.set_cons_succ, Option.map_some, Bool.bne_false, Bool.bne_true, Bool.not_true, Bool.not_false, wIf_bool]
  refine ⟨fun hlt => ?_, fun hge => ?_⟩
  · have hs : s < t.next.length := by have := of_decide_eq_true hlt; omega
    obtain ⟨q1, hq1, hq1'⟩ := hnowI.get (i := s) (by omega)
    have hB0 : ∀ {H' : AH}, H'.bs.take 2 = [.cells n 2 [a, b], .cells g 1 rs] → ∀ o, load1 (.ptrL 0 o n) H' = [a, b][o]? := by
      intro H' h o
      refine load1_L (sz := 2) ?_
      have := congrArg (·[0]?) h
      simpa [List.getElem?_take] using this
    obtain ⟨p1, y1, hp1, hl1, hy1⟩ := ha.at hs
    obtain ⟨p2, y2, hp2, hl2, hy2⟩ := hb.at (i := s) (by omega)
    have hrow := hg.rows s hs
    have hf1 : ∀ z, fillA (List.replicate 1 [AV.val (.int .i64 0)]).flatten [(0, 1, AV.val (.int .i64 z))] = some [AV.val (.int .i64 z)] := fun z => rfl
    simp only [wGet_some, wPut_some, wDo_some, wBool_some, wNew_some, wNewS_some, wAgg_some, wIf_true, wIf_false, wGuard_ff, wGuard_tt, wGuard_ft, wGuard_tf, wGuard_undef, pickA_t, pickA_f, unA_not, faddr_L, faddr_F, extractA_tup, load1_F, load1_zero, load1_succ, Nat.reduceAdd, load1_one, load1_two, load1_three, loadN_zero, loadN_one, loadN_two, loadN_three, under_mk, binA_lss, binA_leq, binA_gtr, binA_geq, binA_eql, binA_neq, AV.cells?, AH.push, List.nil_append, List.cons_append, List.length_nil, List.length_cons, Nat.zero_add, List.getElem?_cons_zero, List.getElem?_cons_succ, List.set_cons_zero, List.set_cons_succ, Option.map_some, Bool.bne_false, Bool.bne_true, Bool.not_true, Bool.not_false, hq1, hq1', hf1]
    refine ⟨trivial, ?_⟩
    have hE1 : Ext H (H.push 1 [AV.val (.int .i64 (cell (iter t k) s))]) := .push _ _ _
    have ht2 : ∀ {H' : AH}, Ext H H' → H'.bs.take 2 = [.cells n 2 [a, b], .cells g 1 rs] := fun h => (h.take hH2).trans hH
    rw [show (⟨H.bs ++ [Blk.cells H.ctr 1 [AV.val (.int .i64 (cell (iter t k) s))]], H.ctr + 1⟩ : AH) = H.push 1 [AV.val (.int .i64 (cell (iter t k) s))] from rfl]
    rw [hB0 (ht2 hE1)]
    simp only [wGet_some, wPut_some, wDo_some, wBool_some, wNew_some, wNewS_some, wAgg_some, wIf_true, wIf_false, wGuard_ff, wGuard_tt, wGuard_ft, wGuard_tf, wGuard_undef, pickA_t, pickA_f, unA_not, faddr_L, faddr_F, extractA_tup, load1_F, load1_zero, load1_succ, Nat.reduceAdd, load1_one, load1_two, load1_three, loadN_zero, loadN_one, loadN_two, loadN_three, under_mk, binA_lss, binA_leq, binA_gtr, binA_geq, binA_eql, binA_neq, AV.cells?, AH.push, List.nil_append, List.cons_append, List.length_nil, List.length_cons, Nat.zero_add, List.getElem?_cons_zero, List.getElem?_cons_succ, List.set_cons_zero, List.set_cons_succ, Option.map_some, Bool.bne_false, Bool.bne_true, Bool.not_true, Bool.not_false, hp1, hl1, hy1.len]
    -- one list
    refine wLoop.two (fun m t8 t39 H' => ∃ i : Nat, i + m = (row t.next s).length ∧ t39 = .val (.int .i64 i) ∧ Own H' 2 t8 (ints (lineTo t (iter t k) s i)) ∧ Own H' 2 t6 lx ∧ Apart t8 t6 ∧ H'.bs.take 2 = [.cells n 2 [a, b], .cells g 1 rs]) (row t.next s).length
      (gh2.mk ⟨0, by omega, rfl, .inr ⟨H.bs.length, H.ctr, hH2, rfl, by simp [lineTo, ints, AH.push]⟩, h6.ext hE1, ?_, ht2 hE1⟩) ?_
    · intro b1 o1 n1 g1 b2 o2 n2 g2 e1 e2 e
      injection e1 with e1 _ _ _
      rcases h6 with ⟨rfl, _⟩ | ⟨b', g', _, rfl, hb'⟩
      · simp [nilS] at e2
      · injection e2 with e2 _ _ _
        have := lt_of_get hb'
        omega
    rintro m3 t8 t39 H3 ⟨i, him, rfl, h8, h6', hap, hH3⟩
    have hH32 : 2 ≤ H3.bs.length := by
      have := congrArg List.length hH3
      simp at this; omega
    simp only [wGet_some, wPut_some, wDo_some, wBool_some, wNew_some, wNewS_some, wAgg_some, wIf_true, wIf_false, wGuard_ff, wGuard_tt, wGuard_ft, wGuard_tf, wGuard_undef, pickA_t, pickA_f, unA_not, faddr_L, faddr_F, extractA_tup, load1_F, load1_zero, load1_succ, Nat.reduceAdd, load1_one, load1_two, load1_three, loadN_zero, loadN_one, loadN_two, loadN_three, under_mk, binA_lss, binA_leq, binA_gtr, binA_geq, binA_eql, binA_neq, AV.cells?, AH.push, List.nil_append, List.cons_append, List.length_nil, List.length_cons, Nat.zero_add, List.getElem?_cons_zero, List.getElem?_cons_succ, List.set_cons_zero, List.set_cons_succ, Option.map_some, Bool.bne_false, Bool.bne_true, Bool.not_true, Bool.not_false, wIf_bool]
    refine ⟨fun hlt3 => ?_, fun hge3 => ?_⟩
    · have hi : i < (row t.next s).length := by
        have := of_decide_eq_true hlt3
        simp only [row]; omega
      obtain ⟨u1, hu1, hu1'⟩ := hy1.get (i := i) hi
      obtain ⟨u2, hu2, hu2'⟩ := hy2.get (i := i) (by simp only [row] at hrow hi; omega)
      have hthere := hg.there s hs (cell (row t.next s) i) (by
        have : (row t.next s)[i] ∈ row t.next s := List.getElem_mem hi
        simpa [cell, hi] using this)
      obtain ⟨u3, hu3, hu3'⟩ := hnowI.get (i := (cell (row t.next s) i).toNat) (by omega)
      rw [show (((cell (row t.next s) i).toNat : Nat) : Int) = cell (row t.next s) i by omega] at hu3
      have hf2 : ∀ z w, fillA (List.replicate 2 [AV.val (.int .i64 0)]).flatten [(0, 1, AV.val (.int .i64 z)), (1, 1, AV.val (.int .i64 w))] = some [AV.val (.int .i64 z), AV.val (.int .i64 w)] := fun z w => rfl
      simp only [wGet_some, wPut_some, wDo_some, wBool_some, wNew_some, wNewS_some, wAgg_some, wIf_true, wIf_false, wGuard_ff, wGuard_tt, wGuard_ft, wGuard_tf, wGuard_undef, pickA_t, pickA_f, unA_not, faddr_L, faddr_F, extractA_tup, load1_F, load1_zero, load1_succ, Nat.reduceAdd, load1_one, load1_two, load1_three, loadN_zero, loadN_one, loadN_two, loadN_three, under_mk, binA_lss, binA_leq, binA_gtr, binA_geq, binA_eql, binA_neq, AV.cells?, AH.push, List.nil_append, List.cons_append, List.length_nil, List.length_cons, Nat.zero_add, List.getElem?_cons_zero, List.getElem?_cons_succ, List.set_cons_zero, List.set_cons_succ, Option.map_some, Bool.bne_false, Bool.bne_true, Bool.not_true, Bool.not_false, hu1, hu1']
      rw [hB0 hH3]
      simp only [wGet_some, wPut_some, wDo_some, wBool_some, wNew_some, wNewS_some, wAgg_some, wIf_true, wIf_false, wGuard_ff, wGuard_tt, wGuard_ft, wGuard_tf, wGuard_undef, pickA_t, pickA_f, unA_not, faddr_L, faddr_F, extractA_tup, load1_F, load1_zero, load1_succ, Nat.reduceAdd, load1_one, load1_two, load1_three, loadN_zero, loadN_one, loadN_two, loadN_three, under_mk, binA_lss, binA_leq, binA_gtr, binA_geq, binA_eql, binA_neq, AV.cells?, AH.push, List.nil_append, List.cons_append, List.length_nil, List.length_cons, Nat.zero_add, List.getElem?_cons_zero, List.getElem?_cons_succ, List.set_cons_zero, List.set_cons_succ, Option.map_some, Bool.bne_false, Bool.bne_true, Bool.not_true, Bool.not_false, hp2, hl2, hu2, hu2']
      rw [show cell (t.next[s]?.getD []) i = cell (row t.next s) i from rfl, hu3]
      simp only [wGet_some, wPut_some, wDo_some, wBool_some, wNew_some, wNewS_some, wAgg_some, wIf_true, wIf_false, wGuard_ff, wGuard_tt, wGuard_ft, wGuard_tf, wGuard_undef, pickA_t, pickA_f, unA_not, faddr_L, faddr_F, extractA_tup, load1_F, load1_zero, load1_succ, Nat.reduceAdd, load1_one, load1_two, load1_three, loadN_zero, loadN_one, loadN_two, loadN_three, under_mk, binA_lss, binA_leq, binA_gtr, binA_geq, binA_eql, binA_neq, AV.cells?, AH.push, List.nil_append, List.cons_append, List.length_nil, List.length_cons, Nat.zero_add, List.getElem?_cons_zero, List.getElem?_cons_succ, List.set_cons_zero, List.set_cons_succ, Option.map_some, Bool.bne_false, Bool.bne_true, Bool.not_true, Bool.not_false, hu3', hf2]
      refine ⟨trivial, ?_⟩
      obtain ⟨x3, H4, v1, v2, v3, v4, v5⟩ := (h8.ext (.push H3 1 [AV.val (.int .i64 (cell (t.tells[s]?.getD []) i)), AV.val (.int .i64 (cell (iter t k) (cell (row t.next s) i).toNat))])).grow (Nat.le_trans hH32 (Ext.push H3 _ _).2) (bytes := 8)
        (y := .slL H3.bs.length 0 2 H3.ctr) (new := [AV.val (.int .i64 (cell (t.tells[s]?.getD []) i)), AV.val (.int .i64 (cell (iter t k) (cell (row t.next s) i).toNat))]) (n := 2)
        (by simp only [cellsOfA, AH.cells_eq (push_get H3 1 _)]; rfl) rfl rfl (by simp only [mostBytes, ints_length, lineTo_len]; omega) (by simp only [mostBytes, ints_length, lineTo_len]; omega)
      rw [show (⟨H3.bs ++ [Blk.cells H3.ctr 1 [AV.val (.int .i64 (cell (t.tells[s]?.getD []) i)), AV.val (.int .i64 (cell (iter t k) (cell (row t.next s) i).toNat))]], H3.ctr + 1⟩ : AH) = H3.push 1 [AV.val (.int .i64 (cell (t.tells[s]?.getD []) i)), AV.val (.int .i64 (cell (iter t k) (cell (row t.next s) i).toNat))] from rfl, v1]
      simp only [wGet_some, wPut_some, wDo_some, wBool_some, wNew_some, wNewS_some, wAgg_some, wIf_true, wIf_false, wGuard_ff, wGuard_tt, wGuard_ft, wGuard_tf, wGuard_undef, pickA_t, pickA_f, unA_not, faddr_L, faddr_F, extractA_tup, load1_F, load1_zero, load1_succ, Nat.reduceAdd, load1_one, load1_two, load1_three, loadN_zero, loadN_one, loadN_two, loadN_three, under_mk, binA_lss, binA_leq, binA_gtr, binA_geq, binA_eql, binA_neq, AV.cells?, AH.push, List.nil_append, List.cons_append, List.length_nil, List.length_cons, Nat.zero_add, List.getElem?_cons_zero, List.getElem?_cons_succ, List.set_cons_zero, List.set_cons_succ, Option.map_some, Bool.bne_false, Bool.bne_true, Bool.not_true, Bool.not_false]
      rw [binA_succ (by omega)]
      simp only [wGet_some, wPut_some, wDo_some, wBool_some, wNew_some, wNewS_some, wAgg_some, wIf_true, wIf_false, wGuard_ff, wGuard_tt, wGuard_ft, wGuard_tf, wGuard_undef, pickA_t, pickA_f, unA_not, faddr_L, faddr_F, extractA_tup, load1_F, load1_zero, load1_succ, Nat.reduceAdd, load1_one, load1_two, load1_three, loadN_zero, loadN_one, loadN_two, loadN_three, under_mk, binA_lss, binA_leq, binA_gtr, binA_geq, binA_eql, binA_neq, AV.cells?, AH.push, List.nil_append, List.cons_append, List.length_nil, List.length_cons, Nat.zero_add, List.getElem?_cons_zero, List.getElem?_cons_succ, List.set_cons_zero, List.set_cons_succ, Option.map_some, Bool.bne_false, Bool.bne_true, Bool.not_true, Bool.not_false]
      obtain ⟨w1, w2⟩ := v5 _ _ (h6'.ext (.push _ _ _)) hap
      refine back2.mk (m' := m3 - 1) (by omega) ⟨i + 1, by omega, rfl, ?_, w1, w2, ?_⟩
      · rw [lineTo_succ, ints_append]; exact v2
      · exact (take_keep (fun j v hv hj => v3 j v ((Ext.push H3 1 _).1 j v hv) hj) hH32).trans hH3
    · have hie : i = (row t.next s).length := by
        have := of_decide_eq_false hge3
        simp only [row] at *; omega
      subst hie
      have h8s : t8.scalar = true := by
        rcases h8 with ⟨rfl, _⟩ | ⟨_, _, _, rfl, _⟩ <;> rfl
      rw [hfl _ h8s]
      simp only [wGet_some, wPut_some, wDo_some, wBool_some, wNew_some, wNewS_some, wAgg_some, wIf_true, wIf_false, wGuard_ff, wGuard_tt, wGuard_ft, wGuard_tf, wGuard_undef, pickA_t, pickA_f, unA_not, faddr_L, faddr_F, extractA_tup, load1_F, load1_zero, load1_succ, Nat.reduceAdd, load1_one, load1_two, load1_three, loadN_zero, loadN_one, loadN_two, loadN_three, under_mk, binA_lss, binA_leq, binA_gtr, binA_geq, binA_eql, binA_neq, AV.cells?, AH.push, List.nil_append, List.cons_append, List.length_nil, List.length_cons, Nat.zero_add, List.getElem?_cons_zero, List.getElem?_cons_succ, List.set_cons_zero, List.set_cons_succ, Option.map_some, Bool.bne_false, Bool.bne_true, Bool.not_true, Bool.not_false]
      refine ⟨trivial, ?_⟩
      have hE3 : Ext H3 (H3.push 1 [t8]) := .push _ _ _
      have hlxl : lx.length = s := by simpa using hlx.1
      obtain ⟨x3, H4, v1, v2, v3, v4, v5⟩ := (h6'.ext hE3).grow (Nat.le_trans hH32 hE3.2) (bytes := 24)
        (y := .slL H3.bs.length 0 1 H3.ctr) (new := [t8]) (n := 1)
        (by simp only [cellsOfA, AH.cells_eq (push_get H3 1 _)]; rfl) rfl (by simpa using h8s) (by simp only [mostBytes, hlxl]; omega) (by simp only [mostBytes, hlxl]; omega)
      rw [show (⟨H3.bs ++ [Blk.cells H3.ctr 1 [t8]], H3.ctr + 1⟩ : AH) = H3.push 1 [t8] from rfl, v1]
      simp only [wGet_some, wPut_some, wDo_some, wBool_some, wNew_some, wNewS_some, wAgg_some, wIf_true, wIf_false, wGuard_ff, wGuard_tt, wGuard_ft, wGuard_tf, wGuard_undef, pickA_t, pickA_f, unA_not, faddr_L, faddr_F, extractA_tup, load1_F, load1_zero, load1_succ, Nat.reduceAdd, load1_one, load1_two, load1_three, loadN_zero, loadN_one, loadN_two, loadN_three, under_mk, binA_lss, binA_leq, binA_gtr, binA_geq, binA_eql, binA_neq, AV.cells?, AH.push, List.nil_append, List.cons_append, List.length_nil, List.length_cons, Nat.zero_add, List.getElem?_cons_zero, List.getElem?_cons_succ, List.set_cons_zero, List.set_cons_succ, Option.map_some, Bool.bne_false, Bool.bne_true, Bool.not_true, Bool.not_false]
      rw [binA_succ (by omega)]
      simp only [wGet_some, wPut_some, wDo_some, wBool_some, wNew_some, wNewS_some, wAgg_some, wIf_true, wIf_false, wGuard_ff, wGuard_tt, wGuard_ft, wGuard_tf, wGuard_undef, pickA_t, pickA_f, unA_not, faddr_L, faddr_F, extractA_tup, load1_F, load1_zero, load1_succ, Nat.reduceAdd, load1_one, load1_two, load1_three, loadN_zero, loadN_one, loadN_two, loadN_three, under_mk, binA_lss, binA_leq, binA_gtr, binA_geq, binA_eql, binA_neq, AV.cells?, AH.push, List.nil_append, List.cons_append, List.length_nil, List.length_cons, Nat.zero_add, List.getElem?_cons_zero, List.getElem?_cons_succ, List.set_cons_zero, List.set_cons_succ, Option.map_some, Bool.bne_false, Bool.bne_true, Bool.not_true, Bool.not_false]
      obtain ⟨w1, w2⟩ := v5 _ _ (h8.ext hE3) hap.symm
      obtain ⟨b6, g6, hb6, rfl, hb6'⟩ := v2.live (by simp)
      obtain ⟨x8, z1, z2⟩ := w1.frozen (m0 := 2) (mv := [b6]) (Nat.le_refl _) (by
        intro b' hb' g' he
        simp at hb'
        exact w2 _ _ _ _ _ _ _ _ rfl he hb'.symm) (FzL.same _)
      have hm := ghost_move (n0 := 2) (b := b6) hb6 hb6' (cs' := lx ++ [x8]) (FzL.append (FzL.same _) (.cons z1 .nil)) (xs := [.slL b6 0 (lx ++ [t8]).length g6, .val (.int .i64 ((s + 1 : Nat) : Int))]) (.cons (Fz.slM (i := 0) rfl hb6') (.cons (.same _) .nil))
      have hT : H4.bs.take 2 = [.cells n 2 [a, b], .cells g 1 rs] := (take_keep (fun j v hv hj => v3 j v (hE3.1 j v hv) hj) hH32).trans hH3
      refine back2.of (m' := m2 - 1) (by omega) hm ⟨s + 1, lx ++ [x8], by omega, rfl, ?_, .inr ⟨2, H4.ctr, Nat.le_refl _, by simp, ?_⟩, ?_⟩
      · rw [List.range_succ, List.map_append]
        exact hlx.snoc z2
      · rw [hT]; rfl
      · rw [hT]; rfl
  · have hse : s = t.next.length := by
      have := of_decide_eq_false hge
      omega
    subst hse
    obtain ⟨x6, z1, z2⟩ := h6.frozen (m0 := 2) (mv := []) (Nat.le_refl _) (by simp) (FzL.same _)
    have hll : ∀ l ∈ (List.range t.next.length).map (line t (iter t k)), l.length < 1000000000 := by
      intro l hl
      simp only [List.mem_map, List.mem_range] at hl
      obtain ⟨j, hj, rfl⟩ := hl
      have := hg.rows j hj
      rw [line, lineTo_len]; omega
    refine wCall.freeze (ghost_take hH2 (.cons z1 .nil)) (number_spec hnum hI hN hEq ⟨lx, z2, hlx⟩ (by simp; omega) hll) (by
      simp only [AV.closedL, and_true]
      exact z2.closed hlx.closed) (fun r h => h.closed) fun r hr => ?_
    have hr : Ints r (iter t (k + 1)) := hr
    rw [hH]
    refine wCall.lift (Equal_spec hEq hr hnowI (by rw [iter_len]; omega)) (by simp [AV.closedL, hr.closed, hnowI.closed]) (fun r h => by subst h; simp [flag, AV.closed]) fun r' hr' => ?_
    subst hr'
    simp only [flag, wIf_bool]
    refine ⟨fun he => ?_, fun hne => ?_⟩
    · have he := of_decide_eq_true he
      have hkK : k = K := by
        by_cases hk : k < K
        · exact absurd he (hK.2 k hk)
        · omega
      subst hkK
      have hO : Own (⟨[.cells n 2 [a, b], .cells g 1 rs], H.ctr⟩ : AH) 1 (.slL 1 0 rs.length g) rs := .inr ⟨1, g, Nat.le_refl _, rfl, rfl⟩
      obtain ⟨x4, y1, y2⟩ := hO.frozen (m0 := 0) (mv := []) (Nat.zero_le _) (by simp) (FzL.same _)
      rw [← hrl]
      exact hR _ x4 _ y1 ⟨rs, y2, hrs⟩
    · have hne := of_decide_eq_false hne
      have hkK : k < K := by
        by_cases hk : k < K
        · exact hk
        · have : k = K := by omega
          subst this; exact absurd hK.1 hne
      have hrs' : r.scalar = true := by rcases hr with ⟨rfl, _⟩ | rfl <;> rfl
      rw [hfl _ hrs']
      simp only [wGet_some, wPut_some, wDo_some, wBool_some, wNew_some, wNewS_some, wAgg_some, wIf_true, wIf_false, wGuard_ff, wGuard_tt, wGuard_ft, wGuard_tf, wGuard_undef, pickA_t, pickA_f, unA_not, faddr_L, faddr_F, extractA_tup, load1_F, load1_zero, load1_succ, Nat.reduceAdd, load1_one, load1_two, load1_three, loadN_zero, loadN_one, loadN_two, loadN_three, under_mk, binA_lss, binA_leq, binA_gtr, binA_geq, binA_eql, binA_neq, AV.cells?, AH.push, List.nil_append, List.cons_append, List.length_nil, List.length_cons, Nat.zero_add, List.getElem?_cons_zero, List.getElem?_cons_succ, List.set_cons_zero, List.set_cons_succ, Option.map_some, Bool.bne_false, Bool.bne_true, Bool.not_true, Bool.not_false]
      refine ⟨trivial, ?_⟩
      have hO : Own ((⟨[.cells n 2 [a, b], .cells g 1 rs], H.ctr⟩ : AH).push 1 [r]) 1 (.slL 1 0 (k + 1) g) rs := .inr ⟨1, g, Nat.le_refl _, by rw [hrl], rfl⟩
      obtain ⟨x3, H4, v1, v2, v3, v4, v5⟩ := hO.grow (by simp [AH.push]) (bytes := 24)
        (y := .slL 2 0 1 H.ctr) (new := [r]) (n := 1)
        (by simp [cellsOfA, AH.cells, AH.push, subL]) rfl (by simpa using hrs') (by simp only [mostBytes, hrl]; omega) (by simp only [mostBytes, hrl]; omega)
      simp only [AH.push, List.cons_append, List.nil_append] at v1
      rw [v1]
      simp only [wGet_some, wPut_some, wDo_some, wBool_some, wNew_some, wNewS_some, wAgg_some, wIf_true, wIf_false, wGuard_ff, wGuard_tt, wGuard_ft, wGuard_tf, wGuard_undef, pickA_t, pickA_f, unA_not, faddr_L, faddr_F, extractA_tup, load1_F, load1_zero, load1_succ, Nat.reduceAdd, load1_one, load1_two, load1_three, loadN_zero, loadN_one, loadN_two, loadN_three, under_mk, binA_lss, binA_leq, binA_gtr, binA_geq, binA_eql, binA_neq, AV.cells?, AH.push, List.nil_append, List.cons_append, List.length_nil, List.length_cons, Nat.zero_add, List.getElem?_cons_zero, List.getElem?_cons_succ, List.set_cons_zero, List.set_cons_succ, Option.map_some, Bool.bne_false, Bool.bne_true, Bool.not_true, Bool.not_false]
      obtain ⟨b6, g6, hb6, rfl, hb6'⟩ := v2.live (by simp)
      have hm := ghost_move (n0 := 1) (b := b6) hb6 hb6' (FzL.same _) (xs := [.slL b6 0 (rs ++ [r]).length g6]) (.cons (Fz.slM (i := 0) rfl hb6') .nil)
      have hT : H4.bs.take 1 = [.cells n 2 [a, b]] := (take_keep v3 (by simp [AH.push])).trans rfl
      refine back1.of (m' := m - 1) (by omega) hm ⟨k + 1, rs ++ [r], H4.ctr, H4.ctr + 1, by omega, ?_, rfl, ?_⟩
      · rw [List.range_succ, List.map_append]
        exact hrs.snoc hr
      · rw [hT]; rfl
end
end Go.Sb
