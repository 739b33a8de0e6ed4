/- CONTRACTS: package signalboxref: what an expression says, how great it is, its names and edges. CONTRACTS: package signalboxref: names and edges of an expression, put in place by place. THE LAW ExprSays, out of the contracts. CONTRACTS: formulas of package lasso: which may be; words that may be; plain's steps. CONTRACTS: at which times of a word a formula holds: lasso.holds. DECODING: words and steps. A PACKAGE-LEVEL NUMBER THAT MAY BE ANY: told to the contract of a row; strings.Contains out of the kit's shelf. (of the seat YtdihbbcfgiocmaaGreatDoor) -/
import Derived.Test.YtdihbbcfgiocmaaGreatDoorCore8
import Derived.Lib.IndexMore
import Derived.SizedLaws
import Derived.Shelf.Vars
namespace Go.Sc
open Go
set_option linter.unusedSimpArgs false
set_option linter.unusedVariables false
set_option linter.unnecessarySimpa false
structure RefSaysBodies (E : Env) (P : Program) : Prop where
  eval : Body3 E P 180 F.pref_Expr_Eval
  size : Body1 E P 186 F.pref_Expr_Size
  names : Body1 E P 182 F.pref_Expr_Names
  edges : Body1 E P 185 F.pref_Expr_Edges
  named : Body2 E P 191 F.pref_Expr_named
  named1 : Body4 E P 196 F.pref_Expr_named_c1
  con : ∀ s t : Str, s.length ≤ 1000 → FX E P 199 [S s, S t] (Bo (Lib.contains s t))
section
variable {E : Env} {P : Program}
theorem countL (p : Ex → Bool) : ∀ l : List Ex, (l.filter p).length ≤ l.length := fun l => List.length_filter_le p l
theorem refRow_spec (B : RefSaysBodies E P) {f g : AV} {p q : Str → Bool} (hf : Asks E P f p) (hg : Asks E P g q) (x : Ex) (l : List Ex) (hx : x = .and l ∨ x = .or l) (h2 : 2 ≤ l.length) (hl : ∀ y ∈ l, FX E P 180 [y.ref, f, g] (Bo (y.says p q))) (hlen : l.length < 4611686018427387904) {c : Nat} {R : Kt} (hR : ∀ H, R (Bo (x.says p q)) H) :
    F.pref_Expr_Eval E P x.ref f g ⟨[], c⟩ R := by
  have hr : x.ref = .ptrF [S x.kind, S [], .slN (Ex.refL l) l.length] 0 := by rcases hx with rfl | rfl <;> rfl
  have hk : x.kind = [38] ∧ x = .and l ∨ x.kind = [124] ∧ x = .or l := by rcases hx with rfl | rfl <;> simp [Ex.kind]
  have k1 : decide (x.kind = [49]) = false := by rcases hk with ⟨h, _⟩ | ⟨h, _⟩ <;> rw [h] <;> decide
  have k2 : decide (x.kind = [98, 105, 116]) = false := by rcases hk with ⟨h, _⟩ | ⟨h, _⟩ <;> rw [h] <;> decide
  have k3 : decide (x.kind = [94]) = false := by rcases hk with ⟨h, _⟩ | ⟨h, _⟩ <;> rw [h] <;> decide
  have k4 : decide (x.kind = [126]) = false := by rcases hk with ⟨h, _⟩ | ⟨h, _⟩ <;> rw [h] <;> decide
  have k5 : decide (x.kind = [33]) = false := by rcases hk with ⟨h, _⟩ | ⟨h, _⟩ <;> rw [h] <;> decide
  unfold F.pref_Expr_Eval
  rw [hr]
  simp only [nd0, Y1n, Y1o, Y1p, Y1q, Y1w, Y1x, Y1y, Y1z, Y20, Y21, Y28, Y2a, AV.cells?, Nat.reduceAdd, Nat.reduceMul, show (AV.val (.string ⟨#[49]⟩)) = S [49] from rfl, show (AV.val (.string ⟨#[98, 105, 116]⟩)) = S [98, 105, 116] from rfl, show (AV.val (.string ⟨#[94]⟩)) = S [94] from rfl, show (AV.val (.string ⟨#[126]⟩)) = S [126] from rfl, show (AV.val (.string ⟨#[33]⟩)) = S [33] from rfl, k1, k2, k3, k4, k5]
  refine wJoin.one (fun t H => t = Bo true ∧ ∃ n, H = ⟨[], n⟩) ?_ ?_
  · rcases hk with ⟨h, _⟩ | ⟨h, _⟩
    · simp only [nd0, Y1n, Y1o, Y1p, Y1q, Y1w, Y1x, Y1y, Y1z, Y20, Y21, Y28, Y2a, AV.cells?, Nat.reduceAdd, Nat.reduceMul, h, show decide (([38] : Str) = [38]) = true from rfl]; exact gh1.mk ⟨rfl, _, rfl⟩
    · simp only [nd0, Y1n, Y1o, Y1p, Y1q, Y1w, Y1x, Y1y, Y1z, Y20, Y21, Y28, Y2a, AV.cells?, Nat.reduceAdd, Nat.reduceMul, h, show decide (([124] : Str) = [38]) = false from rfl, show decide (([124] : Str) = [124]) = true from rfl]; exact gh1.mk ⟨rfl, _, rfl⟩
  rintro t H ⟨rfl, n1, rfl⟩
  simp only [nd0, Y1n, Y1o, Y1p, Y1q, Y1w, Y1x, Y1y, Y1z, Y20, Y21, Y28, Y2a, AV.cells?, Nat.reduceAdd, Nat.reduceMul]
  refine wLoop.two (fun m t i H => ∃ pre rest c, l = pre ++ rest ∧ i = Z pre.length ∧ m = rest.length ∧ t = Z ((pre.filter fun y => y.says p q).length : Nat) ∧ H = ⟨[], c⟩) l.length (gh2.mk ⟨[], l, _, rfl, rfl, rfl, rfl, rfl⟩) ?_
  rintro m t i H ⟨pre, rest, c, hpr, rfl, rfl, rfl, rfl⟩
  have hc := countL (fun y : Ex => y.says p q) pre
  cases rest with
  | nil =>
    rw [List.append_nil] at hpr
    subst hpr
    simp only [nd0, Y1n, Y1o, Y1p, Y1q, Y1w, Y1x, Y1y, Y1z, Y20, Y21, Y28, Y2a, AV.cells?, Nat.reduceAdd, Nat.reduceMul, Int.lt_irrefl, show (AV.val (.string ⟨#[124]⟩)) = S [124] from rfl]
    have hall : l.all (fun y => y.says p q) = decide ((l.filter fun y => y.says p q).length = l.length) := by
      rw [Bool.eq_iff_iff, decide_eq_true_iff, List.length_filter_eq_length_iff, List.all_eq_true]
    have hany : l.any (fun y => y.says p q) = decide (0 < (l.filter fun y => y.says p q).length) := by
      rw [Bool.eq_iff_iff, decide_eq_true_iff, List.length_filter_pos_iff, List.any_eq_true]
    rcases hk with ⟨h, rfl⟩ | ⟨h, rfl⟩
    · rw [show (Ex.and l).says p q = Ex.allL p q l from rfl, Ex.allL_eq, hall] at hR
      simp only [nd0, Y1n, Y1o, Y1p, Y1q, Y1w, Y1x, Y1y, Y1z, Y20, Y21, Y28, Y2a, AV.cells?, Nat.reduceAdd, Nat.reduceMul, h, show decide (([38] : Str) = [124]) = false from rfl, show (((((l.filter fun y => y.says p q).length : Nat) : Int) = (l.length : Int)) ↔ ((l.filter fun y => y.says p q).length = l.length)) from by omega]
      exact hR _
    · rw [show (Ex.or l).says p q = Ex.anyL p q l from rfl, Ex.anyL_eq, hany] at hR
      by_cases h0 : 0 < (l.filter fun y => y.says p q).length
      · simp only [nd0, Y1n, Y1o, Y1p, Y1q, Y1w, Y1x, Y1y, Y1z, Y20, Y21, Y28, Y2a, AV.cells?, Nat.reduceAdd, Nat.reduceMul, h, show decide (([124] : Str) = [124]) = true from rfl, decide_eq_true (show (0 : Int) < ((l.filter fun y => y.says p q).length : Nat) by omega)]
        rw [decide_eq_true h0] at hR
        exact hR _
      · simp only [nd0, Y1n, Y1o, Y1p, Y1q, Y1w, Y1x, Y1y, Y1z, Y20, Y21, Y28, Y2a, AV.cells?, Nat.reduceAdd, Nat.reduceMul, h, show decide (([124] : Str) = [124]) = true from rfl, decide_eq_false (show ¬ (0 : Int) < ((l.filter fun y => y.says p q).length : Nat) by omega), decide_eq_false (show ¬ ((((l.filter fun y => y.says p q).length : Nat) : Int) = (l.length : Int)) by omega)]
        rw [decide_eq_false h0] at hR
        exact hR _
  | cons y rest =>
    have hym : y ∈ l := by rw [hpr]; simp
    have hlt : pre.length < l.length := by rw [hpr]; simp
    simp only [nd0, Y1n, Y1o, Y1p, Y1q, Y1w, Y1x, Y1y, Y1z, Y20, Y21, Y28, Y2a, AV.cells?, Nat.reduceAdd, Nat.reduceMul, decide_eq_true (show (pre.length : Int) < (l.length : Int) by omega)]
    refine wJoin.one (fun t H => t = Z (((pre ++ [y]).filter fun y => y.says p q).length : Nat) ∧ ∃ n, H = ⟨[], n⟩) ?_ ?_
    · rw [iaddr_Nn hlt]
      simp only [nd0, Y1n, Y1o, Y1p, Y1q, Y1w, Y1x, Y1y, Y1z, Y20, Y21, Y28, Y2a, AV.cells?, Nat.reduceAdd, Nat.reduceMul, show (Ex.refL l)[pre.length]? = some y.ref by rw [Ex.refL_map, hpr]; simp]
      refine wCall.fx (hl y hym) fun n2 => ?_
      cases hy : y.says p q with
      | true =>
        simp only [nd0, Y1n, Y1o, Y1p, Y1q, Y1w, Y1x, Y1y, Y1z, Y20, Y21, Y28, Y2a, AV.cells?, Nat.reduceAdd, Nat.reduceMul]
        rw [binA_succ (by omega)]
        simp only [nd0, Y1n, Y1o, Y1p, Y1q, Y1w, Y1x, Y1y, Y1z, Y20, Y21, Y28, Y2a, AV.cells?, Nat.reduceAdd, Nat.reduceMul]
        exact gh1.mk ⟨by simp [List.filter_append, hy], _, rfl⟩
      | false => simp only [nd0, Y1n, Y1o, Y1p, Y1q, Y1w, Y1x, Y1y, Y1z, Y20, Y21, Y28, Y2a, AV.cells?, Nat.reduceAdd, Nat.reduceMul]; exact gh1.mk ⟨by simp [List.filter_append, hy], _, rfl⟩
    rintro t H ⟨rfl, n3, rfl⟩
    rw [binA_succ (by omega)]
    simp only [nd0, Y1n, Y1o, Y1p, Y1q, Y1w, Y1x, Y1y, Y1z, Y20, Y21, Y28, Y2a, AV.cells?, Nat.reduceAdd, Nat.reduceMul]
    exact back2.mk rest.length (by simp) ⟨pre ++ [y], rest, _, by rw [hpr]; simp, by simp, rfl, rfl, rfl⟩
theorem refEval_spec (B : RefSaysBodies E P) {f g : AV} {p q : Str → Bool} (hf : Asks E P f p) (hg : Asks E P g q) : ∀ (n : Nat) (x : Ex), x.wt < n → x.wt ≤ 1000000 → x.fine → FX E P 180 [x.ref, f, g] (Bo (x.says p q)) := by
  intro n
  induction n with
  | zero => intro x hx; omega
  | succ n ih =>
    intro x hx hw hfi
    refine FX.of' ⟨Ex.ref_closed x, hf.closed, hg.closed, trivial⟩ trivial fun c R hR => B.eval _ _ _ _ _ ?_
    cases x with
    | and l =>
      simp only [Ex.wt] at hw hx
      have hll := Ex.len_wtL hfi.2
      exact refRow_spec B hf hg _ l (.inl rfl) hfi.1 (fun y hy => ih y (by have := Ex.wt_mem hy; omega) (by have := Ex.wt_mem hy; omega) (Ex.fine_mem hfi.2 hy)) (by omega) fun H => hR _ _ rfl
    | or l =>
      simp only [Ex.wt] at hw hx
      have hll := Ex.len_wtL hfi.2
      exact refRow_spec B hf hg _ l (.inr rfl) hfi.1 (fun y hy => ih y (by have := Ex.wt_mem hy; omega) (by have := Ex.wt_mem hy; omega) (Ex.fine_mem hfi.2 hy)) (by omega) fun H => hR _ _ rfl
    | k b =>
      unfold F.pref_Expr_Eval
      rw [k_ref]
      cases b with
      | true =>
        simp only [nd0, Y1n, Y1o, Y1p, Y1q, Y1w, Y1x, Y1y, Y1z, Y20, Y21, Y28, Y2a, AV.cells?, Nat.reduceAdd, Nat.reduceMul, show (AV.val (.string ⟨#[49]⟩)) = S [49] from rfl, show decide (kS true = [49]) = true from rfl]
        exact hR _ _ rfl
      | false =>
        simp only [nd0, Y1n, Y1o, Y1p, Y1q, Y1w, Y1x, Y1y, Y1z, Y20, Y21, Y28, Y2a, AV.cells?, Nat.reduceAdd, Nat.reduceMul, show (AV.val (.string ⟨#[49]⟩)) = S [49] from rfl, show (AV.val (.string ⟨#[98, 105, 116]⟩)) = S [98, 105, 116] from rfl, show (AV.val (.string ⟨#[94]⟩)) = S [94] from rfl, show (AV.val (.string ⟨#[126]⟩)) = S [126] from rfl, show (AV.val (.string ⟨#[33]⟩)) = S [33] from rfl,
          show decide (kS false = [49]) = false from rfl, show decide (kS false = [98, 105, 116]) = false from rfl, show decide (kS false = [94]) = false from rfl, show decide (kS false = [126]) = false from rfl, show decide (kS false = [33]) = false from rfl]
        refine wJoin.one (fun t H => t = Bo false ∧ ∃ n, H = ⟨[], n⟩) ?_ ?_
        · simp only [nd0, Y1n, Y1o, Y1p, Y1q, Y1w, Y1x, Y1y, Y1z, Y20, Y21, Y28, Y2a, AV.cells?, Nat.reduceAdd, Nat.reduceMul, show (AV.val (.string ⟨#[38]⟩)) = S [38] from rfl, show (AV.val (.string ⟨#[124]⟩)) = S [124] from rfl, show decide (kS false = [38]) = false from rfl, show decide (kS false = [124]) = false from rfl]
          exact gh1.mk ⟨rfl, _, rfl⟩
        rintro t H ⟨rfl, n1, rfl⟩
        simp only [nd0, Y1n, Y1o, Y1p, Y1q, Y1w, Y1x, Y1y, Y1z, Y20, Y21, Y28, Y2a, AV.cells?, Nat.reduceAdd, Nat.reduceMul]
        exact hR _ _ rfl
    | bit s =>
      unfold F.pref_Expr_Eval
      simp only [Ex.ref]
      simp only [nd0, Y1n, Y1o, Y1p, Y1q, Y1w, Y1x, Y1y, Y1z, Y20, Y21, Y28, Y2a, AV.cells?, Nat.reduceAdd, Nat.reduceMul, show (AV.val (.string ⟨#[49]⟩)) = S [49] from rfl, show (AV.val (.string ⟨#[98, 105, 116]⟩)) = S [98, 105, 116] from rfl, show decide (([98, 105, 116] : Str) = [49]) = false from rfl, show decide (([98, 105, 116] : Str) = [98, 105, 116]) = true from rfl]
      refine hf.call s fun n => ?_
      exact hR _ _ rfl
    | rise s =>
      unfold F.pref_Expr_Eval
      simp only [Ex.ref]
      simp only [nd0, Y1n, Y1o, Y1p, Y1q, Y1w, Y1x, Y1y, Y1z, Y20, Y21, Y28, Y2a, AV.cells?, Nat.reduceAdd, Nat.reduceMul, show (AV.val (.string ⟨#[49]⟩)) = S [49] from rfl, show (AV.val (.string ⟨#[98, 105, 116]⟩)) = S [98, 105, 116] from rfl, show (AV.val (.string ⟨#[94]⟩)) = S [94] from rfl, show decide (([94] : Str) = [49]) = false from rfl, show decide (([94] : Str) = [98, 105, 116]) = false from rfl, show decide (([94] : Str) = [94]) = true from rfl]
      refine hf.call s fun n => ?_
      cases hp : p s with
      | false => simp only [nd0, Y1n, Y1o, Y1p, Y1q, Y1w, Y1x, Y1y, Y1z, Y20, Y21, Y28, Y2a, AV.cells?, Nat.reduceAdd, Nat.reduceMul]; exact hR _ _ (by simp [Ex.says, hp])
      | true =>
        simp only [nd0, Y1n, Y1o, Y1p, Y1q, Y1w, Y1x, Y1y, Y1z, Y20, Y21, Y28, Y2a, AV.cells?, Nat.reduceAdd, Nat.reduceMul]
        refine hg.call s fun n => ?_
        simp only [nd0, Y1n, Y1o, Y1p, Y1q, Y1w, Y1x, Y1y, Y1z, Y20, Y21, Y28, Y2a, AV.cells?, Nat.reduceAdd, Nat.reduceMul]
        exact hR _ _ (by simp [Ex.says, hp])
    | fall s =>
      unfold F.pref_Expr_Eval
      simp only [Ex.ref]
      simp only [nd0, Y1n, Y1o, Y1p, Y1q, Y1w, Y1x, Y1y, Y1z, Y20, Y21, Y28, Y2a, AV.cells?, Nat.reduceAdd, Nat.reduceMul, show (AV.val (.string ⟨#[49]⟩)) = S [49] from rfl, show (AV.val (.string ⟨#[98, 105, 116]⟩)) = S [98, 105, 116] from rfl, show (AV.val (.string ⟨#[94]⟩)) = S [94] from rfl, show (AV.val (.string ⟨#[126]⟩)) = S [126] from rfl, show decide (([126] : Str) = [49]) = false from rfl, show decide (([126] : Str) = [98, 105, 116]) = false from rfl, show decide (([126] : Str) = [94]) = false from rfl, show decide (([126] : Str) = [126]) = true from rfl]
      refine hg.call s fun n => ?_
      cases hq : q s with
      | false => simp only [nd0, Y1n, Y1o, Y1p, Y1q, Y1w, Y1x, Y1y, Y1z, Y20, Y21, Y28, Y2a, AV.cells?, Nat.reduceAdd, Nat.reduceMul]; exact hR _ _ (by simp [Ex.says, hq])
      | true =>
        simp only [nd0, Y1n, Y1o, Y1p, Y1q, Y1w, Y1x, Y1y, Y1z, Y20, Y21, Y28, Y2a, AV.cells?, Nat.reduceAdd, Nat.reduceMul]
        refine hf.call s fun n => ?_
        simp only [nd0, Y1n, Y1o, Y1p, Y1q, Y1w, Y1x, Y1y, Y1z, Y20, Y21, Y28, Y2a, AV.cells?, Nat.reduceAdd, Nat.reduceMul]
        exact hR _ _ (by simp [Ex.says, hq])
    | not y =>
      unfold F.pref_Expr_Eval
      simp only [Ex.ref]
      simp only [Ex.wt] at hw hx
      simp only [nd0, Y1n, Y1o, Y1p, Y1q, Y1w, Y1x, Y1y, Y1z, Y20, Y21, Y28, Y2a, AV.cells?, Nat.reduceAdd, Nat.reduceMul, show (AV.val (.string ⟨#[49]⟩)) = S [49] from rfl, show (AV.val (.string ⟨#[98, 105, 116]⟩)) = S [98, 105, 116] from rfl, show (AV.val (.string ⟨#[94]⟩)) = S [94] from rfl, show (AV.val (.string ⟨#[126]⟩)) = S [126] from rfl, show (AV.val (.string ⟨#[33]⟩)) = S [33] from rfl,
        show decide (([33] : Str) = [49]) = false from rfl, show decide (([33] : Str) = [98, 105, 116]) = false from rfl, show decide (([33] : Str) = [94]) = false from rfl, show decide (([33] : Str) = [126]) = false from rfl, show decide (([33] : Str) = [33]) = true from rfl,
        show ∀ k : IntKind, iaddr 1 (.slN [y.ref] 1) (.val (.int k 0)) = some (.ptrF [y.ref] 0) from fun _ => rfl]
      refine wCall.fx (ih y (by omega) (by omega) hfi) fun n2 => ?_
      simp only [nd0, Y1n, Y1o, Y1p, Y1q, Y1w, Y1x, Y1y, Y1z, Y20, Y21, Y28, Y2a, AV.cells?, Nat.reduceAdd, Nat.reduceMul]
      exact hR _ _ rfl
theorem of_len (x : Ex) : ∃ l : List Ex, (x.of = .slN (Ex.refL l) l.length ∨ (x.of = nilS ∧ l = [])) ∧ x.size = Ex.sizeL l + 1 ∧ ∀ y ∈ l, y.wt < x.wt ∧ (x.fine → y.fine) := by
  cases x with
  | not y => exact ⟨[y], .inl rfl, by simp [Ex.size, Ex.sizeL], fun z hz => by simp at hz; subst hz; exact ⟨by simp [Ex.wt], fun h => h⟩⟩
  | and l => exact ⟨l, .inl rfl, rfl, fun z hz => ⟨by have := Ex.wt_mem hz; simp only [Ex.wt]; omega, fun h => Ex.fine_mem h.2 hz⟩⟩
  | or l => exact ⟨l, .inl rfl, rfl, fun z hz => ⟨by have := Ex.wt_mem hz; simp only [Ex.wt]; omega, fun h => Ex.fine_mem h.2 hz⟩⟩
  | _ => exact ⟨[], .inr ⟨rfl, rfl⟩, rfl, by simp⟩
theorem of_length {x : Ex} {l : List Ex} (h : x.of = .slN (Ex.refL l) l.length ∨ (x.of = nilS ∧ l = [])) : lenA x.of = some (Z l.length) := by
  rcases h with h | ⟨h, rfl⟩ <;> rw [h] <;> rfl
theorem refSize_spec (B : RefSaysBodies E P) : ∀ (n : Nat) (x : Ex), x.wt < n → x.wt ≤ 1000000 → x.fine → FX E P 186 [x.ref] (Z x.size) := by
  intro n
  induction n with
  | zero => intro x hx; omega
  | succ n ih =>
    intro x hx hw hfi
    refine FX.of' ⟨Ex.ref_closed x, trivial⟩ trivial fun c R hR => B.size _ _ _ ?_
    unfold F.pref_Expr_Size
    obtain ⟨l, hl, hs, hm⟩ := of_len x
    have hsz := Ex.size_wt x hfi
    rw [Ex.ref_eq]
    simp only [nd0, Y1n, Y1o, Y1p, Y1q, Y1w, Y1x, Y1y, Y1z, Y20, Y21, Y28, Y2a, AV.cells?, Nat.reduceAdd, Nat.reduceMul, of_length hl]
    refine wLoop.two (fun m t i H => ∃ pre rest c, l = pre ++ rest ∧ i = Z pre.length ∧ m = rest.length ∧ t = Z (Ex.sizeL pre + 1 : Nat) ∧ H = ⟨[], c⟩) l.length (gh2.mk ⟨[], l, _, rfl, rfl, rfl, rfl, rfl⟩) ?_
    rintro m t i H ⟨pre, rest, c, hpr, rfl, rfl, rfl, rfl⟩
    cases rest with
    | nil =>
      rw [List.append_nil] at hpr
      subst hpr
      simp only [nd0, Y1n, Y1o, Y1p, Y1q, Y1w, Y1x, Y1y, Y1z, Y20, Y21, Y28, Y2a, AV.cells?, Nat.reduceAdd, Nat.reduceMul, Int.lt_irrefl]
      exact hR _ _ (by rw [hs])
    | cons y rest =>
      have hym : y ∈ l := by rw [hpr]; simp
      have hlt : pre.length < l.length := by rw [hpr]; simp
      have hlo : x.of = .slN (Ex.refL l) l.length := by
        rcases hl with h | ⟨_, rfl⟩
        · exact h
        · simp at hym
      have hsum : Ex.sizeL l = Ex.sizeL pre + (y.size + Ex.sizeL rest) := by rw [hpr, sizeL_app]; rfl
      have hlen1 : ∀ m : List Ex, m.length ≤ Ex.sizeL m := fun m => by
        induction m with
        | nil => simp [Ex.sizeL]
        | cons a m ihm => have : 1 ≤ a.size := by cases a <;> simp [Ex.size]
                          simp only [List.length_cons, Ex.sizeL]; omega
      have := hlen1 pre
      obtain ⟨hy1, hy2⟩ := hm y hym
      simp only [nd0, Y1n, Y1o, Y1p, Y1q, Y1w, Y1x, Y1y, Y1z, Y20, Y21, Y28, Y2a, AV.cells?, Nat.reduceAdd, Nat.reduceMul, decide_eq_true (show (pre.length : Int) < (l.length : Int) by omega), hlo]
      rw [iaddr_Nn hlt]
      simp only [nd0, Y1n, Y1o, Y1p, Y1q, Y1w, Y1x, Y1y, Y1z, Y20, Y21, Y28, Y2a, AV.cells?, Nat.reduceAdd, Nat.reduceMul, show (Ex.refL l)[pre.length]? = some y.ref by rw [Ex.refL_map, hpr]; simp]
      refine wCall.fx (ih y (by omega) (by omega) (hy2 hfi)) fun n2 => ?_
      rw [binA_add (by omega), binA_succ (by omega)]
      simp only [nd0, Y1n, Y1o, Y1p, Y1q, Y1w, Y1x, Y1y, Y1z, Y20, Y21, Y28, Y2a, AV.cells?, Nat.reduceAdd, Nat.reduceMul]
      exact back2.mk rest.length (by simp) ⟨pre ++ [y], rest, _, by rw [hpr]; simp, by simp, rfl, by rw [sizeL_app]; simp [Ex.sizeL]; omega, rfl⟩
end
end Go.Sc
namespace Go.Sc
open Go
set_option linter.unusedSimpArgs false
set_option linter.unusedVariables false
set_option linter.unnecessarySimpa false
section
variable {E : Env} {P : Program}
/-- the walk's own value: it knows the kinds, the list, and itself -/
def wkF (kinds : Str) (g0 g1 : Nat) : AV := .fn 196 [] [.ptrF [S kinds] 0, .ptrL 0 0 g0, .ptrL 1 0 g1]
def SN (kinds : Str) (g0 g1 : Nat) (l : List Str) (H : AH) : Prop := ∃ x tb c, H = ⟨.cells g0 1 [x] :: .cells g1 1 [wkF kinds g0 g1] :: tb, c⟩ ∧ ((x = nilS ∧ l = [] ∧ tb = []) ∨ ∃ g2, x = .slL 2 0 l.length g2 ∧ tb = [.cells g2 1 (l.map fun s => S s)])
theorem insA_lt {s : Str} : ∀ {l : List Str} {i : Nat}, i < insA s l → ∃ x, l[i]? = some x ∧ x < s
  | [], i, h => by simp [insA] at h
  | y :: l, i, h => by
    simp only [insA] at h
    split at h
    · rename_i hy
      cases i with
      | zero => exact ⟨y, rfl, hy⟩
      | succ i => obtain ⟨x, h1, h2⟩ := insA_lt (s := s) (l := l) (i := i) (by omega); exact ⟨x, by simpa using h1, h2⟩
    · omega
theorem insA_stop {s x : Str} : ∀ {l : List Str}, l[insA s l]? = some x → ¬ x < s
  | [], h => by simp at h
  | y :: l, h => by
    by_cases hy : y < s
    · have e : insA s (y :: l) = insA s l + 1 := by simp [insA, hy]
      rw [e, List.getElem?_cons_succ] at h
      exact insA_stop h
    · have e : insA s (y :: l) = 0 := by simp [insA, hy]
      rw [e] at h
      simp at h; subst h; exact hy
theorem sliceL {b n g lo : Nat} {k : IntKind} {H : AH} {cs : List AV} (hb : H.bs[b]? = some (.cells g 1 cs)) (h : lo ≤ n) : sliceA 1 (.slL b 0 n g) (some (.val (.int k lo))) none H = some (.slL b lo (n - lo) g) := by
  simp [sliceA, bnd, AH.esz, hb]; omega
set_option maxHeartbeats 4000000 in
theorem put_spec (B : RefSaysBodies E P) {kinds : Str} (hks : kinds.length ≤ 1000) {g0 g1 : Nat} (x : Ex) {l : List Str} (hl : l.length < 10000000) {H : AH} (hH : SN kinds g0 g1 l H) (b : Bool) (hb : b = (decide (x.nm ≠ []) && Lib.contains kinds x.kind)) (k : KN 0)
    (hk : ∀ H, SN kinds g0 g1 (if b then insN l x.nm else l) H → k H) :
  wJoin 0 (fun J1 =>
    wGet (nilA x.ref) H fun t9 H =>
    wGet (faddr 1 t9) H fun t10 H =>
    wGet (load1 t10 H) H fun t11 H =>
    wGet (binA .neq t11 (.val (.string ⟨#[]⟩))) H fun t12 H =>
    wGuard t12 true H (fun k => wGet (load1 (.ptrF [S kinds] 0) H) H k) fun t14 H =>
    wGuard t12 true H (fun k => k x.ref H) fun t15 H =>
    wGuard t12 true H (fun k => wGet (nilA t15) H k) fun t16 H =>
    wGuard t12 true H (fun k => wGet (faddr 0 t16) H k) fun t17 H =>
    wGuard t12 true H (fun k => wGet (load1 t17 H) H k) fun t18 H =>
    wGuard t12 true H (fun k => wCall E P 199 [t14, t18] H k) fun t19 H =>
    wGet (pickA t12 t19 (.val (.bool false))) H fun t20 H =>
    wIf t20 (
      wLoop 1 (fun I2 => I2 (.val (.int .i64 0)) H) fun I2 t5 H =>
        wGet (load1 (.ptrL 0 0 g0) H) H fun t22 H =>
        wGet (lenA t22) H fun t23 H =>
        wGet (binA .lss t5 t23) H fun t24 H =>
        wGuard t24 true H (fun k => wGet (load1 (.ptrL 0 0 g0) H) H k) fun t26 H =>
        wGuard t24 true H (fun k => k t5 H) fun t27 H =>
        wGuard t24 true H (fun k => wGet (iaddr 1 t26 t27) H k) fun t28 H =>
        wGuard t24 true H (fun k => wGet (load1 t28 H) H k) fun t29 H =>
        wGuard t24 true H (fun k => k x.ref H) fun t30 H =>
        wGuard t24 true H (fun k => wGet (nilA t30) H k) fun t31 H =>
        wGuard t24 true H (fun k => wGet (faddr 1 t31) H k) fun t32 H =>
        wGuard t24 true H (fun k => wGet (load1 t32 H) H k) fun t33 H =>
        wGuard t24 true H (fun k => wGet (binA .lss t29 t33) H k) fun t34 H =>
        wGet (pickA t24 t34 (.val (.bool false))) H fun t35 H =>
        wIf t35 (
          wGet (binA .add t5 (.val (.int .i64 1))) H fun t37 H =>
          I2 t37 H) (
          wGet (load1 (.ptrL 0 0 g0) H) H fun t39 H =>
          wGet (lenA t39) H fun t40 H =>
          wGet (binA .eql t5 t40) H fun t41 H =>
          wGuard t41 false H (fun k => wGet (load1 (.ptrL 0 0 g0) H) H k) fun t43 H =>
          wGuard t41 false H (fun k => k t5 H) fun t44 H =>
          wGuard t41 false H (fun k => wGet (iaddr 1 t43 t44) H k) fun t45 H =>
          wGuard t41 false H (fun k => wGet (load1 t45 H) H k) fun t46 H =>
          wGuard t41 false H (fun k => k x.ref H) fun t47 H =>
          wGuard t41 false H (fun k => wGet (nilA t47) H k) fun t48 H =>
          wGuard t41 false H (fun k => wGet (faddr 1 t48) H k) fun t49 H =>
          wGuard t41 false H (fun k => wGet (load1 t49 H) H k) fun t50 H =>
          wGuard t41 false H (fun k => wGet (binA .neq t46 t50) H k) fun t51 H =>
          wGet (pickA t41 (.val (.bool true)) t51) H fun t52 H =>
          wIf t52 (
            wGet (load1 (.ptrL 0 0 g0) H) H fun t53 H =>
            wNewS 1 1 (fillA (List.replicate 1 [(.val (.string ⟨#[]⟩))]).flatten [(0, 1, (.val (.string ⟨#[]⟩)))]) H fun t54 H =>
            wApp 1 16 t53 t54 H fun t55 H =>
            wPut (store1 (.ptrL 0 0 g0) t55 H) fun _u H =>
            wGet (load1 (.ptrL 0 0 g0) H) H fun t56 H =>
            wGet (binA .add t5 (.val (.int .i64 1))) H fun t58 H =>
            wGet (sliceA 1 t56 (some t58) none H) H fun t59 H =>
            wGet (load1 (.ptrL 0 0 g0) H) H fun t60 H =>
            wGet (sliceA 1 t60 (some t5) none H) H fun t62 H =>
            wDo (copyA 1 t59 t62 H) fun t63 H =>
            wGet (load1 (.ptrL 0 0 g0) H) H fun t64 H =>
            wGet (nilA x.ref) H fun t67 H =>
            wGet (faddr 1 t67) H fun t68 H =>
            wGet (load1 t68 H) H fun t69 H =>
            wGet (iaddr 1 t64 t5) H fun t70 H =>
            wPut (store1 t70 t69 H) fun _u H =>
            J1 H) (
            J1 H))) (
      J1 H)) k := by
  refine wJoin.zero (SN kinds g0 g1 (if b then insN l x.nm else l)) ?_ hk
  obtain ⟨y, tb, c, rfl, ht⟩ := hH
  rw [Ex.ref_eq]
  simp only [nd0, Y1n, Y1o, Y1p, Y1q, Y1w, Y1x, Y1y, Y1z, Y20, Y21, Y28, Y2a, AV.cells?, Nat.reduceAdd, Nat.reduceMul, show (AV.val (.string ⟨#[]⟩)) = S [] from rfl]
  by_cases hn : x.nm = []
  · simp only [nd0, Y1n, Y1o, Y1p, Y1q, Y1w, Y1x, Y1y, Y1z, Y20, Y21, Y28, Y2a, AV.cells?, Nat.reduceAdd, Nat.reduceMul, decide_eq_true hn]
    refine gh0.mk ?_
    rw [show b = false by rw [hb]; simp [hn]]
    exact ⟨y, tb, c, rfl, ht⟩
  simp only [nd0, Y1n, Y1o, Y1p, Y1q, Y1w, Y1x, Y1y, Y1z, Y20, Y21, Y28, Y2a, AV.cells?, Nat.reduceAdd, Nat.reduceMul, decide_eq_false hn]
  refine wCall.fx (B.con kinds x.kind hks) fun n1 => ?_
  simp only [nd0, Y1n, Y1o, Y1p, Y1q, Y1w, Y1x, Y1y, Y1z, Y20, Y21, Y28, Y2a, AV.cells?, Nat.reduceAdd, Nat.reduceMul]
  cases hc : Lib.contains kinds x.kind with
  | false =>
    simp only [nd0, Y1n, Y1o, Y1p, Y1q, Y1w, Y1x, Y1y, Y1z, Y20, Y21, Y28, Y2a, AV.cells?, Nat.reduceAdd, Nat.reduceMul]
    refine gh0.mk ?_
    rw [show b = false by rw [hb]; simp [hn, hc]]
    exact ⟨y, tb, n1, rfl, ht⟩
  | true =>
    rw [show b = true by rw [hb]; simp [hn, hc], if_pos rfl]
    generalize hnm : x.nm = nm at hn
    have hlen : lenA y = some (Z l.length) := by rcases ht with ⟨rfl, rfl, _⟩ | ⟨g2, rfl, _⟩ <;> rfl
    have hal := insA_le nm l
    simp only [nd0, Y1n, Y1o, Y1p, Y1q, Y1w, Y1x, Y1y, Y1z, Y20, Y21, Y28, Y2a, AV.cells?, Nat.reduceAdd, Nat.reduceMul]
    refine wLoop.one (fun m i H => ∃ a : Nat, i = Z a ∧ a ≤ insA nm l ∧ m = insA nm l - a ∧ H = ⟨.cells g0 1 [y] :: .cells g1 1 [wkF kinds g0 g1] :: tb, n1⟩) (insA nm l) (gh1.mk ⟨0, rfl, by omega, by omega, rfl⟩) ?_
    rintro m i H ⟨a, rfl, ha, rfl, rfl⟩
    simp only [nd0, Y1n, Y1o, Y1p, Y1q, Y1w, Y1x, Y1y, Y1z, Y20, Y21, Y28, Y2a, AV.cells?, Nat.reduceAdd, Nat.reduceMul, hlen]
    have hread : ∀ a < l.length, ∃ g2, y = .slL 2 0 l.length g2 ∧ tb = [.cells g2 1 (l.map fun s => S s)] := fun a h => by
      rcases ht with ⟨_, rfl, _⟩ | h'
      · simp at h
      · exact h'
    rcases Nat.lt_or_ge a (insA nm l) with hlt | hge
    · obtain ⟨z, hz1, hz2⟩ := insA_lt hlt
      have hal2 : a < l.length := by omega
      obtain ⟨g2, rfl, rfl⟩ := hread a hal2
      simp only [nd0, Y1n, Y1o, Y1p, Y1q, Y1w, Y1x, Y1y, Y1z, Y20, Y21, Y28, Y2a, AV.cells?, Nat.reduceAdd, Nat.reduceMul, decide_eq_true (show (a : Int) < (l.length : Int) by omega)]
      rw [iaddr_Ln hal2]
      simp only [nd0, Y1n, Y1o, Y1p, Y1q, Y1w, Y1x, Y1y, Y1z, Y20, Y21, Y28, Y2a, AV.cells?, Nat.reduceAdd, Nat.reduceMul, show (l.map fun s => S s)[a]? = some (S z) by rw [List.getElem?_map, hz1]; rfl, binA_slt, decide_eq_true hz2]
      rw [binA_succ (by omega)]
      simp only [nd0, Y1n, Y1o, Y1p, Y1q, Y1w, Y1x, Y1y, Y1z, Y20, Y21, Y28, Y2a, AV.cells?, Nat.reduceAdd, Nat.reduceMul]
      exact back1.mk _ (by omega) ⟨a + 1, rfl, by omega, rfl, rfl⟩
    · have hae : a = insA nm l := by omega
      -- the place is found
      have hplace : ∀ (K1 K2 : Prop), (l[a]? = some nm → K2) → (l[a]? ≠ some nm → K1) → (if l[a]? = some nm then K2 else K1) := fun K1 K2 h2 h1 => by split <;> simp_all
      by_cases hend : a = l.length
      · -- at the end
        simp only [nd0, Y1n, Y1o, Y1p, Y1q, Y1w, Y1x, Y1y, Y1z, Y20, Y21, Y28, Y2a, AV.cells?, Nat.reduceAdd, Nat.reduceMul, decide_eq_false (show ¬ (a : Int) < (l.length : Int) by omega), hlen, decide_eq_true (show (a : Int) = (l.length : Int) by omega)]
        have hins : insN l nm = l ++ [nm] := by
          unfold insN
          rw [← hae, hend]; simp
        refine wNewS.F' (l := [S []]) rfl rfl ?_
        rcases ht with ⟨rfl, rfl, rfl⟩ | ⟨g2, rfl, rfl⟩
        · have : a = 0 := by simpa using hend
          subst this
          refine ⟨_, _, .old (r := .slL 2 0 1 n1) (H' := ⟨[.cells g0 1 [nilS], .cells g1 1 [wkF kinds g0 g1], .cells n1 1 [S []]], n1 + 1⟩) rfl, ?_⟩
          rw [store1_L rfl]
          simp only [nd0, Y1n, Y1o, Y1p, Y1q, Y1w, Y1x, Y1y, Y1z, Y20, Y21, Y28, Y2a, AV.cells?, Nat.reduceAdd, Nat.reduceMul, Nat.reduceLT]
          rw [show (((0 : Nat) : Int)) = 0 from rfl, binA_add (by omega)]
          simp only [nd0, Y1n, Y1o, Y1p, Y1q, Y1w, Y1x, Y1y, Y1z, Y20, Y21, Y28, Y2a, AV.cells?, Nat.reduceAdd, Nat.reduceMul]
          rw [show sliceA 1 (.slL 2 0 1 n1) (some (Z (0 + 1))) none ⟨[.cells g0 1 [.slL 2 0 1 n1], .cells g1 1 [wkF kinds g0 g1], .cells n1 1 [S []]], n1 + 1⟩ = some (.slL 2 1 0 n1) by simp [sliceA, bnd, AH.esz]]
          simp only [nd0, Y1n, Y1o, Y1p, Y1q, Y1w, Y1x, Y1y, Y1z, Y20, Y21, Y28, Y2a, AV.cells?, Nat.reduceAdd, Nat.reduceMul]
          rw [show sliceA 1 (.slL 2 0 1 n1) (some (Z 0)) none ⟨[.cells g0 1 [.slL 2 0 1 n1], .cells g1 1 [wkF kinds g0 g1], .cells n1 1 [S []]], n1 + 1⟩ = some (.slL 2 0 1 n1) by simp [sliceA, bnd, AH.esz]]
          simp only [nd0, Y1n, Y1o, Y1p, Y1q, Y1w, Y1x, Y1y, Y1z, Y20, Y21, Y28, Y2a, AV.cells?, Nat.reduceAdd, Nat.reduceMul]
          rw [show copyA 1 (.slL 2 1 0 n1) (.slL 2 0 1 n1) ⟨[.cells g0 1 [.slL 2 0 1 n1], .cells g1 1 [wkF kinds g0 g1], .cells n1 1 [S []]], n1 + 1⟩ = some (Z 0, ⟨[.cells g0 1 [.slL 2 0 1 n1], .cells g1 1 [wkF kinds g0 g1], .cells n1 1 [S []]], n1 + 1⟩) by simp [copyA, lenA, shortA, cellsOfA, AH.cells, subL]]
          simp only [nd0, Y1n, Y1o, Y1p, Y1q, Y1w, Y1x, Y1y, Y1z, Y20, Y21, Y28, Y2a, AV.cells?, Nat.reduceAdd, Nat.reduceMul]
          rw [show iaddr 1 (.slL 2 0 1 n1) (Z 0) = some (.ptrL 2 0 n1) by simp [iaddr]]
          simp only [nd0, Y1n, Y1o, Y1p, Y1q, Y1w, Y1x, Y1y, Y1z, Y20, Y21, Y28, Y2a, AV.cells?, Nat.reduceAdd, Nat.reduceMul]
          rw [store1_L rfl]
          simp only [nd0, Y1n, Y1o, Y1p, Y1q, Y1w, Y1x, Y1y, Y1z, Y20, Y21, Y28, Y2a, AV.cells?, Nat.reduceAdd, Nat.reduceMul, Nat.reduceLT]
          refine gh0.mk ⟨.slL 2 0 1 n1, _, _, rfl, .inr ⟨n1, ?_, ?_⟩⟩
          · rw [hins]; rfl
          · rw [hins]; rfl
        · have happ : appendA 1 16 (.slL 2 0 l.length g2) (.slN [S []] 1) ⟨[.cells g0 1 [.slL 2 0 l.length g2], .cells g1 1 [wkF kinds g0 g1], .cells g2 1 (l.map fun s => S s)], n1⟩
              = some (.slL 2 0 (l.length + 1) n1, ⟨[.cells g0 1 [.slL 2 0 l.length g2], .cells g1 1 [wkF kinds g0 g1], .cells n1 1 ((l ++ [[]]).map fun s => S s)], n1 + 1⟩) := by
            have hb : (l.length + 1) * 16 ≤ mostBytes ∧ l.length + 1 ≤ mostBytes := by simp [mostBytes]; omega
            simp [appendA, cellsOfA, subL, AH.cells, AH.esz, hb, AV.scalar]
          refine ⟨_, _, .old happ, ?_⟩
          rw [store1_L rfl]
          simp only [nd0, Y1n, Y1o, Y1p, Y1q, Y1w, Y1x, Y1y, Y1z, Y20, Y21, Y28, Y2a, AV.cells?, Nat.reduceAdd, Nat.reduceMul, Nat.reduceLT]
          rw [binA_succ (by omega)]
          simp only [nd0, Y1n, Y1o, Y1p, Y1q, Y1w, Y1x, Y1y, Y1z, Y20, Y21, Y28, Y2a, AV.cells?, Nat.reduceAdd, Nat.reduceMul]
          rw [sliceL (cs := (l ++ [[]]).map fun s => S s) rfl (by omega)]
          simp only [nd0, Y1n, Y1o, Y1p, Y1q, Y1w, Y1x, Y1y, Y1z, Y20, Y21, Y28, Y2a, AV.cells?, Nat.reduceAdd, Nat.reduceMul]
          rw [sliceL (cs := (l ++ [[]]).map fun s => S s) rfl (by omega)]
          simp only [nd0, Y1n, Y1o, Y1p, Y1q, Y1w, Y1x, Y1y, Y1z, Y20, Y21, Y28, Y2a, AV.cells?, Nat.reduceAdd, Nat.reduceMul]
          have hcp : copyA 1 (.slL 2 (a + 1) (l.length + 1 - (a + 1)) n1) (.slL 2 a (l.length + 1 - a) n1) ⟨[.cells g0 1 [.slL 2 0 (l.length + 1) n1], .cells g1 1 [wkF kinds g0 g1], .cells n1 1 ((l ++ [[]]).map fun s => S s)], n1 + 1⟩ = some (Z 0, ⟨[.cells g0 1 [.slL 2 0 (l.length + 1) n1], .cells g1 1 [wkF kinds g0 g1], .cells n1 1 ((l ++ [[]]).map fun s => S s)], n1 + 1⟩) := by simp [copyA, lenA, shortA, cellsOfA, AH.cells, subL, hend]
          rw [hcp]
          simp only [nd0, Y1n, Y1o, Y1p, Y1q, Y1w, Y1x, Y1y, Y1z, Y20, Y21, Y28, Y2a, AV.cells?, Nat.reduceAdd, Nat.reduceMul]
          rw [iaddr_Ln (show a < l.length + 1 by omega)]
          simp only [nd0, Y1n, Y1o, Y1p, Y1q, Y1w, Y1x, Y1y, Y1z, Y20, Y21, Y28, Y2a, AV.cells?, Nat.reduceAdd, Nat.reduceMul]
          rw [store1_L rfl]
          simp only [nd0, Y1n, Y1o, Y1p, Y1q, Y1w, Y1x, Y1y, Y1z, Y20, Y21, Y28, Y2a, AV.cells?, Nat.reduceAdd, Nat.reduceMul, show a < ((l ++ [[]]).map fun s => S s).length by simp; omega]
          refine gh0.mk ⟨.slL 2 0 (l.length + 1) n1, _, _, rfl, .inr ⟨n1, ?_, ?_⟩⟩
          · rw [hins]; simp
          · rw [hins, hend]; simp
      · have hal2 : a < l.length := by omega
        obtain ⟨g2, rfl, rfl⟩ := hread a hal2
        obtain ⟨z, hz⟩ : ∃ z, l[a]? = some z := ⟨l[a], by simp [hal2]⟩
        have hns : ¬ z < nm := insA_stop (by rw [← hae]; exact hz)
        simp only [nd0, Y1n, Y1o, Y1p, Y1q, Y1w, Y1x, Y1y, Y1z, Y20, Y21, Y28, Y2a, AV.cells?, Nat.reduceAdd, Nat.reduceMul, decide_eq_true (show (a : Int) < (l.length : Int) by omega), decide_eq_false (show ¬ (a : Int) = (l.length : Int) by omega)]
        rw [iaddr_Ln hal2]
        simp only [nd0, Y1n, Y1o, Y1p, Y1q, Y1w, Y1x, Y1y, Y1z, Y20, Y21, Y28, Y2a, AV.cells?, Nat.reduceAdd, Nat.reduceMul, show (l.map fun s => S s)[a]? = some (S z) by rw [List.getElem?_map, hz]; rfl, binA_slt, decide_eq_false hns, decide_eq_false (show ¬ (a : Int) = (l.length : Int) by omega)]
        rw [iaddr_Ln hal2]
        simp only [nd0, Y1n, Y1o, Y1p, Y1q, Y1w, Y1x, Y1y, Y1z, Y20, Y21, Y28, Y2a, AV.cells?, Nat.reduceAdd, Nat.reduceMul, show (l.map fun s => S s)[a]? = some (S z) by rw [List.getElem?_map, hz]; rfl]
        by_cases hzn : z = nm
        · simp only [nd0, Y1n, Y1o, Y1p, Y1q, Y1w, Y1x, Y1y, Y1z, Y20, Y21, Y28, Y2a, AV.cells?, Nat.reduceAdd, Nat.reduceMul, decide_eq_true hzn]
          have hins : insN l nm = l := by
            unfold insN
            rw [← hae, hz, hzn, if_pos rfl]
          refine gh0.mk ?_
          rw [hins]
          exact ⟨_, _, _, rfl, .inr ⟨g2, rfl, rfl⟩⟩
        · simp only [nd0, Y1n, Y1o, Y1p, Y1q, Y1w, Y1x, Y1y, Y1z, Y20, Y21, Y28, Y2a, AV.cells?, Nat.reduceAdd, Nat.reduceMul, decide_eq_false hzn]
          have hins : insN l nm = l.take a ++ nm :: l.drop a := by
            unfold insN
            rw [← hae, hz, if_neg (by simpa using hzn)]
          refine wNewS.F' (l := [S []]) rfl rfl ?_
          have happ : appendA 1 16 (.slL 2 0 l.length g2) (.slN [S []] 1) ⟨[.cells g0 1 [.slL 2 0 l.length g2], .cells g1 1 [wkF kinds g0 g1], .cells g2 1 (l.map fun s => S s)], n1⟩
              = some (.slL 2 0 (l.length + 1) n1, ⟨[.cells g0 1 [.slL 2 0 l.length g2], .cells g1 1 [wkF kinds g0 g1], .cells n1 1 ((l ++ [[]]).map fun s => S s)], n1 + 1⟩) := by
            have hb : (l.length + 1) * 16 ≤ mostBytes ∧ l.length + 1 ≤ mostBytes := by simp [mostBytes]; omega
            simp [appendA, cellsOfA, subL, AH.cells, AH.esz, hb, AV.scalar]
          refine ⟨_, _, .old happ, ?_⟩
          rw [store1_L rfl]
          simp only [nd0, Y1n, Y1o, Y1p, Y1q, Y1w, Y1x, Y1y, Y1z, Y20, Y21, Y28, Y2a, AV.cells?, Nat.reduceAdd, Nat.reduceMul, Nat.reduceLT]
          rw [binA_succ (by omega)]
          simp only [nd0, Y1n, Y1o, Y1p, Y1q, Y1w, Y1x, Y1y, Y1z, Y20, Y21, Y28, Y2a, AV.cells?, Nat.reduceAdd, Nat.reduceMul]
          rw [sliceL (cs := (l ++ [[]]).map fun s => S s) rfl (by omega)]
          simp only [nd0, Y1n, Y1o, Y1p, Y1q, Y1w, Y1x, Y1y, Y1z, Y20, Y21, Y28, Y2a, AV.cells?, Nat.reduceAdd, Nat.reduceMul]
          rw [sliceL (cs := (l ++ [[]]).map fun s => S s) rfl (by omega)]
          simp only [nd0, Y1n, Y1o, Y1p, Y1q, Y1w, Y1x, Y1y, Y1z, Y20, Y21, Y28, Y2a, AV.cells?, Nat.reduceAdd, Nat.reduceMul]
          have hmin : min (l.length + 1 - a) (l.length + 1 - (a + 1)) = l.length - a := by omega
          have hcopy : copyA 1 (.slL 2 (a + 1) (l.length + 1 - (a + 1)) n1) (.slL 2 a (l.length + 1 - a) n1) ⟨[.cells g0 1 [.slL 2 0 (l.length + 1) n1], .cells g1 1 [wkF kinds g0 g1], .cells n1 1 ((l ++ [[]]).map fun s => S s)], n1 + 1⟩
              = some (Z (l.length - a : Nat), ⟨[.cells g0 1 [.slL 2 0 (l.length + 1) n1], .cells g1 1 [wkF kinds g0 g1], .cells n1 1 ((l.take a ++ z :: l.drop a).map fun s => S s)], n1 + 1⟩) := by
            have h0 : ¬ (l.length - a = 0) := by omega
            have hd : ((((l ++ [[]]).map fun s => S s).drop a).take (l.length - a)) = (l.drop a).map fun s => S s := by
              rw [← List.map_drop, ← List.map_take, List.drop_append_of_le_length (by omega), List.take_append_of_le_length (by simp), List.take_of_length_le (by simp)]
            have hput : putL ((l ++ [[]]).map fun s => S s) (a + 1) ((l.drop a).map fun s => S s) = some ((l.take a ++ z :: l.drop a).map fun s => S s) := by
              have hlst : (l ++ [[]]).take (a + 1) ++ l.drop a ++ (l ++ [[]]).drop (a + 1 + (l.drop a).length) = l.take a ++ z :: l.drop a := by
                have hz2 : (l ++ [[]]).drop (a + 1 + (l.drop a).length) = [] := List.drop_eq_nil_of_le (by simp; omega)
                rw [hz2, List.append_nil, List.take_append_of_le_length (by omega), List.take_add_one, hz]
                simp
              unfold putL
              rw [if_pos (by simp only [List.length_map, List.length_append, List.length_drop, List.length_cons, List.length_nil]; omega), ← List.map_take, List.length_map, ← List.map_drop, ← List.map_append, ← List.map_append, hlst]
            have hsc : ((l.drop a).map fun s => S s).all AV.scalar = true := by
              rw [List.all_eq_true]; intro w hw; obtain ⟨_, _, rfl⟩ := List.mem_map.1 hw; rfl
            have hsub : subL ((l ++ [[]]).map fun s => S s) a (l.length - a) = some ((l.drop a).map fun s => S s) := by unfold subL; rw [if_pos (by simp only [List.length_map, List.length_append, List.length_cons, List.length_nil]; omega), hd]
            simp only [copyA, lenA, Int.toNat_natCast, hmin, shortA]
            rw [if_pos (by omega)]
            simp only [Option.bind_some, cellsOfA, AH.cells, List.getElem?_cons_succ, List.getElem?_cons_zero, if_true, Nat.mul_one]
            rw [hsub]
            simp only [Option.map_some, Option.bind_some]
            rw [if_pos hsc, if_neg h0]
            rw [storeN_L (by simp) hsc]
            simp only [List.getElem?_cons_succ, List.getElem?_cons_zero, blkDo_self, hput, Option.map_some, List.set_cons_succ, List.set_cons_zero]
          rw [hcopy]
          simp only [nd0, Y1n, Y1o, Y1p, Y1q, Y1w, Y1x, Y1y, Y1z, Y20, Y21, Y28, Y2a, AV.cells?, Nat.reduceAdd, Nat.reduceMul]
          rw [iaddr_Ln (show a < l.length + 1 by omega)]
          simp only [nd0, Y1n, Y1o, Y1p, Y1q, Y1w, Y1x, Y1y, Y1z, Y20, Y21, Y28, Y2a, AV.cells?, Nat.reduceAdd, Nat.reduceMul]
          rw [store1_L rfl]
          simp only [nd0, Y1n, Y1o, Y1p, Y1q, Y1w, Y1x, Y1y, Y1z, Y20, Y21, Y28, Y2a, AV.cells?, Nat.reduceAdd, Nat.reduceMul, show a < ((l.take a ++ z :: l.drop a).map fun s => S s).length by simp; omega]
          refine gh0.mk ⟨.slL 2 0 (l.length + 1) n1, _, _, rfl, .inr ⟨n1, ?_, ?_⟩⟩
          · rw [hins]; simp; omega
          · rw [hins]
            congr 2
            rw [show (S nm : AV) = (fun s => S s) nm from rfl, ← List.map_set]
            congr 1
            rw [List.set_append_right _ _ (by simp; omega)]
            simp [show min a l.length = a by omega]
def NamedOk (E : Env) (P : Program) (kinds : Str) (nf : Ex → Str) (x : Ex) : Prop := ∀ (g0 g1 : Nat) (l : List Str) (H : AH), l.length + x.size < 10000000 → SN kinds g0 g1 l H → ACalls E P 196 [x.ref, .ptrF [S kinds] 0, .ptrL 0 0 g0, .ptrL 1 0 g1] H fun r H' => r = .tup [] ∧ SN kinds g0 g1 (insAll l (x.raw nf)) H'
theorem namedL_spec {kinds : Str} {nf : Ex → Str} {g0 g1 : Nat} (xs : List Ex) {o : AV} (ho : o = .slN (Ex.refL xs) xs.length ∨ (o = nilS ∧ xs = [])) (hx : ∀ x ∈ xs, NamedOk E P kinds nf x) (hlen : xs.length < 10000000) (l : List Str) (hn : l.length + Ex.sizeL xs < 10000000) {H0 : AH} (hH0 : SN kinds g0 g1 l H0) {R : Kt} (hR : ∀ H, SN kinds g0 g1 (insAll l (Ex.rawL nf xs)) H → R (.tup []) H) :
    wLoop 1 (fun I3 => I3 (.val (.int .i64 0)) H0) fun I3 t76 H =>
      wGet (binA .lss t76 (Z xs.length)) H fun t77 H =>
      wIf t77 (
        wGet (iaddr 1 o t76) H fun t78 H =>
        wGet (load1 t78 H) H fun t79 H =>
        wGet (load1 (.ptrL 1 0 g1) H) H fun t80 H =>
        wCallV E P t80 [t79] H fun t82 H =>
        wGet (binA .add t76 (.val (.int .i64 1))) H fun t83 H =>
        I3 t83 H) (
        R (.tup []) H) := by
  refine wLoop.one (fun m i H => ∃ pre r, xs = pre ++ r ∧ i = Z pre.length ∧ m = r.length ∧ SN kinds g0 g1 (insAll l (Ex.rawL nf pre)) H) xs.length (gh1.mk ⟨[], xs, rfl, rfl, rfl, by simpa [Ex.rawL, insAll] using hH0⟩) ?_
  rintro m i H ⟨pre, r, hpr, rfl, rfl, hH⟩
  cases r with
  | nil =>
    rw [List.append_nil] at hpr
    subst hpr
    simp only [nd0, Y1n, Y1o, Y1p, Y1q, Y1w, Y1x, Y1y, Y1z, Y20, Y21, Y28, Y2a, AV.cells?, Nat.reduceAdd, Nat.reduceMul, Int.lt_irrefl]
    exact hR _ hH
  | cons x r =>
    have hxm : x ∈ xs := by rw [hpr]; simp
    have hlt : pre.length < xs.length := by rw [hpr]; simp
    have ho' : o = .slN (Ex.refL xs) xs.length := by
      rcases ho with h | ⟨_, rfl⟩
      · exact h
      · simp at hxm
    have hsum : Ex.sizeL xs = Ex.sizeL pre + (x.size + Ex.sizeL r) := by rw [hpr, sizeL_app]; rfl
    have hrl := Ex.rawL_len nf pre
    have hil := insAll_length (Ex.rawL nf pre) l
    simp only [nd0, Y1n, Y1o, Y1p, Y1q, Y1w, Y1x, Y1y, Y1z, Y20, Y21, Y28, Y2a, AV.cells?, Nat.reduceAdd, Nat.reduceMul, decide_eq_true (show (pre.length : Int) < (xs.length : Int) by omega), ho']
    rw [iaddr_Nn hlt]
    obtain ⟨y, tb, c, rfl, ht⟩ := hH
    simp only [nd0, Y1n, Y1o, Y1p, Y1q, Y1w, Y1x, Y1y, Y1z, Y20, Y21, Y28, Y2a, AV.cells?, Nat.reduceAdd, Nat.reduceMul, show (Ex.refL xs)[pre.length]? = some x.ref by rw [Ex.refL_map, hpr]; simp]
    refine ⟨⟨196, [], _, rfl, _, hx x hxm g0 g1 _ _ (by omega) ⟨y, tb, c, rfl, ht⟩, ?_⟩⟩
    rintro rr H' ⟨rfl, hH'⟩
    rw [binA_succ (by omega)]
    simp only [nd0, Y1n, Y1o, Y1p, Y1q, Y1w, Y1x, Y1y, Y1z, Y20, Y21, Y28, Y2a, AV.cells?, Nat.reduceAdd, Nat.reduceMul]
    refine back1.mk r.length (by simp) ⟨pre ++ [x], r, by rw [hpr]; simp, by simp, rfl, ?_⟩
    rw [Ex.rawL_append, insAll_append]
    simpa [Ex.rawL] using hH'
theorem of_full (x : Ex) : ∃ l : List Ex, (x.of = .slN (Ex.refL l) l.length ∨ (x.of = nilS ∧ l = [])) ∧ x.size = Ex.sizeL l + 1 ∧ (∀ y ∈ l, y.wt < x.wt ∧ (x.fine → y.fine)) ∧ ∀ nf : Ex → Str, x.raw nf = nmL nf x ++ Ex.rawL nf l := by
  cases x with
  | not y => exact ⟨[y], .inl rfl, by simp [Ex.size, Ex.sizeL], fun z hz => by simp at hz; subst hz; exact ⟨by simp [Ex.wt], fun h => h⟩, fun nf => by simp [Ex.raw, Ex.rawL]⟩
  | and l => exact ⟨l, .inl rfl, rfl, fun z hz => ⟨by have := Ex.wt_mem hz; simp only [Ex.wt]; omega, fun h => Ex.fine_mem h.2 hz⟩, fun nf => rfl⟩
  | or l => exact ⟨l, .inl rfl, rfl, fun z hz => ⟨by have := Ex.wt_mem hz; simp only [Ex.wt]; omega, fun h => Ex.fine_mem h.2 hz⟩, fun nf => rfl⟩
  | _ => exact ⟨[], .inr ⟨rfl, rfl⟩, rfl, by simp, fun nf => by simp [Ex.raw, Ex.rawL]⟩
theorem sizeL_len : ∀ m : List Ex, m.length ≤ Ex.sizeL m
  | [] => by simp [Ex.sizeL]
  | a :: m => by
    have h1 : 1 ≤ a.size := by cases a <;> simp [Ex.size]
    have h2 := sizeL_len m
    simp only [List.length_cons, Ex.sizeL]; omega
theorem nameOk_ne {s : Str} (h : nameOk s = true) : s ≠ [] := by rintro rfl; simp [nameOk] at h
theorem con1 : Lib.contains [98, 105, 116, 94, 126] [98, 105, 116] = true := by decide
theorem con2 : Lib.contains [98, 105, 116, 94, 126] [94] = true := by decide
theorem con3 : Lib.contains [98, 105, 116, 94, 126] [126] = true := by decide
theorem con4 : Lib.contains [94, 126] [98, 105, 116] = false := by decide
theorem con5 : Lib.contains [94, 126] [94] = true := by decide
theorem con6 : Lib.contains [94, 126] [126] = true := by decide
theorem named1_ok (B : RefSaysBodies E P) {kinds : Str} (hks : kinds.length ≤ 1000) {nf : Ex → Str} (hnf : ∀ x : Ex, x.fine → (decide (x.nm ≠ []) && Lib.contains kinds x.kind) = decide (nf x ≠ []) ∧ (nf x ≠ [] → nf x = x.nm)) : ∀ (n : Nat) (x : Ex), x.wt < n → x.wt ≤ 1000000 → x.fine → NamedOk E P kinds nf x := by
  intro n
  induction n with
  | zero => intro x hx; omega
  | succ n ih =>
    intro x hx hw hfi g0 g1 l H hn hH
    refine B.named1 _ _ _ _ _ _ ?_
    unfold F.pref_Expr_named_c1
    obtain ⟨h1, h2⟩ := hnf x hfi
    obtain ⟨xs, ho, hs, hm, hraw⟩ := of_full x
    have hsz := Ex.size_wt x hfi
    refine put_spec B hks x (by omega) hH (decide (nf x ≠ [])) h1.symm _ fun H1 hH1 => ?_
    have hH1' : SN kinds g0 g1 (insAll l (nmL nf x)) H1 := by
      unfold nmL
      by_cases h0 : nf x = []
      · simpa [h0, insAll] using hH1
      · rw [if_neg h0, h2 h0]
        rw [decide_eq_true h0] at hH1
        exact hH1
    have hil := insAll_length (nmL nf x) l
    have hnl := nmL_len nf x
    have hll := sizeL_len xs
    rw [Ex.ref_eq]
    simp only [nd0, Y1n, Y1o, Y1p, Y1q, Y1w, Y1x, Y1y, Y1z, Y20, Y21, Y28, Y2a, AV.cells?, Nat.reduceAdd, Nat.reduceMul, of_length ho]
    refine namedL_spec (R := fun r H' => True ∧ SN kinds g0 g1 (insAll l (x.raw nf)) H') xs ho (fun y hy => ih y (by have := (hm y hy).1; omega) (by have := (hm y hy).1; omega) ((hm y hy).2 hfi)) (by omega) _ (by omega) hH1' fun H2 hH2 => ⟨trivial, ?_⟩
    rw [hraw nf, insAll_append]
    exact hH2
theorem named_spec (B : RefSaysBodies E P) {kinds : Str} (hks : kinds.length ≤ 1000) {nf : Ex → Str} (hnf : ∀ x : Ex, x.fine → (decide (x.nm ≠ []) && Lib.contains kinds x.kind) = decide (nf x ≠ []) ∧ (nf x ≠ [] → nf x = x.nm)) (x : Ex) (hw : x.wt ≤ 1000000) (hfi : x.fine) : FX E P 191 [x.ref, S kinds] (Lm S (onceS (x.raw nf))) := by
  refine FX.of ⟨Ex.ref_closed x, trivial, trivial⟩ (closed_S _) fun n R hR => B.named _ _ _ _ ?_
  unfold F.pref_Expr_named
  rw [cells?_scalar (show (S kinds : AV).scalar = true from rfl)]
  refine wNew.F' rfl ?_
  refine wNew.L (l := [nilS]) rfl ?_
  refine wNew.L (l := [.val .nilFunc]) rfl ?_
  simp only [nd0, Y1n, Y1o, Y1p, Y1q, Y1w, Y1x, Y1y, Y1z, Y20, Y21, Y28, Y2a, AV.cells?, Nat.reduceAdd, Nat.reduceMul]
  rw [store1_L rfl]
  simp only [nd0, Y1n, Y1o, Y1p, Y1q, Y1w, Y1x, Y1y, Y1z, Y20, Y21, Y28, Y2a, AV.cells?, Nat.reduceAdd, Nat.reduceMul, Nat.reduceLT]
  have hsz := Ex.size_wt x hfi
  refine ⟨⟨196, [], _, rfl, _, named1_ok B hks hnf (x.wt + 1) x (by omega) hw hfi n (n + 1) [] _ (by simp; omega) ⟨nilS, [], _, rfl, .inl ⟨rfl, rfl, rfl⟩⟩, ?_⟩⟩
  rintro r H' ⟨rfl, y, tb, c, rfl, ht⟩
  rw [insAll_once] at ht
  simp only [nd0, Y1n, Y1o, Y1p, Y1q, Y1w, Y1x, Y1y, Y1z, Y20, Y21, Y28, Y2a, AV.cells?, Nat.reduceAdd, Nat.reduceMul]
  rcases ht with ⟨rfl, hz, rfl⟩ | ⟨g2, rfl, rfl⟩
  · refine hR _ _ ?_
    rw [hz]
    exact .sub .nil
  · refine hR _ _ ?_
    refine Fk.then (Fk.slF (b := 2) (ys := (onceS (x.raw nf)).map fun s => S s) (onceS (x.raw nf)).length rfl rfl ?_) .F'
    rw [List.drop_zero, List.take_of_length_le (by simp)]
    exact FkL.same _
theorem refNames_spec (B : RefSaysBodies E P) (x : Ex) (hw : x.wt ≤ 1000000) (hfi : x.fine) : FX E P 182 [x.ref] (Lm S (onceS (x.raw nf1))) := by
  refine FX.of ⟨Ex.ref_closed x, trivial⟩ (closed_S _) fun n R hR => B.names _ _ _ ?_
  unfold F.pref_Expr_Names
  refine wCall.fx (named_spec (nf := nf1) B (by simp) (fun y hy => ?_) x hw hfi) fun n1 => hR _ _ (.same _)
  cases y with
  | k b => cases b <;> exact ⟨by decide, by simp [nf1]⟩
  | bit s => exact ⟨by simp [Ex.nm, Ex.kind, nf1, nameOk_ne hy, con1, con2, con3, con5, con6], by simp [nf1, Ex.nm]⟩
  | rise s => exact ⟨by simp [Ex.nm, Ex.kind, nf1, nameOk_ne hy, con1, con2, con3, con5, con6], by simp [nf1, Ex.nm]⟩
  | fall s => exact ⟨by simp [Ex.nm, Ex.kind, nf1, nameOk_ne hy, con1, con2, con3, con5, con6], by simp [nf1, Ex.nm]⟩
  | _ => exact ⟨by simp [Ex.nm, nf1], by simp [nf1]⟩
theorem refEdges_spec (B : RefSaysBodies E P) (x : Ex) (hw : x.wt ≤ 1000000) (hfi : x.fine) : FX E P 185 [x.ref] (Lm S (onceS (x.raw nf2))) := by
  refine FX.of ⟨Ex.ref_closed x, trivial⟩ (closed_S _) fun n R hR => B.edges _ _ _ ?_
  unfold F.pref_Expr_Edges
  refine wCall.fx (named_spec (nf := nf2) B (by simp) (fun y hy => ?_) x hw hfi) fun n1 => hR _ _ (.same _)
  cases y with
  | k b => cases b <;> exact ⟨by decide, by simp [nf2]⟩
  | bit s => exact ⟨by simp [Ex.nm, Ex.kind, nf2, con4], by simp [nf2, Ex.nm]⟩
  | rise s => exact ⟨by simp [Ex.nm, Ex.kind, nf2, nameOk_ne hy, con1, con2, con3, con5, con6], by simp [nf2, Ex.nm]⟩
  | fall s => exact ⟨by simp [Ex.nm, Ex.kind, nf2, nameOk_ne hy, con1, con2, con3, con5, con6], by simp [nf2, Ex.nm]⟩
  | _ => exact ⟨by simp [Ex.nm, nf2], by simp [nf2]⟩
end
end Go.Sc
namespace Go.Sc
open Go
set_option linter.unusedSimpArgs false
set_option linter.unusedVariables false
set_option linter.unnecessarySimpa false
structure SaysBodies (E : Env) (P : Program) : Prop where
  p : ParseBodies E P
  rr : RefReadBodies E P
  read : Body1 E P 169 F.law_read
  ev : EvalBodies0 E P
  s : SortedBodies E P
  z : SizeBodies E P
  r : RefSaysBodies E P
  among : Body1 E P 179 F.law_ExprSays_c1
  among1 : Body2 E P 188 F.law_ExprSays_c1_c1
  same : Body2 E P 183 F.law_sameTexts
section
variable {E : Env} {P : Program}
theorem lamong1_spec (hB : Body2 E P 188 F.law_ExprSays_c1_c1) {a : AV} {l : List Str} (h : TXL a l) (hl : l.length < 1099511627776) (s : Str) : FX E P 188 ([S s] ++ [.ptrF [a] 0]) (Bo (decide (s ∈ l))) := by
  refine FX.of' ⟨trivial, ⟨h.closed, trivial⟩, trivial⟩ trivial fun n R hR => hB _ _ _ _ ?_
  unfold F.law_ExprSays_c1_c1
  refine wLoop.one (fun m i H => ∃ pre rest c, l = pre ++ rest ∧ i = Z pre.length ∧ m = rest.length ∧ s ∉ pre ∧ H = ⟨[], c⟩) l.length (gh1.mk ⟨[], l, n, rfl, rfl, rfl, by simp, rfl⟩) ?_
  rintro m i H ⟨pre, rest, c, rfl, rfl, rfl, hpre, rfl⟩
  simp only [nd0, Y1n, Y1o, Y1p, Y1q, Y1w, Y1x, Y1y, Y1z, Y20, Y21, Y28, Y2a, AV.cells?, Nat.reduceAdd, Nat.reduceMul, h.len]
  cases rest with
  | nil =>
    simp only [nd0, Y1n, Y1o, Y1p, Y1q, Y1w, Y1x, Y1y, Y1z, Y20, Y21, Y28, Y2a, AV.cells?, Nat.reduceAdd, Nat.reduceMul, List.append_nil, Int.lt_irrefl]
    exact hR _ _ (by rw [decide_eq_false (by simpa using hpre)])
  | cons x rest =>
    simp only [nd0, Y1n, Y1o, Y1p, Y1q, Y1w, Y1x, Y1y, Y1z, Y20, Y21, Y28, Y2a, AV.cells?, Nat.reduceAdd, Nat.reduceMul, decide_eq_true (show (pre.length : Int) < ((pre ++ x :: rest).length : Int) by simp; omega)]
    rcases h with ⟨_, h⟩ | rfl
    · simp at h
    rw [iaddr_Nn lt_mid]
    simp only [nd0, Y1n, Y1o, Y1p, Y1q, Y1w, Y1x, Y1y, Y1z, Y20, Y21, Y28, Y2a, AV.cells?, Nat.reduceAdd, Nat.reduceMul, at_mid]
    by_cases hx : x = s
    · simp only [nd0, Y1n, Y1o, Y1p, Y1q, Y1w, Y1x, Y1y, Y1z, Y20, Y21, Y28, Y2a, AV.cells?, Nat.reduceAdd, Nat.reduceMul, decide_eq_true hx]
      exact hR _ _ (by rw [decide_eq_true (by rw [hx]; simp)])
    · simp only [nd0, Y1n, Y1o, Y1p, Y1q, Y1w, Y1x, Y1y, Y1z, Y20, Y21, Y28, Y2a, AV.cells?, Nat.reduceAdd, Nat.reduceMul, decide_eq_false hx]
      rw [binA_succ (by simp at hl; omega)]
      simp only [nd0, Y1n, Y1o, Y1p, Y1q, Y1w, Y1x, Y1y, Y1z, Y20, Y21, Y28, Y2a, AV.cells?, Nat.reduceAdd, Nat.reduceMul]
      exact back1.mk rest.length (by simp) ⟨pre ++ [x], rest, c, by simp, by simp, rfl, by simp [hpre, Ne.symm hx], rfl⟩
def lamongA (a : AV) : AV := .fn 188 [] [.ptrF [a] 0]
theorem lamong_spec (hB : Body1 E P 179 F.law_ExprSays_c1) {a : AV} {l : List Str} (h : TXL a l) : FX E P 179 [a] (lamongA a) := by
  refine FX.of' ⟨h.closed, trivial⟩ ⟨trivial, ⟨h.closed, trivial⟩, trivial⟩ fun n R hR => hB _ _ _ ?_
  unfold F.law_ExprSays_c1
  rw [cells?_scalar h.scalar]
  refine wNew.F' rfl ?_
  exact hR _ _ rfl
theorem lamong_asks (hB : Body2 E P 188 F.law_ExprSays_c1_c1) {a : AV} {l : List Str} (h : TXL a l) (hl : l.length < 1099511627776) : Asks E P (lamongA a) (fun s => decide (s ∈ l)) :=
  ⟨188, _, rfl, ⟨⟨h.closed, trivial⟩, trivial⟩, lamong1_spec hB h hl⟩
theorem sameTexts_spec (hB : Body2 E P 183 F.law_sameTexts) (l m : List Str) (hl : l.length < 1099511627776) : FX E P 183 [Lm S l, Lm S m] (Bo (decide (l = m))) := by
  refine FX.of' ⟨closed_S l, closed_S m, trivial⟩ trivial fun n R hR => hB _ _ _ _ ?_
  unfold F.law_sameTexts
  simp only [nd0, Y1n, Y1o, Y1p, Y1q, Y1w, Y1x, Y1y, Y1z, Y20, Y21, Y28, Y2a, AV.cells?, Nat.reduceAdd, Nat.reduceMul]
  by_cases hne : l.length = m.length
  · simp only [nd0, Y1n, Y1o, Y1p, Y1q, Y1w, Y1x, Y1y, Y1z, Y20, Y21, Y28, Y2a, AV.cells?, Nat.reduceAdd, Nat.reduceMul, decide_eq_true (show (l.length : Int) = (m.length : Int) by omega)]
    refine wLoop.one (fun k i H => ∃ (a : Nat) (c : Nat), a ≤ l.length ∧ i = Z a ∧ k = l.length - a ∧ l.take a = m.take a ∧ H = ⟨[], c⟩) l.length (gh1.mk ⟨0, n, by omega, rfl, by omega, rfl, rfl⟩) ?_
    rintro k i H ⟨a, c, ha, rfl, rfl, hpre, rfl⟩
    simp only [nd0, Y1n, Y1o, Y1p, Y1q, Y1w, Y1x, Y1y, Y1z, Y20, Y21, Y28, Y2a, AV.cells?, Nat.reduceAdd, Nat.reduceMul]
    rcases Nat.lt_or_ge a l.length with hlt | hge
    · simp only [nd0, Y1n, Y1o, Y1p, Y1q, Y1w, Y1x, Y1y, Y1z, Y20, Y21, Y28, Y2a, AV.cells?, Nat.reduceAdd, Nat.reduceMul, decide_eq_true (show (a : Int) < (l.length : Int) by omega)]
      rw [iaddr_Nn hlt]
      have hlt' : a < m.length := by omega
      simp only [nd0, Y1n, Y1o, Y1p, Y1q, Y1w, Y1x, Y1y, Y1z, Y20, Y21, Y28, Y2a, AV.cells?, Nat.reduceAdd, Nat.reduceMul, show (l.map fun s => S s)[a]? = some (S l[a]) by rw [List.getElem?_map, List.getElem?_eq_getElem hlt]; rfl]
      rw [iaddr_Nn hlt']
      simp only [nd0, Y1n, Y1o, Y1p, Y1q, Y1w, Y1x, Y1y, Y1z, Y20, Y21, Y28, Y2a, AV.cells?, Nat.reduceAdd, Nat.reduceMul, show (m.map fun s => S s)[a]? = some (S m[a]) by rw [List.getElem?_map, List.getElem?_eq_getElem hlt']; rfl]
      by_cases hx : l[a] = m[a]
      · simp only [nd0, Y1n, Y1o, Y1p, Y1q, Y1w, Y1x, Y1y, Y1z, Y20, Y21, Y28, Y2a, AV.cells?, Nat.reduceAdd, Nat.reduceMul, decide_eq_true hx]
        rw [binA_succ (by omega)]
        simp only [nd0, Y1n, Y1o, Y1p, Y1q, Y1w, Y1x, Y1y, Y1z, Y20, Y21, Y28, Y2a, AV.cells?, Nat.reduceAdd, Nat.reduceMul]
        refine back1.mk (l.length - (a + 1)) (by omega) ⟨a + 1, c, by omega, rfl, rfl, ?_, rfl⟩
        rw [List.take_add_one, List.take_add_one, hpre, List.getElem?_eq_getElem hlt, List.getElem?_eq_getElem hlt', hx]
      · simp only [nd0, Y1n, Y1o, Y1p, Y1q, Y1w, Y1x, Y1y, Y1z, Y20, Y21, Y28, Y2a, AV.cells?, Nat.reduceAdd, Nat.reduceMul, decide_eq_false hx]
        exact hR _ _ (by rw [decide_eq_false (fun h => hx (by subst h; rfl))])
    · simp only [nd0, Y1n, Y1o, Y1p, Y1q, Y1w, Y1x, Y1y, Y1z, Y20, Y21, Y28, Y2a, AV.cells?, Nat.reduceAdd, Nat.reduceMul, decide_eq_false (show ¬ (a : Int) < (l.length : Int) by omega)]
      refine hR _ _ ?_
      rw [List.take_of_length_le (by omega), List.take_of_length_le (by omega)] at hpre
      rw [decide_eq_true hpre]
  · simp only [nd0, Y1n, Y1o, Y1p, Y1q, Y1w, Y1x, Y1y, Y1z, Y20, Y21, Y28, Y2a, AV.cells?, Nat.reduceAdd, Nat.reduceMul, decide_eq_false (show ¬ (l.length : Int) = (m.length : Int) by omega)]
    exact hR _ _ (by rw [decide_eq_false (fun h => hne (by rw [h]))])
theorem ExprSays_body (B : SaysBodies E P) (s : Str) (l m : List Str) (n : Nat) : F.law_ExprSays E P (S s) (Lm S l) (Lm S m) ⟨[], n⟩ (fun r _ => r = Bo true) := by
  unfold F.law_ExprSays
  rw [Lm_S, Lm_S]
  refine wCall.fx (read_spec0 B.rr B.p B.read s) fun n => ?_
  unfold readA
  by_cases hl : 1000 < s.length
  · rw [if_pos hl]
    simp only [nd0, Y1n, Y1o, Y1p, Y1q, Y1w, Y1x, Y1y, Y1z, Y20, Y21, Y28, Y2a, AV.cells?, Nat.reduceAdd, Nat.reduceMul]
  rw [if_neg hl]
  cases hp : parseR s with
  | no e p => simp only [nd0, Y1n, Y1o, Y1p, Y1q, Y1w, Y1x, Y1y, Y1z, Y20, Y21, Y28, Y2a, AV.cells?, Nat.reduceAdd, Nat.reduceMul]
  | ok x j =>
    obtain ⟨hw, hf⟩ := parseR_good hp
    have hsz := Ex.size_wt x hf
    simp only [nd0, Y1n, Y1o, Y1p, Y1q, Y1w, Y1x, Y1y, Y1z, Y20, Y21, Y28, Y2a, AV.cells?, Nat.reduceAdd, Nat.reduceMul]
    by_cases h2 : 30 < l.length
    · simp only [nd0, Y1n, Y1o, Y1p, Y1q, Y1w, Y1x, Y1y, Y1z, Y20, Y21, Y28, Y2a, AV.cells?, Nat.reduceAdd, Nat.reduceMul, decide_eq_true (show (30 : Int) < (l.length : Int) by omega)]
    simp only [nd0, Y1n, Y1o, Y1p, Y1q, Y1w, Y1x, Y1y, Y1z, Y20, Y21, Y28, Y2a, AV.cells?, Nat.reduceAdd, Nat.reduceMul, decide_eq_false (show ¬ (30 : Int) < (l.length : Int) by omega)]
    by_cases h3 : 30 < m.length
    · simp only [nd0, Y1n, Y1o, Y1p, Y1q, Y1w, Y1x, Y1y, Y1z, Y20, Y21, Y28, Y2a, AV.cells?, Nat.reduceAdd, Nat.reduceMul, decide_eq_true (show (30 : Int) < (m.length : Int) by omega)]
    simp only [nd0, Y1n, Y1o, Y1p, Y1q, Y1w, Y1x, Y1y, Y1z, Y20, Y21, Y28, Y2a, AV.cells?, Nat.reduceAdd, Nat.reduceMul, decide_eq_false (show ¬ (30 : Int) < (m.length : Int) by omega), Ex.enc_nil]
    have tl : TXL (.slN (l.map fun s => S s) l.length) l := .inr rfl
    have tm : TXL (.slN (m.map fun s => S s) m.length) m := .inr rfl
    refine wCallV.fx (fs := []) (cs := []) (lamong_spec B.among tl) fun n => ?_
    simp only [nd0, Y1n, Y1o, Y1p, Y1q, Y1w, Y1x, Y1y, Y1z, Y20, Y21, Y28, Y2a, AV.cells?, Nat.reduceAdd, Nat.reduceMul]
    refine wCallV.fx (fs := []) (cs := []) (lamong_spec B.among tm) fun n => ?_
    simp only [nd0, Y1n, Y1o, Y1p, Y1q, Y1w, Y1x, Y1y, Y1z, Y20, Y21, Y28, Y2a, AV.cells?, Nat.reduceAdd, Nat.reduceMul]
    have al := lamong_asks B.among1 tl (by omega)
    have am := lamong_asks B.among1 tm (by omega)
    refine wCall.fx (Eval_spec0 B.ev al am (x.wt + 1) x (by omega) (by omega) hf) fun n => ?_
    simp only [nd0, Y1n, Y1o, Y1p, Y1q, Y1w, Y1x, Y1y, Y1z, Y20, Y21, Y28, Y2a, AV.cells?, Nat.reduceAdd, Nat.reduceMul]
    refine wCallV.fx (fs := []) (cs := []) (lamong_spec B.among tl) fun n => ?_
    simp only [nd0, Y1n, Y1o, Y1p, Y1q, Y1w, Y1x, Y1y, Y1z, Y20, Y21, Y28, Y2a, AV.cells?, Nat.reduceAdd, Nat.reduceMul]
    refine wCallV.fx (fs := []) (cs := []) (lamong_spec B.among tm) fun n => ?_
    simp only [nd0, Y1n, Y1o, Y1p, Y1q, Y1w, Y1x, Y1y, Y1z, Y20, Y21, Y28, Y2a, AV.cells?, Nat.reduceAdd, Nat.reduceMul]
    refine wCall.fx (refEval_spec B.r al am (x.wt + 1) x (by omega) (by omega) hf) fun n => ?_
    simp only [nd0, Y1n, Y1o, Y1p, Y1q, Y1w, Y1x, Y1y, Y1z, Y20, Y21, Y28, Y2a, AV.cells?, Nat.reduceAdd, Nat.reduceMul, beq_self_eq_true]
    have hnl : x.names.length ≤ 100000 := by have := onceS_length (x.raw nf1); have := Ex.raw_len nf1 x; unfold Ex.names; omega
    have hel : x.edges.length ≤ 100000 := by have := onceS_length (x.raw nf2); have := Ex.raw_len nf2 x; unfold Ex.edges; omega
    refine wCall.fx (Names_spec B.s x (by omega) hf) fun n => ?_
    simp only [nd0, Y1n, Y1o, Y1p, Y1q, Y1w, Y1x, Y1y, Y1z, Y20, Y21, Y28, Y2a, AV.cells?, Nat.reduceAdd, Nat.reduceMul]
    refine wCall.fx (refNames_spec B.r x (by omega) hf) fun n => ?_
    simp only [nd0, Y1n, Y1o, Y1p, Y1q, Y1w, Y1x, Y1y, Y1z, Y20, Y21, Y28, Y2a, AV.cells?, Nat.reduceAdd, Nat.reduceMul]
    refine wCall.fx (sameTexts_spec B.same x.names (onceS (x.raw nf1)) (by omega)) fun n => ?_
    simp only [nd0, Y1n, Y1o, Y1p, Y1q, Y1w, Y1x, Y1y, Y1z, Y20, Y21, Y28, Y2a, AV.cells?, Nat.reduceAdd, Nat.reduceMul, decide_eq_true (show x.names = onceS (x.raw nf1) from rfl)]
    refine wCall.fx (Edges_spec B.s x (by omega) hf) fun n => ?_
    simp only [nd0, Y1n, Y1o, Y1p, Y1q, Y1w, Y1x, Y1y, Y1z, Y20, Y21, Y28, Y2a, AV.cells?, Nat.reduceAdd, Nat.reduceMul]
    refine wCall.fx (refEdges_spec B.r x (by omega) hf) fun n => ?_
    simp only [nd0, Y1n, Y1o, Y1p, Y1q, Y1w, Y1x, Y1y, Y1z, Y20, Y21, Y28, Y2a, AV.cells?, Nat.reduceAdd, Nat.reduceMul]
    refine wCall.fx (sameTexts_spec B.same x.edges (onceS (x.raw nf2)) (by omega)) fun n => ?_
    simp only [nd0, Y1n, Y1o, Y1p, Y1q, Y1w, Y1x, Y1y, Y1z, Y20, Y21, Y28, Y2a, AV.cells?, Nat.reduceAdd, Nat.reduceMul, decide_eq_true (show x.edges = onceS (x.raw nf2) from rfl)]
    refine wCall.fx (Size_spec B.z x (by omega) hf) fun n => ?_
    simp only [nd0, Y1n, Y1o, Y1p, Y1q, Y1w, Y1x, Y1y, Y1z, Y20, Y21, Y28, Y2a, AV.cells?, Nat.reduceAdd, Nat.reduceMul]
    refine wCall.fx (refSize_spec B.r (x.wt + 1) x (by omega) (by omega) hf) fun n => ?_
    simp only [nd0, Y1n, Y1o, Y1p, Y1q, Y1w, Y1x, Y1y, Y1z, Y20, Y21, Y28, Y2a, AV.cells?, Nat.reduceAdd, Nat.reduceMul, decide_eq_true (show (x.size : Int) = (x.size : Int) from rfl)]
end
end Go.Sc
namespace Go.Sc.F
open Go Go.Sc
set_option linter.unusedVariables false
/-- signalbox/plain.Formula -/
def plain_Formula (E : Env) (P : Program) (a0 : AV) (H : AH) (R : Kt) : Prop :=
  wAgg (fillA [(.val (.int .i64 0)), (.val (.string ⟨#[]⟩)), (.val (.slice none 0 0))] [(0, 1, (.val (.int .i64 2)))]) H fun t9 H =>
  wNew 3 (AV.cells? t9) H fun t10 H =>
  wNewS 1 1 (fillA (List.replicate 1 [(.val (.pointer none))]).flatten [(0, 1, t10)]) H fun t11 H =>
  wGet (lenA a0) H fun t13 H =>
  wLoop 2 (fun I1 => I1 t11 (.val (.int .i64 0)) H) fun I1 t3 t14 H =>
    wGet (binA .lss t14 t13) H fun t15 H =>
    wIf t15 (
      wGet (iaddr 4 a0 t14) H fun t16 H =>
      wGet (loadN 4 t16 H) H fun t17 H =>
      wNew 4 (some [(.val (.int .i64 0)), (.val (.int .i64 0)), (.val (.int .i64 0)), (.val (.string ⟨#[]⟩))]) H fun t5 H =>
      wPut (storeN 4 t5 t17 H) fun _u H =>
      wGet (faddr 0 t5) H fun t18 H =>
      wGet (load1 t18 H) H fun t19 H =>
      wAgg (fillA [(.val (.int .i64 0)), (.val (.string ⟨#[]⟩)), (.val (.slice none 0 0))] [(0, 1, t19)]) H fun t20 H =>
      wNew 3 (AV.cells? t20) H fun t21 H =>
      wGet (faddr 1 t5) H fun t23 H =>
      wGet (load1 t23 H) H fun t24 H =>
      wGet (lenA t3) H fun t26 H =>
      wGet (faddr 2 t5) H fun t31 H =>
      wGet (load1 t31 H) H fun t32 H =>
      wGet (lenA t3) H fun t34 H =>
      wCall E P 30 [t24, t26] H fun t27 H =>
      (wGet (load1 t31 H) H (fun y H2 => y = t32 ∧ H2 = H)) ∧
      wGet (iaddr 1 t3 t27) H fun t28 H =>
      wGet (load1 t28 H) H fun t29 H =>
      wCall E P 30 [t32, t34] H fun t35 H =>
      (wGet (load1 t28 H) H (fun y H2 => y = t29 ∧ H2 = H)) ∧
      wGet (iaddr 1 t3 t35) H fun t36 H =>
      wGet (load1 t36 H) H fun t37 H =>
      (wGet (load1 t36 H) H (fun y H2 => y = t37 ∧ H2 = H)) ∧
      wJoin 0 (fun J2 =>
        wGet (faddr 0 t5) H fun t38 H =>
        wGet (load1 t38 H) H fun t39 H =>
        wGet (binA .eql t39 (.val (.int .i64 2))) H fun t49 H =>
        wIf t49 (
          J2 H) (
          wJoin 1 (fun J3 =>
            wGet (binA .eql t39 (.val (.int .i64 3))) H fun t51 H =>
            wIf t51 (
              J3 t51 H) (
              wGet (binA .eql t39 (.val (.int .i64 6))) H fun t52 H =>
              wIf t52 (
                J3 t52 H) (
                wGet (binA .eql t39 (.val (.int .i64 9))) H fun t53 H =>
                wIf t53 (
                  J3 t53 H) (
                  wGet (binA .eql t39 (.val (.int .i64 10))) H fun t54 H =>
                  J3 t54 H)))) fun t50 H =>
            wIf t50 (
              wNewS 1 1 (fillA (List.replicate 1 [(.val (.pointer none))]).flatten [(0, 1, t29)]) H fun t57 H =>
              wGet (nilA t21) H fun t58 H =>
              wGet (faddr 2 t58) H fun t59 H =>
              wPut (store1 t59 t57 H) fun _u H =>
              J2 H) (
              wJoin 1 (fun J4 =>
                wGet (binA .eql t39 (.val (.int .i64 4))) H fun t61 H =>
                wIf t61 (
                  J4 t61 H) (
                  wGet (binA .eql t39 (.val (.int .i64 5))) H fun t62 H =>
                  wIf t62 (
                    J4 t62 H) (
                    wGet (binA .eql t39 (.val (.int .i64 7))) H fun t63 H =>
                    wIf t63 (
                      J4 t63 H) (
                      wGet (binA .eql t39 (.val (.int .i64 8))) H fun t64 H =>
                      J4 t64 H)))) fun t60 H =>
                wIf t60 (
                  wNewS 1 2 (fillA (List.replicate 2 [(.val (.pointer none))]).flatten [(0, 1, t29), (1, 1, t37)]) H fun t68 H =>
                  wGet (nilA t21) H fun t69 H =>
                  wGet (faddr 2 t69) H fun t70 H =>
                  wPut (store1 t70 t68 H) fun _u H =>
                  J2 H) (
                  wGet (faddr 3 t5) H fun t42 H =>
                  wGet (load1 t42 H) H fun t43 H =>
                  wGet (nilA t21) H fun t44 H =>
                  wGet (faddr 0 t44) H fun t45 H =>
                  wPut (store1 t45 (.val (.int .i64 1)) H) fun _u H =>
                  (wGet (load1 t42 H) H (fun y H2 => y = t43 ∧ H2 = H)) ∧
                  wGet (nilA t21) H fun t46 H =>
                  wGet (faddr 1 t46) H fun t47 H =>
                  wPut (store1 t47 t43 H) fun _u H =>
                  J2 H)))) fun H =>
        wNewS 1 1 (fillA (List.replicate 1 [(.val (.pointer none))]).flatten [(0, 1, t21)]) H fun t73 H =>
        wApp 1 8 t3 t73 H fun t74 H =>
        wGet (binA .add t14 (.val (.int .i64 1))) H fun t75 H =>
        I1 t74 t75 H) (
      wGet (lenA t3) H fun t78 H =>
      wGet (binA .sub t78 (.val (.int .i64 1))) H fun t79 H =>
      wGet (iaddr 1 t3 t79) H fun t80 H =>
      wGet (load1 t80 H) H fun t81 H =>
      R t81 H)

/-- signalbox/plain.At -/
def plain_At (E : Env) (P : Program) (a0 a1 : AV) (H : AH) (R : Kt) : Prop :=
  wGet (convA (.int .u64) a0) H fun t6 H =>
  wGet (convA (.int .u64) a1) H fun t8 H =>
  wGet (binA .rem t6 t8) H fun t9 H =>
  wGet (convA (.int .i64) t9) H fun t10 H =>
  R t10 H

/-- signalbox/lasso.Check -/
def lasso_Check (E : Env) (P : Program) (a0 : AV) (H : AH) (R : Kt) : Prop :=
  wNew 2 (AV.cells? a0) H fun t1 H =>
  wGet (faddr 1 t1) H fun t9 H =>
  wGet (load1 t9 H) H fun t10 H =>
  wGet (lenA t10) H fun t11 H =>
  wGet (binA .lss t11 (.val (.int .i64 1))) H fun t12 H =>
  wGuard t12 false H (fun k => wGet (faddr 0 t1) H k) fun t14 H =>
  wGuard t12 false H (fun k => wGet (load1 t14 H) H k) fun t15 H =>
  wGuard t12 false H (fun k => wGet (lenA t15) H k) fun t16 H =>
  wGuard t12 false H (fun k => wGet (faddr 1 t1) H k) fun t17 H =>
  wGuard t12 false H (fun k => wGet (load1 t17 H) H k) fun t18 H =>
  wGuard t12 false H (fun k => wGet (lenA t18) H k) fun t19 H =>
  wGuard t12 false H (fun k => wGet (binA .add t16 t19) H k) fun t20 H =>
  wGuard t12 false H (fun k => wGet (binA .gtr t20 (.val (.int .i64 60))) H k) fun t21 H =>
  wGet (pickA t12 (.val (.bool true)) t21) H fun t22 H =>
  wIf t22 (
    R (.ifc 1 (.val (.int .i64 4))) H) (
    wGet (faddr 0 t1) H fun t24 H =>
    wGet (load1 t24 H) H fun t25 H =>
    wGet (faddr 1 t1) H fun t26 H =>
    wGet (load1 t26 H) H fun t27 H =>
    wNewS 1 2 (fillA (List.replicate 2 [(.val (.slice none 0 0))]).flatten [(0, 1, t25), (1, 1, t27)]) H fun t28 H =>
    wGet (lenA t28) H fun t29 H =>
    wLoop 1 (fun I1 => I1 (.val (.int .i64 0)) H) fun I1 t30 H =>
      wGet (binA .lss t30 t29) H fun t31 H =>
      wIf t31 (
        wGet (iaddr 1 t28 t30) H fun t32 H =>
        wGet (load1 t32 H) H fun t33 H =>
        wGet (lenA t33) H fun t35 H =>
        wLoop 1 (fun I2 => I2 (.val (.int .i64 0)) H) fun I2 t36 H =>
          wGet (binA .lss t36 t35) H fun t37 H =>
          wIf t37 (
            wGet (iaddr 1 t33 t36) H fun t38 H =>
            wGet (load1 t38 H) H fun t39 H =>
            wGet (lenA t39) H fun t41 H =>
            wLoop 1 (fun I3 => I3 (.val (.int .i64 0)) H) fun I3 t42 H =>
              wGet (binA .lss t42 t41) H fun t43 H =>
              wIf t43 (
                wGet (iaddr 1 t39 t42) H fun t44 H =>
                wGet (load1 t44 H) H fun t45 H =>
                wCall E P 1 [t45] H fun t47 H =>
                wGet (unA .not t47) H fun t48 H =>
                wIf t48 (
                  R (.ifc 1 (.val (.int .i64 5))) H) (
                  wGet (binA .add t42 (.val (.int .i64 1))) H fun t50 H =>
                  I3 t50 H)) (
                wGet (binA .add t36 (.val (.int .i64 1))) H fun t51 H =>
                I2 t51 H)) (
            wGet (binA .add t30 (.val (.int .i64 1))) H fun t52 H =>
            I1 t52 H)) (
        R (.val (.nilIface)) H))

/-- signalbox/lasso.Right -/
def lasso_Right (E : Env) (P : Program) (a0 : AV) (H : AH) (R : Kt) : Prop :=
  wCall E P 35 [a0, (.val (.int .i64 20))] H fun t7 H =>
  wGet (extractA t7 0) H fun t8 H =>
  wGet (extractA t7 1) H fun t9 H =>
  wGet (binA .neq t9 (.val (.int .i64 0))) H fun t12 H =>
  wIf t12 (
    R (.ifc 1 t9) H) (
    wGet (binA .gtr t8 (.val (.int .i64 100))) H fun t17 H =>
    wIf t17 (
      R (.ifc 1 (.val (.int .i64 4))) H) (
      R (.val (.nilIface)) H))

/-- signalbox/lasso.holds -/
def lasso_holds (E : Env) (P : Program) (a0 a1 : AV) (H : AH) (R : Kt) : Prop :=
  wNew 2 (AV.cells? a0) H fun t2 H =>
  wGet (faddr 0 t2) H fun t22 H =>
  wGet (load1 t22 H) H fun t23 H =>
  wGet (lenA t23) H fun t24 H =>
  wGet (faddr 1 t2) H fun t25 H =>
  wGet (load1 t25 H) H fun t26 H =>
  wGet (lenA t26) H fun t27 H =>
  wGet (binA .add t24 t27) H fun t28 H =>
  wNew 1 (some [(.val (.int .i64 0))]) H fun t5 H =>
  wPut (store1 t5 t28 H) fun _u H =>
  wGet (load1 t5 H) H fun t29 H =>
  wMake 1 1 [(.val (.bool false))] t29 t29 H fun t30 H =>
  wNew 1 (some [(.val (.slice none 0 0))]) H fun t6 H =>
  wPut (store1 t6 t30 H) fun _u H =>
  wNew 1 (some [(.val (.nilFunc))]) H fun t7 H =>
  wPut (store1 t7 (.fn 36 [] [t5, t2]) H) fun _u H =>
  wNew 1 (some [(.val (.slice none 0 0))]) H fun t8 H =>
  wGet (nilA a1) H fun t33 H =>
  wGet (faddr 2 t33) H fun t34 H =>
  wGet (load1 t34 H) H fun t35 H =>
  wGet (lenA t35) H fun t36 H =>
  wLoop 1 (fun I1 => I1 (.val (.int .i64 0)) H) fun I1 t37 H =>
    wGet (binA .lss t37 t36) H fun t38 H =>
    wIf t38 (
      wGet (iaddr 1 t35 t37) H fun t39 H =>
      wGet (load1 t39 H) H fun t40 H =>
      wGet (load1 t8 H) H fun t41 H =>
      wGet (loadN 2 t2 H) H fun t42 H =>
      wCall E P 33 [t42, t40] H fun t44 H =>
      (wGet (load1 t8 H) H (fun y H2 => y = t41 ∧ H2 = H)) ∧
      wNewS 1 1 (fillA (List.replicate 1 [(.val (.slice none 0 0))]).flatten [(0, 1, t44)]) H fun t45 H =>
      (wGet (load1 t8 H) H (fun y H2 => y = t41 ∧ H2 = H)) ∧
      wApp 1 24 t41 t45 H fun t46 H =>
      wPut (store1 t8 t46 H) fun _u H =>
      wGet (binA .add t37 (.val (.int .i64 1))) H fun t47 H =>
      I1 t47 H) (
      wJoin 0 (fun J2 =>
        wGet (nilA a1) H fun t50 H =>
        wGet (faddr 0 t50) H fun t51 H =>
        wGet (load1 t51 H) H fun t52 H =>
        wGet (binA .eql t52 (.val (.int .i64 1))) H fun t54 H =>
        wIf t54 (
          wGet (load1 t6 H) H fun t55 H =>
          wGet (lenA t55) H fun t56 H =>
          wLoop 1 (fun I3 => I3 (.val (.int .i64 0)) H) fun I3 t57 H =>
            wGet (binA .lss t57 t56) H fun t58 H =>
            wIf t58 (
              wGet (faddr 1 t2) H fun t60 H =>
              wGet (load1 t60 H) H fun t61 H =>
              wGet (faddr 0 t2) H fun t63 H =>
              wGet (load1 t63 H) H fun t64 H =>
              wGet (lenA t64) H fun t65 H =>
              wGet (binA .sub t57 t65) H fun t66 H =>
              wJoin 2 (fun J4 =>
                wGet (binA .lss t66 (.val (.int .i64 0))) H fun t68 H =>
                wIf t68 (
                  wGet (faddr 0 t2) H fun t69 H =>
                  wGet (load1 t69 H) H fun t70 H =>
                  J4 t70 t57 H) (
                  J4 t61 t66 H)) fun t13 t14 H =>
                wGet (iaddr 1 t13 t14) H fun t74 H =>
                wGet (load1 t74 H) H fun t75 H =>
                wGet (lenA t75) H fun t76 H =>
                wLoop 1 (fun I5 => I5 (.val (.int .i64 0)) H) fun I5 t77 H =>
                  wGet (binA .lss t77 t76) H fun t78 H =>
                  wIf t78 (
                    wGet (iaddr 1 t75 t77) H fun t79 H =>
                    wGet (load1 t79 H) H fun t80 H =>
                    wGet (load1 t6 H) H fun t81 H =>
                    wGet (load1 t6 H) H fun t83 H =>
                    wGet (iaddr 1 t83 t57) H fun t85 H =>
                    wGet (load1 t85 H) H fun t86 H =>
                    wGuard t86 false H (fun k => k t80 H) fun t88 H =>
                    wGuard t86 false H (fun k => k a1 H) fun t89 H =>
                    wGuard t86 false H (fun k => wGet (nilA t89) H k) fun t90 H =>
                    wGuard t86 false H (fun k => wGet (faddr 1 t90) H k) fun t91 H =>
                    wGuard t86 false H (fun k => wGet (load1 t91 H) H k) fun t92 H =>
                    wGuard t86 false H (fun k => wGet (binA .eql t88 t92) H k) fun t93 H =>
                    wGet (pickA t86 (.val (.bool true)) t93) H fun t94 H =>
                    wGet (iaddr 1 t81 t57) H fun t95 H =>
                    wPut (store1 t95 t94 H) fun _u H =>
                    wGet (binA .add t77 (.val (.int .i64 1))) H fun t96 H =>
                    I5 t96 H) (
                    wGet (binA .add t57 (.val (.int .i64 1))) H fun t97 H =>
                    I3 t97 H)) (
              J2 H)) (
          wGet (binA .eql t52 (.val (.int .i64 2))) H fun t99 H =>
          wIf t99 (
            wGet (load1 t6 H) H fun t100 H =>
            wGet (lenA t100) H fun t101 H =>
            wLoop 1 (fun I6 => I6 (.val (.int .i64 0)) H) fun I6 t102 H =>
              wGet (binA .lss t102 t101) H fun t103 H =>
              wIf t103 (
                wGet (load1 t6 H) H fun t105 H =>
                wGet (iaddr 1 t105 t102) H fun t107 H =>
                wPut (store1 t107 (.val (.bool true)) H) fun _u H =>
                wGet (binA .add t102 (.val (.int .i64 1))) H fun t108 H =>
                I6 t108 H) (
                J2 H)) (
            wGet (binA .eql t52 (.val (.int .i64 3))) H fun t110 H =>
            wIf t110 (
              wGet (load1 t6 H) H fun t111 H =>
              wGet (lenA t111) H fun t112 H =>
              wLoop 1 (fun I7 => I7 (.val (.int .i64 0)) H) fun I7 t113 H =>
                wGet (binA .lss t113 t112) H fun t114 H =>
                wIf t114 (
                  wGet (load1 t6 H) H fun t116 H =>
                  wGet (load1 t8 H) H fun t118 H =>
                  wGet (iaddr 1 t118 (.val (.int .i64 0))) H fun t119 H =>
                  wGet (load1 t119 H) H fun t120 H =>
                  wGet (iaddr 1 t120 t113) H fun t122 H =>
                  wGet (load1 t122 H) H fun t123 H =>
                  wGet (unA .not t123) H fun t124 H =>
                  wGet (iaddr 1 t116 t113) H fun t125 H =>
                  wPut (store1 t125 t124 H) fun _u H =>
                  wGet (binA .add t113 (.val (.int .i64 1))) H fun t126 H =>
                  I7 t126 H) (
                  J2 H)) (
              wGet (binA .eql t52 (.val (.int .i64 4))) H fun t128 H =>
              wIf t128 (
                wGet (load1 t6 H) H fun t129 H =>
                wGet (lenA t129) H fun t130 H =>
                wLoop 1 (fun I8 => I8 (.val (.int .i64 0)) H) fun I8 t131 H =>
                  wGet (binA .lss t131 t130) H fun t132 H =>
                  wIf t132 (
                    wGet (load1 t6 H) H fun t134 H =>
                    wGet (load1 t8 H) H fun t136 H =>
                    wGet (iaddr 1 t136 (.val (.int .i64 0))) H fun t137 H =>
                    wGet (load1 t137 H) H fun t138 H =>
                    wGet (iaddr 1 t138 t131) H fun t140 H =>
                    wGet (load1 t140 H) H fun t141 H =>
                    wGuard t141 true H (fun k => wGet (load1 t8 H) H k) fun t143 H =>
                    wGuard t141 true H (fun k => wGet (iaddr 1 t143 (.val (.int .i64 1))) H k) fun t144 H =>
                    wGuard t141 true H (fun k => wGet (load1 t144 H) H k) fun t145 H =>
                    wGuard t141 true H (fun k => k t131 H) fun t146 H =>
                    wGuard t141 true H (fun k => wGet (iaddr 1 t145 t146) H k) fun t147 H =>
                    wGuard t141 true H (fun k => wGet (load1 t147 H) H k) fun t148 H =>
                    wGet (pickA t141 t148 (.val (.bool false))) H fun t149 H =>
                    wGet (iaddr 1 t134 t131) H fun t150 H =>
                    wPut (store1 t150 t149 H) fun _u H =>
                    wGet (binA .add t131 (.val (.int .i64 1))) H fun t151 H =>
                    I8 t151 H) (
                    J2 H)) (
                wGet (binA .eql t52 (.val (.int .i64 5))) H fun t153 H =>
                wIf t153 (
                  wGet (load1 t6 H) H fun t154 H =>
                  wGet (lenA t154) H fun t155 H =>
                  wLoop 1 (fun I9 => I9 (.val (.int .i64 0)) H) fun I9 t156 H =>
                    wGet (binA .lss t156 t155) H fun t157 H =>
                    wIf t157 (
                      wGet (load1 t6 H) H fun t159 H =>
                      wGet (load1 t8 H) H fun t161 H =>
                      wGet (iaddr 1 t161 (.val (.int .i64 0))) H fun t162 H =>
                      wGet (load1 t162 H) H fun t163 H =>
                      wGet (iaddr 1 t163 t156) H fun t165 H =>
                      wGet (load1 t165 H) H fun t166 H =>
                      wGuard t166 false H (fun k => wGet (load1 t8 H) H k) fun t168 H =>
                      wGuard t166 false H (fun k => wGet (iaddr 1 t168 (.val (.int .i64 1))) H k) fun t169 H =>
                      wGuard t166 false H (fun k => wGet (load1 t169 H) H k) fun t170 H =>
                      wGuard t166 false H (fun k => k t156 H) fun t171 H =>
                      wGuard t166 false H (fun k => wGet (iaddr 1 t170 t171) H k) fun t172 H =>
                      wGuard t166 false H (fun k => wGet (load1 t172 H) H k) fun t173 H =>
                      wGet (pickA t166 (.val (.bool true)) t173) H fun t174 H =>
                      wGet (iaddr 1 t159 t156) H fun t175 H =>
                      wPut (store1 t175 t174 H) fun _u H =>
                      wGet (binA .add t156 (.val (.int .i64 1))) H fun t176 H =>
                      I9 t176 H) (
                      J2 H)) (
                  wGet (binA .eql t52 (.val (.int .i64 6))) H fun t178 H =>
                  wIf t178 (
                    wGet (load1 t6 H) H fun t179 H =>
                    wGet (lenA t179) H fun t180 H =>
                    wLoop 1 (fun I10 => I10 (.val (.int .i64 0)) H) fun I10 t181 H =>
                      wGet (binA .lss t181 t180) H fun t182 H =>
                      wIf t182 (
                        wGet (load1 t6 H) H fun t184 H =>
                        wGet (load1 t8 H) H fun t186 H =>
                        wGet (iaddr 1 t186 (.val (.int .i64 0))) H fun t187 H =>
                        wGet (load1 t187 H) H fun t188 H =>
                        wGet (load1 t7 H) H fun t189 H =>
                        wCallV E P t189 [t181] H fun t191 H =>
                        (wGet (load1 t6 H) H (fun y H2 => y = t184 ∧ H2 = H)) ∧
                        (wGet (load1 t8 H) H (fun y H2 => y = t186 ∧ H2 = H)) ∧
                        (wGet (load1 t187 H) H (fun y H2 => y = t188 ∧ H2 = H)) ∧
                        wGet (iaddr 1 t188 t191) H fun t192 H =>
                        wGet (load1 t192 H) H fun t193 H =>
                        wGet (iaddr 1 t184 t181) H fun t194 H =>
                        wPut (store1 t194 t193 H) fun _u H =>
                        wGet (binA .add t181 (.val (.int .i64 1))) H fun t195 H =>
                        I10 t195 H) (
                        J2 H)) (
                    wGet (binA .eql t52 (.val (.int .i64 7))) H fun t197 H =>
                    wIf t197 (
                      wCallV E P (.fn 37 [] [t6, t5, t7]) [(.val (.bool false)), (.fn 38 [] [t8])] H fun t200 H =>
                      J2 H) (
                      wGet (binA .eql t52 (.val (.int .i64 8))) H fun t202 H =>
                      wIf t202 (
                        wCallV E P (.fn 37 [] [t6, t5, t7]) [(.val (.bool true)), (.fn 39 [] [t8])] H fun t205 H =>
                        J2 H) (
                        wGet (binA .eql t52 (.val (.int .i64 9))) H fun t207 H =>
                        wIf t207 (
                          wCallV E P (.fn 37 [] [t6, t5, t7]) [(.val (.bool false)), (.fn 40 [] [t8])] H fun t210 H =>
                          J2 H) (
                          wGet (binA .eql t52 (.val (.int .i64 10))) H fun t212 H =>
                          wIf t212 (
                            wCallV E P (.fn 37 [] [t6, t5, t7]) [(.val (.bool true)), (.fn 41 [] [t8])] H fun t215 H =>
                            J2 H) (
                            J2 H))))))))))) fun H =>
        wGet (load1 t6 H) H fun t216 H =>
        R t216 H)

/-- signalbox/lasso.right -/
def lasso_right (E : Env) (P : Program) (a0 a1 : AV) (H : AH) (R : Kt) : Prop :=
  wBool (eqA .ptr a0 (.val (.pointer none))) H false fun t13 H =>
  wIf t13 (
    R (.tup [(.val (.int .i64 0)), (.val (.int .i64 7))]) H) (
    wGet (binA .eql a1 (.val (.int .i64 0))) H fun t16 H =>
    wIf t16 (
      R (.tup [(.val (.int .i64 0)), (.val (.int .i64 4))]) H) (
      wGet (nilA a0) H fun t19 H =>
      wGet (faddr 0 t19) H fun t20 H =>
      wGet (load1 t20 H) H fun t21 H =>
      wGet (binA .lss t21 (.val (.int .i64 1))) H fun t22 H =>
      wGuard t22 false H (fun k => k a0 H) fun t24 H =>
      wGuard t22 false H (fun k => wGet (nilA t24) H k) fun t25 H =>
      wGuard t22 false H (fun k => wGet (faddr 0 t25) H k) fun t26 H =>
      wGuard t22 false H (fun k => wGet (load1 t26 H) H k) fun t27 H =>
      wGuard t22 false H (fun k => wGet (binA .gtr t27 (.val (.int .i64 10))) H k) fun t28 H =>
      wGet (pickA t22 (.val (.bool true)) t28) H fun t29 H =>
      wGuard t29 false H (fun k => k a0 H) fun t31 H =>
      wGuard t29 false H (fun k => wGet (nilA t31) H k) fun t32 H =>
      wGuard t29 false H (fun k => wGet (faddr 2 t32) H k) fun t33 H =>
      wGuard t29 false H (fun k => wGet (load1 t33 H) H k) fun t34 H =>
      wGuard t29 false H (fun k => wGet (lenA t34) H k) fun t35 H =>
      wGuard t29 false H (fun k => k a0 H) fun t36 H =>
      wGuard t29 false H (fun k => wGet (nilA t36) H k) fun t37 H =>
      wGuard t29 false H (fun k => wGet (faddr 0 t37) H k) fun t38 H =>
      wGuard t29 false H (fun k => wGet (load1 t38 H) H k) fun t39 H =>
      wGuard t29 false H (fun k => wGet (iaddrArr 1 11 (gptr E 3) t39) H k) fun t40 H =>
      wGuard t29 false H (fun k => wGet (load1 t40 H) H k) fun t41 H =>
      wGuard t29 false H (fun k => wGet (binA .neq t35 t41) H k) fun t42 H =>
      wGet (pickA t29 (.val (.bool true)) t42) H fun t43 H =>
      wGuard t43 false H (fun k => k a0 H) fun t45 H =>
      wGuard t43 false H (fun k => wGet (nilA t45) H k) fun t46 H =>
      wGuard t43 false H (fun k => wGet (faddr 0 t46) H k) fun t47 H =>
      wGuard t43 false H (fun k => wGet (load1 t47 H) H k) fun t48 H =>
      wGuard t43 false H (fun k => wGet (binA .neq t48 (.val (.int .i64 1))) H k) fun t49 H =>
      wGuard t43 false H (fun k => k t49 H) fun t50 H =>
      wGuard t50 true H (fun k => k a0 H) fun t51 H =>
      wGuard t50 true H (fun k => wGet (nilA t51) H k) fun t52 H =>
      wGuard t50 true H (fun k => wGet (faddr 1 t52) H k) fun t53 H =>
      wGuard t50 true H (fun k => wGet (load1 t53 H) H k) fun t54 H =>
      wGuard t50 true H (fun k => wGet (binA .neq t54 (.val (.string ⟨#[]⟩))) H k) fun t55 H =>
      wGuard t43 false H (fun k => wGet (pickA t50 t55 (.val (.bool false))) H k) fun t56 H =>
      wGet (pickA t43 (.val (.bool true)) t56) H fun t57 H =>
      wIf t57 (
        R (.tup [(.val (.int .i64 0)), (.val (.int .i64 1))]) H) (
        wGet (nilA a0) H fun t60 H =>
        wGet (faddr 0 t60) H fun t61 H =>
        wGet (load1 t61 H) H fun t62 H =>
        wGet (binA .eql t62 (.val (.int .i64 1))) H fun t63 H =>
        wGuard t63 true H (fun k => k a0 H) fun t65 H =>
        wGuard t63 true H (fun k => wGet (nilA t65) H k) fun t66 H =>
        wGuard t63 true H (fun k => wGet (faddr 1 t66) H k) fun t67 H =>
        wGuard t63 true H (fun k => wGet (load1 t67 H) H k) fun t68 H =>
        wGuard t63 true H (fun k => wCall E P 1 [t68] H k) fun t69 H =>
        wGuard t63 true H (fun k => wGet (unA .not t69) H k) fun t70 H =>
        wGet (pickA t63 t70 (.val (.bool false))) H fun t71 H =>
        wIf t71 (
          R (.tup [(.val (.int .i64 0)), (.val (.int .i64 5))]) H) (
          wGet (nilA a0) H fun t73 H =>
          wGet (faddr 2 t73) H fun t74 H =>
          wGet (load1 t74 H) H fun t75 H =>
          wGet (lenA t75) H fun t76 H =>
          wLoop 2 (fun I1 => I1 (.val (.int .i64 1)) (.val (.int .i64 0)) H) fun I1 t6 t77 H =>
            wGet (binA .lss t77 t76) H fun t78 H =>
            wIf t78 (
              wGet (iaddr 1 t75 t77) H fun t79 H =>
              wGet (load1 t79 H) H fun t80 H =>
              wGet (binA .sub a1 (.val (.int .i64 1))) H fun t84 H =>
              wCall E P 35 [t80, t84] H fun t85 H =>
              wGet (extractA t85 0) H fun t86 H =>
              wGet (extractA t85 1) H fun t87 H =>
              wGet (binA .neq t87 (.val (.int .i64 0))) H fun t89 H =>
              wIf t89 (
                R (.tup [(.val (.int .i64 0)), t87]) H) (
                wGet (binA .add t6 t86) H fun t93 H =>
                wGet (binA .add t77 (.val (.int .i64 1))) H fun t94 H =>
                I1 t93 t94 H)) (
              R (.tup [t6, (.val (.int .i64 0))]) H)))))

/-- signalbox/lasso.holds$1 -/
def lasso_holds_c1 (E : Env) (P : Program) (a0 a1 a2 : AV) (H : AH) (R : Kt) : Prop :=
  wGet (binA .add a0 (.val (.int .i64 1))) H fun t6 H =>
  wGet (load1 a1 H) H fun t7 H =>
  wGet (binA .eql t6 t7) H fun t8 H =>
  wIf t8 (
    wGet (faddr 0 a2) H fun t9 H =>
    wGet (load1 t9 H) H fun t10 H =>
    wGet (lenA t10) H fun t11 H =>
    R t11 H) (
    wGet (binA .add a0 (.val (.int .i64 1))) H fun t13 H =>
    R t13 H)

/-- signalbox/lasso.holds$2 -/
def lasso_holds_c2 (E : Env) (P : Program) (a0 a1 a2 a3 a4 : AV) (H : AH) (R : Kt) : Prop :=
  wGet (load1 a2 H) H fun t11 H =>
  wGet (lenA t11) H fun t12 H =>
  wLoop 1 (fun I1 => I1 (.val (.int .i64 0)) H) fun I1 t13 H =>
    wGet (binA .lss t13 t12) H fun t14 H =>
    wIf t14 (
      wGet (load1 a2 H) H fun t16 H =>
      wGet (iaddr 1 t16 t13) H fun t19 H =>
      wPut (store1 t19 a0 H) fun _u H =>
      wGet (binA .add t13 (.val (.int .i64 1))) H fun t20 H =>
      I1 t20 H) (
      wLoop 1 (fun I2 => I2 (.val (.bool true)) H) fun I2 t8 H =>
        wIf t8 (
          wGet (load1 a3 H) H fun t22 H =>
          wGet (binA .sub t22 (.val (.int .i64 1))) H fun t23 H =>
          wLoop 2 (fun I3 => I3 (.val (.bool false)) t23 H) fun I3 t8_1 t9 H =>
            wGet (binA .geq t9 (.val (.int .i64 0))) H fun t25 H =>
            wIf t25 (
              wJoin 1 (fun J4 =>
                wGet (load1 a2 H) H fun t30 H =>
                wGet (load1 a4 H) H fun t31 H =>
                wCallV E P t31 [t9] H fun t33 H =>
                (wGet (load1 a2 H) H (fun y H2 => y = t30 ∧ H2 = H)) ∧
                wGet (iaddr 1 t30 t33) H fun t34 H =>
                wGet (load1 t34 H) H fun t35 H =>
                wCallV E P a1 [t9, t35] H fun t36 H =>
                wGet (load1 a2 H) H fun t38 H =>
                wGet (iaddr 1 t38 t9) H fun t40 H =>
                wGet (load1 t40 H) H fun t41 H =>
                wBool (eqA .bool t36 t41) H true fun t42 H =>
                wIf t42 (
                  wGet (load1 a2 H) H fun t43 H =>
                  wGet (iaddr 1 t43 t9) H fun t46 H =>
                  wPut (store1 t46 t36 H) fun _u H =>
                  J4 (.val (.bool true)) H) (
                  J4 t8_1 H)) fun t8_2 H =>
                wGet (binA .sub t9 (.val (.int .i64 1))) H fun t27 H =>
                I3 t8_2 t27 H) (
              I2 t8_1 H)) (
          R (.tup []) H))

/-- signalbox/lasso.holds$3 -/
def lasso_holds_c3 (E : Env) (P : Program) (a0 a1 a2 : AV) (H : AH) (R : Kt) : Prop :=
  wGet (load1 a2 H) H fun t6 H =>
  wGet (iaddr 1 t6 (.val (.int .i64 1))) H fun t7 H =>
  wGet (load1 t7 H) H fun t8 H =>
  wGet (iaddr 1 t8 a0) H fun t10 H =>
  wGet (load1 t10 H) H fun t11 H =>
  wGuard t11 false H (fun k => wGet (load1 a2 H) H k) fun t13 H =>
  wGuard t11 false H (fun k => wGet (iaddr 1 t13 (.val (.int .i64 0))) H k) fun t14 H =>
  wGuard t11 false H (fun k => wGet (load1 t14 H) H k) fun t15 H =>
  wGuard t11 false H (fun k => k a0 H) fun t16 H =>
  wGuard t11 false H (fun k => wGet (iaddr 1 t15 t16) H k) fun t17 H =>
  wGuard t11 false H (fun k => wGet (load1 t17 H) H k) fun t18 H =>
  wGuard t11 false H (fun k => k t18 H) fun t19 H =>
  wGuard t19 true H (fun k => k a1 H) fun t20 H =>
  wGuard t11 false H (fun k => wGet (pickA t19 t20 (.val (.bool false))) H k) fun t21 H =>
  wGet (pickA t11 (.val (.bool true)) t21) H fun t22 H =>
  R t22 H

/-- signalbox/lasso.holds$4 -/
def lasso_holds_c4 (E : Env) (P : Program) (a0 a1 a2 : AV) (H : AH) (R : Kt) : Prop :=
  wGet (load1 a2 H) H fun t6 H =>
  wGet (iaddr 1 t6 (.val (.int .i64 1))) H fun t7 H =>
  wGet (load1 t7 H) H fun t8 H =>
  wGet (iaddr 1 t8 a0) H fun t10 H =>
  wGet (load1 t10 H) H fun t11 H =>
  wGuard t11 true H (fun k => wGet (load1 a2 H) H k) fun t13 H =>
  wGuard t11 true H (fun k => wGet (iaddr 1 t13 (.val (.int .i64 0))) H k) fun t14 H =>
  wGuard t11 true H (fun k => wGet (load1 t14 H) H k) fun t15 H =>
  wGuard t11 true H (fun k => k a0 H) fun t16 H =>
  wGuard t11 true H (fun k => wGet (iaddr 1 t15 t16) H k) fun t17 H =>
  wGuard t11 true H (fun k => wGet (load1 t17 H) H k) fun t18 H =>
  wGuard t11 true H (fun k => k t18 H) fun t19 H =>
  wGuard t19 false H (fun k => k a1 H) fun t20 H =>
  wGuard t11 true H (fun k => wGet (pickA t19 (.val (.bool true)) t20) H k) fun t21 H =>
  wGet (pickA t11 t21 (.val (.bool false))) H fun t22 H =>
  R t22 H

/-- signalbox/lasso.holds$5 -/
def lasso_holds_c5 (E : Env) (P : Program) (a0 a1 a2 : AV) (H : AH) (R : Kt) : Prop :=
  wGet (load1 a2 H) H fun t6 H =>
  wGet (iaddr 1 t6 (.val (.int .i64 0))) H fun t7 H =>
  wGet (load1 t7 H) H fun t8 H =>
  wGet (iaddr 1 t8 a0) H fun t10 H =>
  wGet (load1 t10 H) H fun t11 H =>
  wGuard t11 false H (fun k => k a1 H) fun t13 H =>
  wGet (pickA t11 (.val (.bool true)) t13) H fun t14 H =>
  R t14 H

/-- signalbox/lasso.holds$6 -/
def lasso_holds_c6 (E : Env) (P : Program) (a0 a1 a2 : AV) (H : AH) (R : Kt) : Prop :=
  wGet (load1 a2 H) H fun t6 H =>
  wGet (iaddr 1 t6 (.val (.int .i64 0))) H fun t7 H =>
  wGet (load1 t7 H) H fun t8 H =>
  wGet (iaddr 1 t8 a0) H fun t10 H =>
  wGet (load1 t10 H) H fun t11 H =>
  wGuard t11 true H (fun k => k a1 H) fun t13 H =>
  wGet (pickA t11 t13 (.val (.bool false))) H fun t14 H =>
  R t14 H

end Go.Sc.F
namespace Go.Sc
open Go
set_option linter.unusedSimpArgs false
set_option linter.unusedVariables false
/-- a formula: none, or a kind, a name and parts -/
inductive Fm where
  | nil
  | mk (k : Int) (s : Str) (of : List Fm)
mutual
def Fm.enc : Fm → AV
  | .nil => nilP
  | .mk k s of => .ptrF [Z k, S s, .slN (Fm.encL of) of.length] 0
def Fm.encL : List Fm → List AV
  | [] => []
  | f :: l => f.enc :: Fm.encL l
end
theorem Fm.encL_map : ∀ l : List Fm, Fm.encL l = l.map Fm.enc
  | [] => by simp [Fm.encL]
  | f :: l => by simp [Fm.encL, Fm.encL_map l]
mutual
theorem Fm.closed : ∀ f : Fm, f.enc.closed
  | .nil => by simp [Fm.enc, AV.closed]
  | .mk k s of => by
    simp only [Fm.enc, AV.closed, AV.closedL, true_and, and_true]
    exact Fm.closedL of
theorem Fm.closedL : ∀ l : List Fm, AV.closedL (Fm.encL l)
  | [] => by simp [Fm.encL, AV.closedL]
  | f :: l => by
    simp only [Fm.encL, AV.closedL]
    exact ⟨Fm.closed f, Fm.closedL l⟩
end
theorem Fm.scalar (f : Fm) : f.enc.scalar = true := by cases f <;> simp [Fm.enc, AV.scalar]

def arityL : List AV := [.val (.int .i64 (-1)), .val (.int .i64 0), .val (.int .i64 0), .val (.int .i64 1), .val (.int .i64 2), .val (.int .i64 2), .val (.int .i64 1), .val (.int .i64 2), .val (.int .i64 2), .val (.int .i64 1), .val (.int .i64 1)]
section
variable {E : Env} {P : Program}
structure RightBodies (E : Env) (P : Program) : Prop where
  n : NameBodies E P
  ar : E.gl 3 = some arityL
  right : Body2 E P 35 F.lasso_right
  right1 : Body1 E P 32 F.lasso_Right
structure LassoBodies (E : Env) (P : Program) : Prop extends RightBodies E P where
  at_ : Body2 E P 30 F.plain_At
  formula : Body1 E P 26 F.plain_Formula
  check : Body1 E P 31 F.lasso_Check
/-- lists of texts, and of those -/
def LS (l : List Str) : AV := Lm (fun s => S s) l
def LL (l : List (List Str)) : AV := Lm LS l
theorem LS_closed (l : List Str) : (LS l).closed := by simp [LS, Lm, AV.closed, closed_S]
theorem LL_closed (l : List (List Str)) : (LL l).closed := by simp only [LL, Lm, AV.closed]; exact closed_map LS_closed l
/-- a word -/
structure Wd where
  ahead : List (List Str)
  round : List (List Str)
def Wd.enc (w : Wd) : AV := .agg [LL w.ahead, LL w.round]
def Wd.n (w : Wd) : Nat := w.ahead.length + w.round.length
/-- no slice is beyond what a machine holds -/
def Wd.sized (w : Wd) : Prop := w.ahead.length < 140737488355328 ∧ w.round.length < 140737488355328 ∧ ∀ l ∈ w.ahead ++ w.round, l.length < 140737488355328
theorem Wd.closed (w : Wd) : w.enc.closed := by simp [Wd.enc, AV.closed, AV.closedL, LL_closed]
/-- a step of plain's -/
structure St where
  k : Int
  a : Int
  b : Int
  s : Str
def St.cells (x : St) : List AV := [Z x.k, Z x.a, Z x.b, S x.s]
def ST (l : List St) : AV := .slN (l.flatMap St.cells) l.length
theorem St.closedL : ∀ l : List St, AV.closedL (l.flatMap St.cells)
  | [] => by simp [AV.closedL]
  | x :: l => by simp [St.cells, AV.closedL, AV.closed, St.closedL l]
theorem St.len : ∀ l : List St, (l.flatMap St.cells).length = l.length * 4
  | [] => rfl
  | x :: l => by simp [St.cells, St.len l]; omega
theorem St.at {pre rest : List St} {x : St} : subL ((pre ++ x :: rest).flatMap St.cells) (pre.length * 4) 4 = some x.cells := by
  have h1 := St.len pre
  have h2 := St.len rest
  rw [List.flatMap_append, List.flatMap_cons]
  unfold subL
  rw [if_pos (by rw [List.length_append, List.length_append, h1, h2]; simp [St.cells]), List.drop_append_of_le_length (by omega), List.drop_of_length_le (by omega)]
  rfl
def one4 (k : Int) : Prop := k = 3 ∨ k = 6 ∨ k = 9 ∨ k = 10
def two4 (k : Int) : Prop := k = 4 ∨ k = 5 ∨ k = 7 ∨ k = 8
instance (k : Int) : Decidable (one4 k) := by unfold one4; exact inferInstance
instance (k : Int) : Decidable (two4 k) := by unfold two4; exact inferInstance
end
end Go.Sc
namespace Go.Sc
open Go
set_option linter.unusedSimpArgs false
set_option linter.unusedVariables false
/-! ### words -/
def Wd.next (w : Wd) (i : Nat) : Nat := if i + 1 = w.n then w.ahead.length else i + 1
def Wd.at (w : Wd) (i : Nat) : List Str := if i < w.ahead.length then w.ahead.getD i [] else w.round.getD (i - w.ahead.length) []
def Wd.it (w : Wd) : Nat → Nat → Nat
  | 0, i => i
  | k + 1, i => Wd.it w k (w.next i)
section
variable {E : Env} {P : Program}
structure HoldBodies (E : Env) (P : Program) : Prop where
  l : LassoBodies E P
  holds : Body2 E P 33 F.lasso_holds
  nx : Body3 E P 36 F.lasso_holds_c1
  fix : Body5 E P 37 F.lasso_holds_c2
  un : Body3 E P 38 F.lasso_holds_c3
  re : Body3 E P 39 F.lasso_holds_c4
  ev : Body3 E P 40 F.lasso_holds_c5
  al : Body3 E P 41 F.lasso_holds_c6

section
variable (B : HoldBodies E P) (i : Nat) (x : Bool) (l0 l1 : List Bool)
include B
end
/-! ### the fixed point -/
def HP (n g0 g1 g2 g3 g4 : Nat) (bs : List Bool) (W t : AV) (z : Blk) (c : Nat) : AH :=
  ⟨[.cells g0 1 [Z n], .cells g1 1 (bs.map fun b => Bo b), .cells g2 1 [.slL 1 0 n g1], .cells g3 1 [.fn 36 [] [.ptrL 0 0 g0, W]], .cells g4 1 [t], z], c⟩
def nw (nowF : Nat → Bool → Bool) (start : Bool) (i : Nat) (x : Bool) : Bool := nowF i (x != start) != start
def Inv (w : Wd) (nowF : Nat → Bool → Bool) (start : Bool) (o : List Bool) : Prop :=
  (∀ i, i < w.n → o.getD i false = true → nw nowF start i (o.getD (w.next i) false) = true) ∧
  ∀ Q : Nat → Prop, (∀ i, i < w.n → ∀ x, (x = true → Q (w.next i)) → nw nowF start i x = true → Q i) → ∀ i, i < w.n → o.getD i false = true → Q i
theorem getD_set {o : List Bool} {i j : Nat} (h : i < o.length) : (o.set i true).getD j false = if i = j then true else o.getD j false := by
  simp only [List.getD, List.getElem?_set]
  by_cases hij : i = j
  · subst hij; simp [h]
  · simp [hij]
theorem Inv.set {w : Wd} {nowF : Nat → Bool → Bool} {start : Bool} {o : List Bool} (hm : ∀ i, i < w.n → nw nowF start i false = true → nw nowF start i true = true) (h : Inv w nowF start o) (hl : o.length = w.n) {j : Nat} (hj : j < w.n)
    (hy : nw nowF start j (o.getD (w.next j) false) = true) : Inv w nowF start (o.set j true) := by
  have up : ∀ i, i < w.n → nw nowF start i (o.getD (w.next i) false) = true → nw nowF start i ((o.set j true).getD (w.next i) false) = true := by
    intro i hi h1
    rw [getD_set (by omega)]
    split
    · cases hx : o.getD (w.next i) false with
      | true => rw [hx] at h1; exact h1
      | false => rw [hx] at h1; exact hm i hi h1
    · exact h1
  refine ⟨fun i hi h1 => ?_, fun Q hQ i hi h1 => ?_⟩
  · rw [getD_set (by omega)] at h1
    split at h1
    · rename_i e; subst e; exact up _ hi hy
    · exact up _ hi (h.1 i hi h1)
  · rw [getD_set (by omega)] at h1
    split at h1
    · rename_i e
      subst e
      refine hQ j hj (o.getD (w.next j) false) (fun h2 => ?_) hy
      by_cases hn : w.next j < w.n
      · exact h.2 Q hQ _ hn h2
      · simp [List.getD, List.getElem?_eq_none (show o.length ≤ w.next j by omega)] at h2
    · exact h.2 Q hQ i hi h1
def Fill (n g0 g1 g2 g3 g4 : Nat) (W t : AV) (z : Blk) (G : List Bool) (m : Nat) (i : AV) (H : AH) : Prop :=
  ∃ (j : Nat) (l : List Bool) (c' : Nat), i = Z j ∧ j ≤ n ∧ m = n - j ∧ H = HP n g0 g1 g2 g3 g4 l W t z c' ∧ l.length = n ∧ ∀ a, a < j → l.getD a false = G.getD a false
theorem Fill.start {n g0 g1 g2 g3 g4 : Nat} {W t : AV} {z : Blk} {G l : List Bool} {c : Nat} (hl : l.length = n) : Fill n g0 g1 g2 g3 g4 W t z G n (Z 0) (HP n g0 g1 g2 g3 g4 l W t z c) := ⟨0, l, c, rfl, by omega, by omega, rfl, hl, by simp⟩
theorem Fill.step {n g0 g1 g2 g3 g4 : Nat} {W t : AV} {z : Blk} {G l : List Bool} {c j : Nat} (hl : l.length = n) (hj : j < n) (hG : ∀ a, a < j → l.getD a false = G.getD a false) {b : Bool} (hb : b = G.getD j false) :
    Fill n g0 g1 g2 g3 g4 W t z G (n - (j + 1)) (Z ((j + 1 : Nat) : Int)) (HP n g0 g1 g2 g3 g4 (l.set j b) W t z c) := by
  refine ⟨j + 1, l.set j b, c, rfl, by omega, rfl, rfl, by simp [hl], fun a ha => ?_⟩
  simp only [List.getD, List.getElem?_set]
  by_cases hja : j = a
  · subst hja; simpa [hl, hj] using hb
  · simp only [hja, if_false]
    exact hG a (by omega)
end
end Go.Sc
namespace Go.Sc
open Go Go.RowKit
set_option linter.unusedVariables false
section
variable {H : Type} {enc : TypeId × Value → H} {P : Program} {W : World} {E : Env}
theorem Dec.texts {tS tL : TypeId} (hS : P.underlying tS = some .string) (hL : P.underlying tL = some (.slice tS)) (hc : P.cellsOf tS = 1) (hb : 0 < P.bytesOf tS) : Dec enc P W E tL (fun l : List Str => [LS l]) (fun l => l.length < 140737488355328) :=
  ((Dec.str hS).slice1 hL hc).map id fun l h => ⟨len_of_reach h.2 hb, rfl⟩
theorem Dec.textss {tS tL tLL : TypeId} (hS : P.underlying tS = some .string) (hL : P.underlying tL = some (.slice tS)) (hLL : P.underlying tLL = some (.slice tL)) (hc : P.cellsOf tS = 1 ∧ P.cellsOf tL = 1) (hb : 0 < P.bytesOf tS ∧ 0 < P.bytesOf tL) :
    Dec enc P W E tLL (fun l : List (List Str) => [LL l]) (fun l => (∀ x ∈ l, x.length < 140737488355328) ∧ l.length < 140737488355328) :=
  ((Dec.texts hS hL hc.1 hb.1).slice1 hLL hc.2).map id fun l h => ⟨⟨h.1, len_of_reach h.2 hb.2⟩, rfl⟩
theorem Dec.word {tS tL tW : TypeId} {f0 f1 : Field} (hS : P.underlying tS = some .string) (hL : P.underlying tL = some (.slice tS)) (h0 : P.underlying f0.type = some (.slice tL)) (h1 : P.underlying f1.type = some (.slice tL)) (hW : P.underlying tW = some (.struct #[f0, f1]))
    (ho : f0.offset = 0 ∧ f1.offset = P.cellsOf f0.type ∧ P.cellsOf tW = P.cellsOf f0.type + P.cellsOf f1.type) (hc : P.cellsOf tS = 1 ∧ P.cellsOf tL = 1) (hb : 0 < P.bytesOf tS ∧ 0 < P.bytesOf tL) :
    Dec enc P W E tW (fun w : Wd => [LL w.ahead, LL w.round]) Wd.sized :=
  (Dec.struct2 (Dec.textss hS hL h0 hc hb) (Dec.textss hS hL h1 hc hb) hW ho).map (fun p => ⟨p.1, p.2⟩) fun p h => ⟨⟨h.1.2, h.2.2, fun l hl => by
    rcases List.mem_append.1 hl with hl | hl
    · exact h.1.1 l hl
    · exact h.2.1 l hl⟩, rfl⟩
theorem Dec.steps {tX tL : TypeId} {f0 f1 f2 f3 : Field} (h0 : P.underlying f0.type = some (.int .i64)) (h1 : P.underlying f1.type = some (.int .i64)) (h2 : P.underlying f2.type = some (.int .i64)) (h3 : P.underlying f3.type = some .string) (hX : P.underlying tX = some (.struct #[f0, f1, f2, f3])) (hL : P.underlying tL = some (.slice tX))
    (ho : f0.offset = 0 ∧ f1.offset = P.cellsOf f0.type ∧ f2.offset = f1.offset + P.cellsOf f1.type ∧ f3.offset = f2.offset + P.cellsOf f2.type ∧ P.cellsOf tX = f3.offset + P.cellsOf f3.type) (hc : P.cellsOf tX = 4) (hb : 0 < P.bytesOf tX) :
    Dec enc P W E tL (fun l : List St => [ST l]) (fun l => (∀ x ∈ l, inI x.k ∧ inI x.a ∧ inI x.b) ∧ l.length < 140737488355328) :=
  (((Dec.struct4 (Dec.i64 h0) (Dec.i64 h1) (Dec.i64 h2) (Dec.str h3) hX ho).map (g := St.cells) (Q' := fun x => inI x.k ∧ inI x.a ∧ inI x.b) (fun p => ⟨p.1, p.2.1, p.2.2.1, p.2.2.2⟩) fun p h => ⟨⟨h.1, h.2.1, h.2.2.1⟩, rfl⟩).slice 4 (fun _ => rfl) (by omega) hL hc).map id fun l h => ⟨⟨h.1, len_of_reach h.2 hb⟩, rfl⟩
end
end Go.Sc
namespace Go.Sc
open Go Go.RowKit
set_option linter.unusedVariables false
section
variable {H : Type} {enc : TypeId × Value → H}
/-- the row out of a contract that is told what is listed, and the world's shape -/
theorem handed_shaped {C : Checked} {os : Os} {f : FuncId} {fn : Func} {s : ChangeSpec} {again : Bool} {X : World → Prop} (hX : ∀ w w' : World, w.heap = w'.heap → X w → X w')
    (own : ownKnob C.prog.godebug = none) (started : os.Started) (noInit : C.prog.inits.idxOf? f = none) (hfn : C.prog.funcs[f]? = some fn)
    (wit : ∃ (w : World) (tape : Tape) (i : Input), w.os = os ∧ (w.forCall tape i).Shaped C.prog ∧ i.vars = [] ∧ Input.okWide C.prog (w.forCall tape i) .any w.heap.size f i ∧
      ((s.pre enc C.prog fn [] false (w.forCall tape i).memory i.args ∧ X (w.forCall tape i).memory) ∧ sizedMet enc C.prog fn (OpenSpec.ofChange s) false (w.forCall tape i).memory i.args) ∧ ({} : Assume).holds C.prog (lone (Frame.enter C.prog f i.args .normal) [] (w.forCall tape i)))
    (k : ∀ (W : World) (base : Nat) (args : Array Value) (ds gs : List (DataW H)) (before : List MemPlace), W.ShapedOpen C.prog → X W →
      (∀ (j : Nat) t v, fn.params[j]? = some t → args[j]? = some v → Value.okWide C.prog W .any base t v) → DataW.Whole enc C.prog fn.params.toList s.vars false W args.toList ds gs before →
      (DataW.weightsEach C.prog (fn.params.toList ++ s.plain.varTypes C.prog) (ds ++ gs)).all (· ≤ reachBytes) = true → Calls C.prog f args W fun e W' => ∃ v, e = .returned v ∧ s.post enc C.prog fn false true false again W args v W') :
    ReturnsInHanded {} C os f .any (fun w args => (s.pre enc C.prog fn [] false w args ∧ X w) ∧ sizedMet enc C.prog fn (OpenSpec.ofChange s) false w args) (s.post enc C.prog fn false true false again) :=
  returnsInHanded_of_calls own started noInit wit fun w tape i _ hsh _ hok hpre _ => by
    have hv := hok.2.2.2
    obtain ⟨fn', h1, _, _, _, _, hval⟩ := hv
    obtain rfl : fn' = fn := Option.some.inj (h1.symm.trans hfn)
    obtain ⟨⟨⟨ds, gs, before, hw, _⟩, hx⟩, hz⟩ := hpre
    refine (k (w.forCall tape i) w.heap.size i.args ds gs before hsh (hX _ _ (by rfl) hx) hval (DataW.Whole.of_heap (w' := w.forCall tape i) (by rfl) hw) (hz.weights hw)).mono fun e W' h => ?_
    obtain ⟨v, rfl, hp⟩ := h
    exact ChangeSpec.post_blind hp
end
section
variable {E : Env} {P : Program}
theorem FX.contains {k gk : Nat} {m : Int} {fn : Func} (hf : P.funcs[E.fn k]? = some fn) (hn : (fn.name == "runtime.NumGoroutine") = false) (hb : fn.body.isNone = false) (hgl : E.gl gk = some [.val (.int .i64 m)])
    (h : ∀ (s sub : ByteArray) (m : Int) (w : World), s.size < 4294967281 → w.cell? ⟨E.gn gk, 0, none⟩ = some (.int .i64 m) → Calls P (E.fn k) #[.string s, .string sub] w fun e w' => e = .returned (.bool (Lib.contains s.data.toList sub.data.toList)) ∧ w' = w)
    (s t : Str) (hs : s.length ≤ 1000) : FX E P k [S s, S t] (Bo (Lib.contains s t)) := by
  refine FX.ofCalls hf hn hb (by simp [AV.closedL, AV.closed]) (by simp [AV.flat]) (by simp [AV.closed]) fun cx vs _ hg hv => ?_
  simp only [LRel, VRel] at hv
  obtain ⟨v0, _, rfl, rfl, v1, _, rfl, rfl, rfl⟩ := hv
  have hc := hg gk _ hgl
  simp only [CRel, VRel] at hc
  obtain ⟨⟨_, u, hu, rfl⟩, _⟩ := hc
  refine (h ⟨s.toArray⟩ ⟨t.toArray⟩ m cx.w (by simp [ByteArray.size]; omega) hu).mono ?_
  rintro e w' ⟨rfl, rfl⟩
  exact ⟨_, rfl, Below.refl _ _, by simp [VRel]⟩
end
end Go.Sc
