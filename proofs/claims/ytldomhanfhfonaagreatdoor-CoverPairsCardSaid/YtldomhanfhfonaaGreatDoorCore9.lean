/- CONTRACTS: what an expression says, of questions that are answered for some names alone. THE LAW ExprBack, out of the contracts. THE LAW ExprHangs, out of the contracts. PLAIN LAWS of tables: numbering, rounds, blocks (no program in sight). PLAIN LAWS OF TABLES: the rounds end; in the table of blocks no two states are alike. PLAIN LAWS OF TABLES, MORE: states of one block tell the same; the table of blocks tells what its states do; the inputs that are told part states at the last one alone. CONTRACTS: package block: Check, number, rounds, Blocks. CONTRACTS: package block: Blocks, Tell; and the keep's helpers. CONTRACTS: package block: Least. CONTRACTS: package block: Part. CONTRACTS: the reference's tables: TableCheck (under way). THE LAW ExprParses, out of the contracts. CONTRACTS: package expr: an expression is made tidy. THE LAW ExprTidies, out of the contracts. CONTRACTS: package cover: pairs of values that show a name. THE LAW CoverShows, out of the contracts. PLAIN LAWS OF CLAUSES: what spreads is so of all values that hold; the first values, true ahead of false. PLAIN LAW: TSEITIN: an expression as clauses: what they say, and that what is told of names determines all. CONTRACTS: package gate: the solver. CONTRACTS: package gate: search, Check, Solve; the reference's GateCheck. CONTRACTS: bare. CONTRACTS: package gate: Check, Solve; the reference's GateCheck, GateSolve. THE LAW GateSolves, out of the contracts. THE LAW GateSolves: the body. CONTRACTS: package gate: an e (of the seat YtldomhanfhfonaaGreatDoor) -/
import Derived.Test.YtldomhanfhfonaaGreatDoorCore8
namespace Go.Sc
open Go
set_option linter.unusedSimpArgs false
set_option linter.unusedVariables false
set_option linter.unnecessarySimpa false
mutual
/-- of its names: those that it asks what they are, those that it asks what they were -/
def Ex.on (Q Q' : Str → Prop) : Ex → Prop
  | .k _ => True
  | .bit s => Q s
  | .rise s => Q s ∧ Q' s
  | .fall s => Q s ∧ Q' s
  | .not x => x.on Q Q'
  | .and l => Ex.onL Q Q' l
  | .or l => Ex.onL Q Q' l
def Ex.onL (Q Q' : Str → Prop) : List Ex → Prop
  | [] => True
  | x :: l => x.on Q Q' ∧ Ex.onL Q Q' l
end
theorem Ex.on_mem {Q Q' : Str → Prop} {x : Ex} : ∀ {l : List Ex}, Ex.onL Q Q' l → x ∈ l → x.on Q Q'
  | y :: l, h, hx => by
    rcases List.mem_cons.1 hx with rfl | hx
    · exact h.1
    · exact Ex.on_mem h.2 hx
mutual
theorem Ex.on_of {Q Q' : Str → Prop} : ∀ x : Ex, x.fine → (∀ s ∈ x.raw nf1, Q s) → (∀ s ∈ x.raw nf2, Q' s) → x.on Q Q'
  | .k _, _, _, _ => trivial
  | .bit s, hf, h1, _ => h1 s (by simp [Ex.raw, nmL, nf1, nameOk_ne hf])
  | .rise s, hf, h1, h2 => ⟨h1 s (by simp [Ex.raw, nmL, nf1, nameOk_ne hf]), h2 s (by simp [Ex.raw, nmL, nf2, nameOk_ne hf])⟩
  | .fall s, hf, h1, h2 => ⟨h1 s (by simp [Ex.raw, nmL, nf1, nameOk_ne hf]), h2 s (by simp [Ex.raw, nmL, nf2, nameOk_ne hf])⟩
  | .not x, hf, h1, h2 => Ex.on_of x hf (fun s hs => h1 s (by simp [Ex.raw, hs])) (fun s hs => h2 s (by simp [Ex.raw, hs]))
  | .and l, hf, h1, h2 => Ex.onL_of l hf.2 (fun s hs => h1 s (by simp [Ex.raw, hs])) (fun s hs => h2 s (by simp [Ex.raw, hs]))
  | .or l, hf, h1, h2 => Ex.onL_of l hf.2 (fun s hs => h1 s (by simp [Ex.raw, hs])) (fun s hs => h2 s (by simp [Ex.raw, hs]))
theorem Ex.onL_of {Q Q' : Str → Prop} : ∀ l : List Ex, Ex.fineL l → (∀ s ∈ Ex.rawL nf1 l, Q s) → (∀ s ∈ Ex.rawL nf2 l, Q' s) → Ex.onL Q Q' l
  | [], _, _, _ => trivial
  | x :: l, hf, h1, h2 => ⟨Ex.on_of x hf.1 (fun s hs => h1 s (by simp [Ex.rawL, hs])) (fun s hs => h2 s (by simp [Ex.rawL, hs])), Ex.onL_of l hf.2 (fun s hs => h1 s (by simp [Ex.rawL, hs])) (fun s hs => h2 s (by simp [Ex.rawL, hs]))⟩
end
/-- a question of names, answered for some -/
structure AsksOn (E : Env) (P : Program) (f : AV) (p : Str → Bool) (Q : Str → Prop) : Prop where
  ok : ∃ k cc, f = .fn k [] cc ∧ AV.closedL cc ∧ ∀ s, Q s → FX E P k ([S s] ++ cc) (Bo (p s))
theorem AsksOn.closed {E : Env} {P : Program} {f : AV} {p : Str → Bool} {Q : Str → Prop} (h : AsksOn E P f p Q) : f.closed := by
  obtain ⟨k, cc, rfl, h, _⟩ := h.ok
  exact ⟨trivial, h⟩
theorem AsksOn.scalar {E : Env} {P : Program} {f : AV} {p : Str → Bool} {Q : Str → Prop} (h : AsksOn E P f p Q) : f.scalar = true := by
  obtain ⟨k, cc, rfl, h, _⟩ := h.ok
  rfl
theorem AsksOn.call {E : Env} {P : Program} {f : AV} {p : Str → Bool} {Q : Str → Prop} (h : AsksOn E P f p Q) (s : Str) (hs : Q s) {H : AH} {K : Kt} (hK : ∀ n, K (Bo (p s)) ⟨H.bs, n⟩) : wCallV E P f [S s] H K := by
  obtain ⟨k, cc, rfl, _, h⟩ := h.ok
  exact wCallV.fx (fs := []) (h s hs) hK
section
variable {E : Env} {P : Program}
theorem Eval_spec1 (B : EvalBodies0 E P) {f g : AV} {p q : Str → Bool} {Q Q' : Str → Prop} (hf : AsksOn E P f p Q) (hg : AsksOn E P g q Q') : ∀ (n : Nat) (x : Ex), x.wt < n → x.wt ≤ 1000000 → x.fine → x.on Q Q' → FX E P 158 [x.enc, f, g] (Bo (x.says p q)) := by
  intro n
  induction n with
  | zero => intro x hx; omega
  | succ n ih =>
    intro x hx hw hfi ho
    refine FX.of' ⟨Ex.enc_closed x, hf.closed, hg.closed, trivial⟩ trivial fun c R hR => B.eval _ _ _ _ _ ?_
    unfold F.expr_Eval
    rw [cells?_scalar hf.scalar]
    refine wNew.F' rfl ?_
    rw [cells?_scalar hg.scalar]
    refine wNew.F' rfl ?_
    have hbox : ∀ l : List Ex, AV.closedL [AV.ptrF [f] 0, .ptrF [g] 0] := fun _ => ⟨⟨hf.closed, trivial⟩, ⟨hg.closed, trivial⟩, trivial⟩
    cases x with
    | k b =>
      simp only [Ex.enc]
      simp only [nd0, Y1n, Y1o, Y1p, Y1q, Y1w, Y1x, Y1y, Y1z, Y20, Y21, Y28, Y2a, AV.cells?, Nat.reduceAdd, Nat.reduceMul, asA, if_pos rfl]
      exact hR _ _ rfl
    | bit s =>
      simp only [Ex.enc]
      simp only [nd0, Y1n, Y1o, Y1p, Y1q, Y1w, Y1x, Y1y, Y1z, Y20, Y21, Y28, Y2a, AV.cells?, Nat.reduceAdd, Nat.reduceMul, asA, show (14 : Nat) = 11 ↔ False by decide, show (14 : Nat) = 14 ↔ True by decide]
      refine hf.call s ho fun n => ?_
      exact hR _ _ rfl
    | rise s =>
      simp only [Ex.enc]
      simp only [nd0, Y1n, Y1o, Y1p, Y1q, Y1w, Y1x, Y1y, Y1z, Y20, Y21, Y28, Y2a, AV.cells?, Nat.reduceAdd, Nat.reduceMul, asA, show (12 : Nat) = 11 ↔ False by decide, show (12 : Nat) = 14 ↔ False by decide, show (12 : Nat) = 12 ↔ True by decide]
      refine hf.call s ho.1 fun n => ?_
      cases hp : p s with
      | false => simp only [nd0, Y1n, Y1o, Y1p, Y1q, Y1w, Y1x, Y1y, Y1z, Y20, Y21, Y28, Y2a, AV.cells?, Nat.reduceAdd, Nat.reduceMul]; exact hR _ _ (by simp [Ex.says, hp])
      | true =>
        simp only [nd0, Y1n, Y1o, Y1p, Y1q, Y1w, Y1x, Y1y, Y1z, Y20, Y21, Y28, Y2a, AV.cells?, Nat.reduceAdd, Nat.reduceMul]
        refine hg.call s ho.2 fun n => ?_
        simp only [nd0, Y1n, Y1o, Y1p, Y1q, Y1w, Y1x, Y1y, Y1z, Y20, Y21, Y28, Y2a, AV.cells?, Nat.reduceAdd, Nat.reduceMul]
        exact hR _ _ (by simp [Ex.says, hp])
    | fall s =>
      simp only [Ex.enc]
      simp only [nd0, Y1n, Y1o, Y1p, Y1q, Y1w, Y1x, Y1y, Y1z, Y20, Y21, Y28, Y2a, AV.cells?, Nat.reduceAdd, Nat.reduceMul, asA, show (13 : Nat) = 11 ↔ False by decide, show (13 : Nat) = 14 ↔ False by decide, show (13 : Nat) = 12 ↔ False by decide, show (13 : Nat) = 13 ↔ True by decide]
      refine hf.call s ho.1 fun n => ?_
      cases hp : p s with
      | true => simp only [nd0, Y1n, Y1o, Y1p, Y1q, Y1w, Y1x, Y1y, Y1z, Y20, Y21, Y28, Y2a, AV.cells?, Nat.reduceAdd, Nat.reduceMul]; exact hR _ _ (by simp [Ex.says, hp])
      | false =>
        simp only [nd0, Y1n, Y1o, Y1p, Y1q, Y1w, Y1x, Y1y, Y1z, Y20, Y21, Y28, Y2a, AV.cells?, Nat.reduceAdd, Nat.reduceMul]
        refine hg.call s ho.2 fun n => ?_
        simp only [nd0, Y1n, Y1o, Y1p, Y1q, Y1w, Y1x, Y1y, Y1z, Y20, Y21, Y28, Y2a, AV.cells?, Nat.reduceAdd, Nat.reduceMul]
        exact hR _ _ (by simp [Ex.says, hp])
    | not x =>
      simp only [Ex.enc]
      simp only [Ex.wt] at hw hx
      simp only [nd0, Y1n, Y1o, Y1p, Y1q, Y1w, Y1x, Y1y, Y1z, Y20, Y21, Y28, Y2a, AV.cells?, Nat.reduceAdd, Nat.reduceMul, asA, show (10 : Nat) = 11 ↔ False by decide, show (10 : Nat) = 14 ↔ False by decide, show (10 : Nat) = 12 ↔ False by decide, show (10 : Nat) = 13 ↔ False by decide, show (10 : Nat) = 10 ↔ True by decide]
      refine wNew.L (l := [nilE]) rfl ?_
      simp only [nd0, Y1n, Y1o, Y1p, Y1q, Y1w, Y1x, Y1y, Y1z, Y20, Y21, Y28, Y2a, AV.cells?, Nat.reduceAdd, Nat.reduceMul]
      rw [storeN_L (n := 1) (xs := [x.enc]) rfl (by simp [Ex.enc_scalar])]
      simp only [nd0, Y1n, Y1o, Y1p, Y1q, Y1w, Y1x, Y1y, Y1z, Y20, Y21, Y28, Y2a, AV.cells?, Nat.reduceAdd, Nat.reduceMul, show putL [nilE] 0 [x.enc] = some [x.enc] from rfl]
      refine wCall.fx (ih x (by omega) (by omega) hfi ho) fun n2 => ?_
      simp only [nd0, Y1n, Y1o, Y1p, Y1q, Y1w, Y1x, Y1y, Y1z, Y20, Y21, Y28, Y2a, AV.cells?, Nat.reduceAdd, Nat.reduceMul]
      exact hR _ _ rfl
    | and l =>
      simp only [Ex.enc]
      simp only [Ex.wt] at hw hx
      have hll := Ex.len_wtL hfi.2
      simp only [nd0, Y1n, Y1o, Y1p, Y1q, Y1w, Y1x, Y1y, Y1z, Y20, Y21, Y28, Y2a, AV.cells?, Nat.reduceAdd, Nat.reduceMul, asA, show (9 : Nat) = 11 ↔ False by decide, show (9 : Nat) = 14 ↔ False by decide, show (9 : Nat) = 12 ↔ False by decide, show (9 : Nat) = 13 ↔ False by decide, show (9 : Nat) = 10 ↔ False by decide, show (9 : Nat) = 9 ↔ True by decide]
      refine wCall.fx (conA_spec B (p := fun x => !x.says p q) l (by omega) (hbox l) fun y hy => ?_) fun n2 => ?_
      · refine FX.of' ⟨Ex.enc_closed y, hbox l⟩ trivial fun c R hR => B.eval1 _ _ _ _ _ ?_
        unfold F.expr_Eval_c1
        simp only [nd0, Y1n, Y1o, Y1p, Y1q, Y1w, Y1x, Y1y, Y1z, Y20, Y21, Y28, Y2a, AV.cells?, Nat.reduceAdd, Nat.reduceMul]
        have := Ex.wt_mem hy
        refine wCall.fx (ih y (by omega) (by omega) (Ex.fine_mem hfi.2 hy) (Ex.on_mem ho hy)) fun n2 => ?_
        simp only [nd0, Y1n, Y1o, Y1p, Y1q, Y1w, Y1x, Y1y, Y1z, Y20, Y21, Y28, Y2a, AV.cells?, Nat.reduceAdd, Nat.reduceMul]
        exact hR _ _ rfl
      · simp only [nd0, Y1n, Y1o, Y1p, Y1q, Y1w, Y1x, Y1y, Y1z, Y20, Y21, Y28, Y2a, AV.cells?, Nat.reduceAdd, Nat.reduceMul]
        exact hR _ _ (by rw [all_any, Ex.says, Ex.allL_eq])
    | or l =>
      simp only [Ex.enc]
      simp only [Ex.wt] at hw hx
      have hll := Ex.len_wtL hfi.2
      simp only [nd0, Y1n, Y1o, Y1p, Y1q, Y1w, Y1x, Y1y, Y1z, Y20, Y21, Y28, Y2a, AV.cells?, Nat.reduceAdd, Nat.reduceMul, asA, show (8 : Nat) = 11 ↔ False by decide, show (8 : Nat) = 14 ↔ False by decide, show (8 : Nat) = 12 ↔ False by decide, show (8 : Nat) = 13 ↔ False by decide, show (8 : Nat) = 10 ↔ False by decide, show (8 : Nat) = 9 ↔ False by decide, show (8 : Nat) = 8 ↔ True by decide]
      refine wCall.fx (conO_spec B (p := fun x => x.says p q) l (by omega) (hbox l) fun y hy => ?_) fun n2 => ?_
      · refine FX.of' ⟨Ex.enc_closed y, hbox l⟩ trivial fun c R hR => B.eval2 _ _ _ _ _ ?_
        unfold F.expr_Eval_c2
        simp only [nd0, Y1n, Y1o, Y1p, Y1q, Y1w, Y1x, Y1y, Y1z, Y20, Y21, Y28, Y2a, AV.cells?, Nat.reduceAdd, Nat.reduceMul]
        have := Ex.wt_mem hy
        refine wCall.fx (ih y (by omega) (by omega) (Ex.fine_mem hfi.2 hy) (Ex.on_mem ho hy)) fun n2 => ?_
        exact hR _ _ rfl
      · exact hR _ _ (by rw [Ex.says, Ex.anyL_eq])
theorem refRow_spec1 (B : RefSaysBodies E P) {f g : AV} {p q : Str → Bool} (hf : f.closed) (hg : g.closed) (x : Ex) (l : List Ex) (hx : x = .and l ∨ x = .or l) (h2 : 2 ≤ l.length) (hl : ∀ y ∈ l, FX E P 180 [y.ref, f, g] (Bo (y.says p q))) (hlen : l.length < 4611686018427387904) {c : Nat} {R : Kt} (hR : ∀ H, R (Bo (x.says p q)) H) :
    F.pref_Expr_Eval E P x.ref f g ⟨[], c⟩ R := by
  have hr : x.ref = .ptrF [S x.kind, S [], .slN (Ex.refL l) l.length] 0 := by rcases hx with rfl | rfl <;> rfl
  have hk : x.kind = [38] ∧ x = .and l ∨ x.kind = [124] ∧ x = .or l := by rcases hx with rfl | rfl <;> simp [Ex.kind]
  have k1 : decide (x.kind = [49]) = false := by rcases hk with ⟨h, _⟩ | ⟨h, _⟩ <;> rw [h] <;> decide
  have k2 : decide (x.kind = [98, 105, 116]) = false := by rcases hk with ⟨h, _⟩ | ⟨h, _⟩ <;> rw [h] <;> decide
  have k3 : decide (x.kind = [94]) = false := by rcases hk with ⟨h, _⟩ | ⟨h, _⟩ <;> rw [h] <;> decide
  have k4 : decide (x.kind = [126]) = false := by rcases hk with ⟨h, _⟩ | ⟨h, _⟩ <;> rw [h] <;> decide
  have k5 : decide (x.kind = [33]) = false := by rcases hk with ⟨h, _⟩ | ⟨h, _⟩ <;> rw [h] <;> decide
  unfold F.pref_Expr_Eval
  rw [hr]
  simp only [nd0, Y1n, Y1o, Y1p, Y1q, Y1w, Y1x, Y1y, Y1z, Y20, Y21, Y28, Y2a, AV.cells?, Nat.reduceAdd, Nat.reduceMul, show (AV.val (.string ⟨#[49]⟩)) = S [49] from rfl, show (AV.val (.string ⟨#[98, 105, 116]⟩)) = S [98, 105, 116] from rfl, show (AV.val (.string ⟨#[94]⟩)) = S [94] from rfl, show (AV.val (.string ⟨#[126]⟩)) = S [126] from rfl, show (AV.val (.string ⟨#[33]⟩)) = S [33] from rfl, k1, k2, k3, k4, k5]
  refine wJoin.one (fun t H => t = Bo true ∧ ∃ n, H = ⟨[], n⟩) ?_ ?_
  · rcases hk with ⟨h, _⟩ | ⟨h, _⟩
    · simp only [nd0, Y1n, Y1o, Y1p, Y1q, Y1w, Y1x, Y1y, Y1z, Y20, Y21, Y28, Y2a, AV.cells?, Nat.reduceAdd, Nat.reduceMul, h, show decide (([38] : Str) = [38]) = true from rfl]; exact gh1.mk ⟨rfl, _, rfl⟩
    · simp only [nd0, Y1n, Y1o, Y1p, Y1q, Y1w, Y1x, Y1y, Y1z, Y20, Y21, Y28, Y2a, AV.cells?, Nat.reduceAdd, Nat.reduceMul, h, show decide (([124] : Str) = [38]) = false from rfl, show decide (([124] : Str) = [124]) = true from rfl]; exact gh1.mk ⟨rfl, _, rfl⟩
  rintro t H ⟨rfl, n1, rfl⟩
  simp only [nd0, Y1n, Y1o, Y1p, Y1q, Y1w, Y1x, Y1y, Y1z, Y20, Y21, Y28, Y2a, AV.cells?, Nat.reduceAdd, Nat.reduceMul]
  refine wLoop.two (fun m t i H => ∃ pre rest c, l = pre ++ rest ∧ i = Z pre.length ∧ m = rest.length ∧ t = Z ((pre.filter fun y => y.says p q).length : Nat) ∧ H = ⟨[], c⟩) l.length (gh2.mk ⟨[], l, _, rfl, rfl, rfl, rfl, rfl⟩) ?_
  rintro m t i H ⟨pre, rest, c, hpr, rfl, rfl, rfl, rfl⟩
  have hc := countL (fun y : Ex => y.says p q) pre
  cases rest with
  | nil =>
    rw [List.append_nil] at hpr
    subst hpr
    simp only [nd0, Y1n, Y1o, Y1p, Y1q, Y1w, Y1x, Y1y, Y1z, Y20, Y21, Y28, Y2a, AV.cells?, Nat.reduceAdd, Nat.reduceMul, Int.lt_irrefl, show (AV.val (.string ⟨#[124]⟩)) = S [124] from rfl]
    have hall : l.all (fun y => y.says p q) = decide ((l.filter fun y => y.says p q).length = l.length) := by
      rw [Bool.eq_iff_iff, decide_eq_true_iff, List.length_filter_eq_length_iff, List.all_eq_true]
    have hany : l.any (fun y => y.says p q) = decide (0 < (l.filter fun y => y.says p q).length) := by
      rw [Bool.eq_iff_iff, decide_eq_true_iff, List.length_filter_pos_iff, List.any_eq_true]
    rcases hk with ⟨h, rfl⟩ | ⟨h, rfl⟩
    · rw [show (Ex.and l).says p q = Ex.allL p q l from rfl, Ex.allL_eq, hall] at hR
      simp only [nd0, Y1n, Y1o, Y1p, Y1q, Y1w, Y1x, Y1y, Y1z, Y20, Y21, Y28, Y2a, AV.cells?, Nat.reduceAdd, Nat.reduceMul, h, show decide (([38] : Str) = [124]) = false from rfl, show (((((l.filter fun y => y.says p q).length : Nat) : Int) = (l.length : Int)) ↔ ((l.filter fun y => y.says p q).length = l.length)) from by omega]
      exact hR _
    · rw [show (Ex.or l).says p q = Ex.anyL p q l from rfl, Ex.anyL_eq, hany] at hR
      by_cases h0 : 0 < (l.filter fun y => y.says p q).length
      · simp only [nd0, Y1n, Y1o, Y1p, Y1q, Y1w, Y1x, Y1y, Y1z, Y20, Y21, Y28, Y2a, AV.cells?, Nat.reduceAdd, Nat.reduceMul, h, show decide (([124] : Str) = [124]) = true from rfl, decide_eq_true (show (0 : Int) < ((l.filter fun y => y.says p q).length : Nat) by omega)]
        rw [decide_eq_true h0] at hR
        exact hR _
      · simp only [nd0, Y1n, Y1o, Y1p, Y1q, Y1w, Y1x, Y1y, Y1z, Y20, Y21, Y28, Y2a, AV.cells?, Nat.reduceAdd, Nat.reduceMul, h, show decide (([124] : Str) = [124]) = true from rfl, decide_eq_false (show ¬ (0 : Int) < ((l.filter fun y => y.says p q).length : Nat) by omega), decide_eq_false (show ¬ ((((l.filter fun y => y.says p q).length : Nat) : Int) = (l.length : Int)) by omega)]
        rw [decide_eq_false h0] at hR
        exact hR _
  | cons y rest =>
    have hym : y ∈ l := by rw [hpr]; simp
    have hlt : pre.length < l.length := by rw [hpr]; simp
    simp only [nd0, Y1n, Y1o, Y1p, Y1q, Y1w, Y1x, Y1y, Y1z, Y20, Y21, Y28, Y2a, AV.cells?, Nat.reduceAdd, Nat.reduceMul, decide_eq_true (show (pre.length : Int) < (l.length : Int) by omega)]
    refine wJoin.one (fun t H => t = Z (((pre ++ [y]).filter fun y => y.says p q).length : Nat) ∧ ∃ n, H = ⟨[], n⟩) ?_ ?_
    · rw [iaddr_Nn hlt]
      simp only [nd0, Y1n, Y1o, Y1p, Y1q, Y1w, Y1x, Y1y, Y1z, Y20, Y21, Y28, Y2a, AV.cells?, Nat.reduceAdd, Nat.reduceMul, show (Ex.refL l)[pre.length]? = some y.ref by rw [Ex.refL_map, hpr]; simp]
      refine wCall.fx (hl y hym) fun n2 => ?_
      cases hy : y.says p q with
      | true =>
        simp only [nd0, Y1n, Y1o, Y1p, Y1q, Y1w, Y1x, Y1y, Y1z, Y20, Y21, Y28, Y2a, AV.cells?, Nat.reduceAdd, Nat.reduceMul]
        rw [binA_succ (by omega)]
        simp only [nd0, Y1n, Y1o, Y1p, Y1q, Y1w, Y1x, Y1y, Y1z, Y20, Y21, Y28, Y2a, AV.cells?, Nat.reduceAdd, Nat.reduceMul]
        exact gh1.mk ⟨by simp [List.filter_append, hy], _, rfl⟩
      | false => simp only [nd0, Y1n, Y1o, Y1p, Y1q, Y1w, Y1x, Y1y, Y1z, Y20, Y21, Y28, Y2a, AV.cells?, Nat.reduceAdd, Nat.reduceMul]; exact gh1.mk ⟨by simp [List.filter_append, hy], _, rfl⟩
    rintro t H ⟨rfl, n3, rfl⟩
    rw [binA_succ (by omega)]
    simp only [nd0, Y1n, Y1o, Y1p, Y1q, Y1w, Y1x, Y1y, Y1z, Y20, Y21, Y28, Y2a, AV.cells?, Nat.reduceAdd, Nat.reduceMul]
    exact back2.mk rest.length (by simp) ⟨pre ++ [y], rest, _, by rw [hpr]; simp, by simp, rfl, rfl, rfl⟩
theorem refEval_spec1 (B : RefSaysBodies E P) {f g : AV} {p q : Str → Bool} {Q Q' : Str → Prop} (hf : AsksOn E P f p Q) (hg : AsksOn E P g q Q') : ∀ (n : Nat) (x : Ex), x.wt < n → x.wt ≤ 1000000 → x.fine → x.on Q Q' → FX E P 180 [x.ref, f, g] (Bo (x.says p q)) := by
  intro n
  induction n with
  | zero => intro x hx; omega
  | succ n ih =>
    intro x hx hw hfi ho
    refine FX.of' ⟨Ex.ref_closed x, hf.closed, hg.closed, trivial⟩ trivial fun c R hR => B.eval _ _ _ _ _ ?_
    cases x with
    | and l =>
      simp only [Ex.wt] at hw hx
      have hll := Ex.len_wtL hfi.2
      exact refRow_spec1 B hf.closed hg.closed _ l (.inl rfl) hfi.1 (fun y hy => ih y (by have := Ex.wt_mem hy; omega) (by have := Ex.wt_mem hy; omega) (Ex.fine_mem hfi.2 hy) (Ex.on_mem ho hy)) (by omega) fun H => hR _ _ rfl
    | or l =>
      simp only [Ex.wt] at hw hx
      have hll := Ex.len_wtL hfi.2
      exact refRow_spec1 B hf.closed hg.closed _ l (.inr rfl) hfi.1 (fun y hy => ih y (by have := Ex.wt_mem hy; omega) (by have := Ex.wt_mem hy; omega) (Ex.fine_mem hfi.2 hy) (Ex.on_mem ho hy)) (by omega) fun H => hR _ _ rfl
    | k b =>
      unfold F.pref_Expr_Eval
      rw [k_ref]
      cases b with
      | true =>
        simp only [nd0, Y1n, Y1o, Y1p, Y1q, Y1w, Y1x, Y1y, Y1z, Y20, Y21, Y28, Y2a, AV.cells?, Nat.reduceAdd, Nat.reduceMul, show (AV.val (.string ⟨#[49]⟩)) = S [49] from rfl, show decide (kS true = [49]) = true from rfl]
        exact hR _ _ rfl
      | false =>
        simp only [nd0, Y1n, Y1o, Y1p, Y1q, Y1w, Y1x, Y1y, Y1z, Y20, Y21, Y28, Y2a, AV.cells?, Nat.reduceAdd, Nat.reduceMul, show (AV.val (.string ⟨#[49]⟩)) = S [49] from rfl, show (AV.val (.string ⟨#[98, 105, 116]⟩)) = S [98, 105, 116] from rfl, show (AV.val (.string ⟨#[94]⟩)) = S [94] from rfl, show (AV.val (.string ⟨#[126]⟩)) = S [126] from rfl, show (AV.val (.string ⟨#[33]⟩)) = S [33] from rfl,
          show decide (kS false = [49]) = false from rfl, show decide (kS false = [98, 105, 116]) = false from rfl, show decide (kS false = [94]) = false from rfl, show decide (kS false = [126]) = false from rfl, show decide (kS false = [33]) = false from rfl]
        refine wJoin.one (fun t H => t = Bo false ∧ ∃ n, H = ⟨[], n⟩) ?_ ?_
        · simp only [nd0, Y1n, Y1o, Y1p, Y1q, Y1w, Y1x, Y1y, Y1z, Y20, Y21, Y28, Y2a, AV.cells?, Nat.reduceAdd, Nat.reduceMul, show (AV.val (.string ⟨#[38]⟩)) = S [38] from rfl, show (AV.val (.string ⟨#[124]⟩)) = S [124] from rfl, show decide (kS false = [38]) = false from rfl, show decide (kS false = [124]) = false from rfl]
          exact gh1.mk ⟨rfl, _, rfl⟩
        rintro t H ⟨rfl, n1, rfl⟩
        simp only [nd0, Y1n, Y1o, Y1p, Y1q, Y1w, Y1x, Y1y, Y1z, Y20, Y21, Y28, Y2a, AV.cells?, Nat.reduceAdd, Nat.reduceMul]
        exact hR _ _ rfl
    | bit s =>
      unfold F.pref_Expr_Eval
      simp only [Ex.ref]
      simp only [nd0, Y1n, Y1o, Y1p, Y1q, Y1w, Y1x, Y1y, Y1z, Y20, Y21, Y28, Y2a, AV.cells?, Nat.reduceAdd, Nat.reduceMul, show (AV.val (.string ⟨#[49]⟩)) = S [49] from rfl, show (AV.val (.string ⟨#[98, 105, 116]⟩)) = S [98, 105, 116] from rfl, show decide (([98, 105, 116] : Str) = [49]) = false from rfl, show decide (([98, 105, 116] : Str) = [98, 105, 116]) = true from rfl]
      refine hf.call s ho fun n => ?_
      exact hR _ _ rfl
    | rise s =>
      unfold F.pref_Expr_Eval
      simp only [Ex.ref]
      simp only [nd0, Y1n, Y1o, Y1p, Y1q, Y1w, Y1x, Y1y, Y1z, Y20, Y21, Y28, Y2a, AV.cells?, Nat.reduceAdd, Nat.reduceMul, show (AV.val (.string ⟨#[49]⟩)) = S [49] from rfl, show (AV.val (.string ⟨#[98, 105, 116]⟩)) = S [98, 105, 116] from rfl, show (AV.val (.string ⟨#[94]⟩)) = S [94] from rfl, show decide (([94] : Str) = [49]) = false from rfl, show decide (([94] : Str) = [98, 105, 116]) = false from rfl, show decide (([94] : Str) = [94]) = true from rfl]
      refine hf.call s ho.1 fun n => ?_
      cases hp : p s with
      | false => simp only [nd0, Y1n, Y1o, Y1p, Y1q, Y1w, Y1x, Y1y, Y1z, Y20, Y21, Y28, Y2a, AV.cells?, Nat.reduceAdd, Nat.reduceMul]; exact hR _ _ (by simp [Ex.says, hp])
      | true =>
        simp only [nd0, Y1n, Y1o, Y1p, Y1q, Y1w, Y1x, Y1y, Y1z, Y20, Y21, Y28, Y2a, AV.cells?, Nat.reduceAdd, Nat.reduceMul]
        refine hg.call s ho.2 fun n => ?_
        simp only [nd0, Y1n, Y1o, Y1p, Y1q, Y1w, Y1x, Y1y, Y1z, Y20, Y21, Y28, Y2a, AV.cells?, Nat.reduceAdd, Nat.reduceMul]
        exact hR _ _ (by simp [Ex.says, hp])
    | fall s =>
      unfold F.pref_Expr_Eval
      simp only [Ex.ref]
      simp only [nd0, Y1n, Y1o, Y1p, Y1q, Y1w, Y1x, Y1y, Y1z, Y20, Y21, Y28, Y2a, AV.cells?, Nat.reduceAdd, Nat.reduceMul, show (AV.val (.string ⟨#[49]⟩)) = S [49] from rfl, show (AV.val (.string ⟨#[98, 105, 116]⟩)) = S [98, 105, 116] from rfl, show (AV.val (.string ⟨#[94]⟩)) = S [94] from rfl, show (AV.val (.string ⟨#[126]⟩)) = S [126] from rfl, show decide (([126] : Str) = [49]) = false from rfl, show decide (([126] : Str) = [98, 105, 116]) = false from rfl, show decide (([126] : Str) = [94]) = false from rfl, show decide (([126] : Str) = [126]) = true from rfl]
      refine hg.call s ho.2 fun n => ?_
      cases hq : q s with
      | false => simp only [nd0, Y1n, Y1o, Y1p, Y1q, Y1w, Y1x, Y1y, Y1z, Y20, Y21, Y28, Y2a, AV.cells?, Nat.reduceAdd, Nat.reduceMul]; exact hR _ _ (by simp [Ex.says, hq])
      | true =>
        simp only [nd0, Y1n, Y1o, Y1p, Y1q, Y1w, Y1x, Y1y, Y1z, Y20, Y21, Y28, Y2a, AV.cells?, Nat.reduceAdd, Nat.reduceMul]
        refine hf.call s ho.1 fun n => ?_
        simp only [nd0, Y1n, Y1o, Y1p, Y1q, Y1w, Y1x, Y1y, Y1z, Y20, Y21, Y28, Y2a, AV.cells?, Nat.reduceAdd, Nat.reduceMul]
        exact hR _ _ (by simp [Ex.says, hq])
    | not y =>
      unfold F.pref_Expr_Eval
      simp only [Ex.ref]
      simp only [Ex.wt] at hw hx
      simp only [nd0, Y1n, Y1o, Y1p, Y1q, Y1w, Y1x, Y1y, Y1z, Y20, Y21, Y28, Y2a, AV.cells?, Nat.reduceAdd, Nat.reduceMul, show (AV.val (.string ⟨#[49]⟩)) = S [49] from rfl, show (AV.val (.string ⟨#[98, 105, 116]⟩)) = S [98, 105, 116] from rfl, show (AV.val (.string ⟨#[94]⟩)) = S [94] from rfl, show (AV.val (.string ⟨#[126]⟩)) = S [126] from rfl, show (AV.val (.string ⟨#[33]⟩)) = S [33] from rfl,
        show decide (([33] : Str) = [49]) = false from rfl, show decide (([33] : Str) = [98, 105, 116]) = false from rfl, show decide (([33] : Str) = [94]) = false from rfl, show decide (([33] : Str) = [126]) = false from rfl, show decide (([33] : Str) = [33]) = true from rfl,
        show ∀ k : IntKind, iaddr 1 (.slN [y.ref] 1) (.val (.int k 0)) = some (.ptrF [y.ref] 0) from fun _ => rfl]
      refine wCall.fx (ih y (by omega) (by omega) hfi ho) fun n2 => ?_
      simp only [nd0, Y1n, Y1o, Y1p, Y1q, Y1w, Y1x, Y1y, Y1z, Y20, Y21, Y28, Y2a, AV.cells?, Nat.reduceAdd, Nat.reduceMul]
      exact hR _ _ rfl
end
end Go.Sc
namespace Go.Sc
open Go
set_option linter.unusedSimpArgs false
set_option linter.unusedVariables false
set_option linter.unnecessarySimpa false
section
variable {p p' q q' : Str → Bool}
end
theorem nm12 (x : Ex) (s : Str) (h : s ∈ nmL nf2 x) : s ∈ nmL nf1 x := by
  cases x <;> first | exact h | (simp [nmL, nf2] at h)
mutual
theorem Ex.edge_name : ∀ (x : Ex) (s : Str), s ∈ x.raw nf2 → s ∈ x.raw nf1
  | .k _, s, h => nm12 _ s h
  | .bit _, s, h => nm12 _ s h
  | .rise _, s, h => nm12 _ s h
  | .fall _, s, h => nm12 _ s h
  | .not y, s, h => by
    simp only [Ex.raw, List.mem_append] at h ⊢
    exact h.imp (nm12 _ s) (Ex.edge_name y s)
  | .and l, s, h => by
    simp only [Ex.raw, List.mem_append] at h ⊢
    exact h.imp (nm12 _ s) (Ex.edgeL_name l s)
  | .or l, s, h => by
    simp only [Ex.raw, List.mem_append] at h ⊢
    exact h.imp (nm12 _ s) (Ex.edgeL_name l s)
theorem Ex.edgeL_name : ∀ (l : List Ex) (s : Str), s ∈ Ex.rawL nf2 l → s ∈ Ex.rawL nf1 l
  | [], s, h => h
  | x :: l, s, h => by
    simp only [Ex.rawL, List.mem_append] at h ⊢
    exact h.imp (Ex.edge_name x s) (Ex.edgeL_name l s)
end
section
variable {E : Env} {P : Program}
/-- those of a list that are not among others -/
def out (r l : List Str) : List Str := r.filter fun s => !decide (s ∈ l)
end
end Go.Sc
namespace Go.Sc
open Go
set_option linter.unusedSimpArgs false
set_option linter.unusedVariables false
set_option linter.unnecessarySimpa false
/-- lists are numbered as they come: those that are seen, and the numbers -/
def numStep (s : List (List Int) × List Int) (l : List Int) : List (List Int) × List Int :=
  match s.1.findIdx? (fun x => decide (x = l)) with
  | some k => (s.1, s.2 ++ [(k : Int)])
  | none => (s.1 ++ [l], s.2 ++ [(s.1.length : Int)])
def numAll (t : List (List Int)) : List (List Int) × List Int := t.foldl numStep ([], [])
def number (t : List (List Int)) : List Int := (numAll t).2
theorem numStep_len (s : List (List Int) × List Int) (l : List Int) : (numStep s l).1.length ≤ s.1.length + 1 ∧ (numStep s l).2.length = s.2.length + 1 := by
  unfold numStep; split <;> simp
theorem numAll_len (t : List (List Int)) : (numAll t).1.length ≤ t.length ∧ (numAll t).2.length = t.length := by
  suffices h : ∀ (t : List (List Int)) s, (t.foldl numStep s).1.length ≤ s.1.length + t.length ∧ (t.foldl numStep s).2.length = s.2.length + t.length by
    simpa [numAll] using h t ([], [])
  intro t
  induction t with
  | nil => simp
  | cons l t ih =>
    intro s
    have h1 := ih (numStep s l)
    have h2 := numStep_len s l
    simp only [List.foldl_cons, List.length_cons]
    omega
theorem numAll_take_succ {t : List (List Int)} {i : Nat} (hi : i < t.length) : numAll (t.take (i + 1)) = numStep (numAll (t.take i)) t[i] := by
  simp only [numAll]
  rw [List.take_succ_eq_append_getElem hi, List.foldl_append]
  rfl
structure Table where
  next : List (List Int)
  tells : List (List Int)
def cell (l : List Int) (i : Nat) : Int := l[i]?.getD 0
def row (t : List (List Int)) (i : Nat) : List Int := t[i]?.getD []
/-- what is told of a state: its block, and by each input what it tells, and the block to which it leads -/
def lineTo (t : Table) (now : List Int) (s i : Nat) : List Int := cell now s :: ((List.range i).map fun j => [cell (row t.tells s) j, cell now (cell (row t.next s) j).toNat]).flatten
def line (t : Table) (now : List Int) (s : Nat) : List Int := lineTo t now s (row t.next s).length
def stepR (t : Table) (now : List Int) : List Int := number ((List.range t.next.length).map (line t now))
def iter (t : Table) : Nat → List Int
  | 0 => List.replicate t.next.length 0
  | k + 1 => stepR t (iter t k)
theorem stepR_len (t : Table) (now : List Int) : (stepR t now).length = t.next.length := by
  have := (numAll_len ((List.range t.next.length).map (line t now))).2
  simpa [stepR, number] using this
/-- does input 'i' part two states 'k' rounds before the end? -/
def parts (t : Table) (k : Nat) (a b i : Nat) : Bool :=
  (decide (k = 1) && decide (cell (row t.tells a) i ≠ cell (row t.tells b) i)) || (decide (k > 1) && decide (cell (iter t (k - 1)) (cell (row t.next a) i).toNat ≠ cell (iter t (k - 1)) (cell (row t.next b) i).toNat))
def t0 : Table := ⟨[[1], [0], [0]], [[5], [5], [6]]⟩
end Go.Sc
namespace Go.Sc
open Go
set_option linter.unnecessarySimpa false
set_option linter.unusedSimpArgs false
/-! ### numbers as they come -/
structure NumInv (t : List (List Int)) (s : List (List Int) × List Int) : Prop where
  len : s.2.length = t.length
  idx : ∀ j, j < t.length → ∃ k : Nat, s.2[j]? = some (k : Int) ∧ s.1[k]? = t[j]?
  nodup : s.1.Nodup
  new : ∀ j, j < t.length → ∀ v : Nat, ∀ k : Nat, s.2[j]? = some (k : Int) → v < k → ∃ j', j' < j ∧ s.2[j']? = some (v : Int)
  all : ∀ v, v < s.1.length → ∃ j, j < t.length ∧ s.2[j]? = some (v : Int)

theorem numInv_step {t : List (List Int)} {s : List (List Int) × List Int} (h : NumInv t s) (l : List Int) : NumInv (t ++ [l]) (numStep s l) := by
  unfold numStep
  cases hf : s.1.findIdx? (fun x => decide (x = l)) with
  | some k =>
    rw [List.findIdx?_eq_some_iff_getElem] at hf
    obtain ⟨hk, hkl, _⟩ := hf
    have hkl : s.1[k] = l := by simpa using hkl
    have hget : ∀ j, j < t.length → (s.2 ++ [(k : Int)])[j]? = s.2[j]? := fun j hj => List.getElem?_append_left (by rw [h.len]; exact hj)
    refine ⟨by simp [h.len], fun j hj => ?_, h.nodup, fun j hj v k' hk' hv => ?_, fun v hv => ?_⟩
    · by_cases hjt : j < t.length
      · obtain ⟨k', h1, h2⟩ := h.idx j hjt
        exact ⟨k', by simp only; rw [hget j hjt]; exact h1, by rw [List.getElem?_append_left hjt]; exact h2⟩
      · have : j = t.length := by simp at hj; omega
        subst this
        exact ⟨k, by simp [← h.len], by simp [List.getElem?_eq_getElem hk, hkl]⟩
    · simp only at hk'
      by_cases hjt : j < t.length
      · rw [hget j hjt] at hk'
        obtain ⟨j', h1, h2⟩ := h.new j hjt v k' hk' hv
        exact ⟨j', h1, by simp only; rw [hget j' (by omega)]; exact h2⟩
      · have : j = t.length := by simp at hj; omega
        subst this
        rw [← h.len] at hk'
        simp at hk'
        obtain ⟨j', h1, h2⟩ := h.all v (by omega)
        exact ⟨j', h1, by simp only; rw [hget j' h1]; exact h2⟩
    · obtain ⟨j', h1, h2⟩ := h.all v hv
      exact ⟨j', by simp; omega, by simp only; rw [hget j' h1]; exact h2⟩
  | none =>
    rw [List.findIdx?_eq_none_iff] at hf
    have hnot : l ∉ s.1 := fun hm => by simpa using hf l hm
    have hget : ∀ j, j < t.length → (s.2 ++ [(s.1.length : Int)])[j]? = s.2[j]? := fun j hj => List.getElem?_append_left (by rw [h.len]; exact hj)
    refine ⟨by simp [h.len], fun j hj => ?_, ?_, fun j hj v k' hk' hv => ?_, fun v hv => ?_⟩
    · by_cases hjt : j < t.length
      · obtain ⟨k', h1, h2⟩ := h.idx j hjt
        refine ⟨k', by simp only; rw [hget j hjt]; exact h1, ?_⟩
        have hk' : k' < s.1.length := by
          rw [List.getElem?_eq_getElem hjt] at h2
          exact lt_of_get h2
        rw [List.getElem?_append_left hjt]
        simp only
        rw [List.getElem?_append_left hk']; exact h2
      · have : j = t.length := by simp at hj; omega
        subst this
        exact ⟨s.1.length, by simp [← h.len], by simp⟩
    · rw [List.nodup_append]
      refine ⟨h.nodup, by simp, ?_⟩
      intro a ha b hb
      simp at hb; subst hb
      rintro rfl; exact hnot ha
    · simp only at hk'
      by_cases hjt : j < t.length
      · rw [hget j hjt] at hk'
        obtain ⟨j', h1, h2⟩ := h.new j hjt v k' hk' hv
        exact ⟨j', h1, by simp only; rw [hget j' (by omega)]; exact h2⟩
      · have : j = t.length := by simp at hj; omega
        subst this
        rw [← h.len] at hk'
        simp at hk'
        obtain ⟨j', h1, h2⟩ := h.all v (by omega)
        exact ⟨j', h1, by simp only; rw [hget j' h1]; exact h2⟩
    · by_cases hvl : v < s.1.length
      · obtain ⟨j', h1, h2⟩ := h.all v hvl
        exact ⟨j', by simp; omega, by simp only; rw [hget j' h1]; exact h2⟩
      · have : v = s.1.length := by simp at hv; omega
        subst this
        exact ⟨t.length, by simp, by simp [← h.len]⟩
theorem numInv_take (t : List (List Int)) : ∀ i, i ≤ t.length → NumInv (t.take i) (numAll (t.take i))
  | 0, _ => by
    simp only [List.take_zero, numAll, List.foldl_nil]
    exact ⟨rfl, by simp, List.nodup_nil, by simp, by simp⟩
  | i + 1, hi => by
    rw [numAll_take_succ (by omega), List.take_succ_eq_append_getElem (by omega)]
    exact numInv_step (numInv_take t i (by omega)) _
theorem numInv (t : List (List Int)) : NumInv t (numAll t) := by
  have := numInv_take t t.length (Nat.le_refl _)
  rwa [List.take_length] at this

theorem number_same {t : List (List Int)} {i j : Nat} (hi : i < t.length) (hj : j < t.length) : (number t)[i]? = (number t)[j]? ↔ t[i]? = t[j]? := by
  have h := numInv t
  obtain ⟨k, h1, h2⟩ := h.idx i hi
  obtain ⟨k', h3, h4⟩ := h.idx j hj
  show (numAll t).2[i]? = (numAll t).2[j]? ↔ _
  rw [h1, h3, ← h2, ← h4]
  have hk : k < (numAll t).1.length := by rw [List.getElem?_eq_getElem hi] at h2; exact lt_of_get h2
  have hk' : k' < (numAll t).1.length := by rw [List.getElem?_eq_getElem hj] at h4; exact lt_of_get h4
  constructor
  · intro e
    injection e with e
    have : k = k' := by omega
    rw [this]
  · intro e
    rw [List.getElem?_eq_getElem hk, List.getElem?_eq_getElem hk'] at e
    injection e with e
    have := (List.getElem_inj h.nodup).1 e
    rw [this]
/-! ### rounds -/
theorem cell_get {l : List Int} {i : Nat} (hi : i < l.length) : l[i]? = some (cell l i) := by simp [cell, hi]
theorem cell_eq_iff {l : List Int} {i j : Nat} (hi : i < l.length) (hj : j < l.length) : l[i]? = l[j]? ↔ cell l i = cell l j := by rw [cell_get hi, cell_get hj]; simp
theorem stepR_same {t : Table} {now : List Int} {i j : Nat} (hi : i < t.next.length) (hj : j < t.next.length) : cell (stepR t now) i = cell (stepR t now) j ↔ line t now i = line t now j := by
  rw [← cell_eq_iff (by rw [stepR_len]; exact hi) (by rw [stepR_len]; exact hj)]
  simp only [stepR]
  rw [number_same (by simpa using hi) (by simpa using hj)]
  simp [hi, hj]
/-- pairs that are alike -/
def alike (u : List Int) (n : Nat) : Nat := (((List.range n).map fun i => (List.range n).map fun j => (i, j)).flatten).countP fun p => decide (u[p.1]? = u[p.2]?)
/-! ### the table of blocks -/
end Go.Sc
namespace Go.Sc
open Go
set_option linter.unusedSimpArgs false
set_option linter.unnecessarySimpa false
/-- rounds part more and more -/
theorem iter_apart {t : Table} {s s' : Nat} (hs : s < t.next.length) (hs' : s' < t.next.length) : ∀ {j k : Nat}, j ≤ k → cell (iter t k) s = cell (iter t k) s' → cell (iter t j) s = cell (iter t j) s' := by
  intro j k hjk
  induction k with
  | zero => intro h; have : j = 0 := by omega
            subst this; exact h
  | succ k ih =>
    intro h
    by_cases hj : j = k + 1
    · subst hj; exact h
    · refine ih (by omega) ?_
      have := (stepR_same (now := iter t k) hs hs').1 h
      simp only [line, lineTo] at this
      injection this

end Go.Sc
namespace Go.Sc
open Go
set_option linter.unusedSimpArgs false
set_option linter.unusedVariables false
set_option linter.unnecessarySimpa false
section
variable {E : Env} {P : Program}
theorem Ex.enc_nil (x : Ex) : eqA .iface x.enc nilE = some false := by cases x <;> rfl
end
end Go.Sc
namespace Go.Sc
open Go
set_option linter.unusedSimpArgs false
set_option linter.unusedVariables false
set_option linter.unnecessarySimpa false
section
variable {E : Env} {P : Program}
end
/-- what 'read' answers -/
def readA (s : Str) : AV := if 1000 < s.length then .tup [nilE, nilP, Bo false] else match parseR s with
  | .ok x _ => .tup [x.enc, x.ref, Bo true]
  | .no _ _ => .tup [nilE, nilP, Bo false]
theorem readA_closed (s : Str) : (readA s).closed := by
  unfold readA
  split
  · exact ⟨trivial, trivial, trivial, trivial⟩
  split
  · exact ⟨Ex.enc_closed _, Ex.ref_closed _, trivial, trivial⟩
  · exact ⟨trivial, trivial, trivial, trivial⟩
section
variable {E : Env} {P : Program}
theorem read_spec0 (er : RefReadBodies E P) (ep : ParseBodies E P) (hB : Body1 E P 169 F.law_read) (s : Str) : FX E P 169 [S s] (readA s) := by
  refine FX.of' ⟨trivial, trivial⟩ (readA_closed s) fun n R hR => hB _ _ _ ?_
  unfold F.law_read
  unfold readA at hR
  simp only [nd0, Y1n, Y1o, Y1p, Y1q, Y1w, Y1x, Y1y, Y1z, Y20, Y21, Y28, Y2a, AV.cells?, Nat.reduceAdd, Nat.reduceMul]
  by_cases hl : 1000 < s.length
  · rw [if_pos hl] at hR
    simp only [nd0, Y1n, Y1o, Y1p, Y1q, Y1w, Y1x, Y1y, Y1z, Y20, Y21, Y28, Y2a, AV.cells?, Nat.reduceAdd, Nat.reduceMul, decide_eq_true (show (1000 : Int) < (s.length : Int) by omega)]
    exact hR _ _ rfl
  rw [if_neg hl] at hR
  simp only [nd0, Y1n, Y1o, Y1p, Y1q, Y1w, Y1x, Y1y, Y1z, Y20, Y21, Y28, Y2a, AV.cells?, Nat.reduceAdd, Nat.reduceMul, decide_eq_false (show ¬ (1000 : Int) < (s.length : Int) by omega)]
  refine wCall.fx (ExprParse_spec er s) fun n => ?_
  have hpar := Parse_spec ep s
  unfold parseA at hpar
  unfold refParseA
  rw [if_neg (by omega)] at hpar
  rw [if_neg (by omega)]
  cases hp : parseR s with
  | no e p =>
    have he := parseR_err hp
    rw [hp] at hR
    simp only [nd0, Y1n, Y1o, Y1p, Y1q, Y1w, Y1x, Y1y, Y1z, Y20, Y21, Y28, Y2a, AV.cells?, Nat.reduceAdd, Nat.reduceMul]
    refine wNew.L (l := [Z 0, Z 0]) rfl ?_
    simp only [nd0, Y1n, Y1o, Y1p, Y1q, Y1w, Y1x, Y1y, Y1z, Y20, Y21, Y28, Y2a, AV.cells?, Nat.reduceAdd, Nat.reduceMul]
    rw [storeN_L (n := 2) (xs := [Z e, Z p]) rfl rfl]
    simp only [nd0, Y1n, Y1o, Y1p, Y1q, Y1w, Y1x, Y1y, Y1z, Y20, Y21, Y28, Y2a, AV.cells?, Nat.reduceAdd, Nat.reduceMul, put_two, decide_eq_false (show ¬ (e : Int) = 0 by omega)]
    exact hR _ _ rfl
  | ok x j =>
    rw [hp] at hpar hR
    simp only [nd0, Y1n, Y1o, Y1p, Y1q, Y1w, Y1x, Y1y, Y1z, Y20, Y21, Y28, Y2a, AV.cells?, Nat.reduceAdd, Nat.reduceMul]
    refine wNew.L (l := [Z 0, Z 0]) rfl ?_
    simp only [nd0, Y1n, Y1o, Y1p, Y1q, Y1w, Y1x, Y1y, Y1z, Y20, Y21, Y28, Y2a, AV.cells?, Nat.reduceAdd, Nat.reduceMul]
    rw [storeN_L (n := 2) (xs := [Z 0, Z (-1)]) rfl rfl]
    simp only [nd0, Y1n, Y1o, Y1p, Y1q, Y1w, Y1x, Y1y, Y1z, Y20, Y21, Y28, Y2a, AV.cells?, Nat.reduceAdd, Nat.reduceMul, put_two, show decide ((0 : Int) = 0) = true from rfl]
    refine wCall.fx hpar fun n => ?_
    simp only [nd0, Y1n, Y1o, Y1p, Y1q, Y1w, Y1x, Y1y, Y1z, Y20, Y21, Y28, Y2a, AV.cells?, Nat.reduceAdd, Nat.reduceMul]
    exact hR _ _ rfl
end
end Go.Sc
namespace Go.Sc.F
open Go Go.Sc
set_option linter.unusedVariables false
/-- signalbox/cover.Pairs -/
def cover_Pairs (E : Env) (P : Program) (a0 : AV) (H : AH) (R : Kt) : Prop :=
  wNew 1 (AV.cells? a0) H fun t1 H =>
  wGet (load1 t1 H) H fun t10 H =>
  wBool (eqA .iface t10 (.val (.nilIface))) H false fun t11 H =>
  wIf t11 (
    R (.tup [(.val (.slice none 0 0)), (.ifc 1 (.val (.int .i64 7)))]) H) (
    wGet (load1 t1 H) H fun t13 H =>
    wCall E P 184 [t13] H fun t14 H =>
    wGet (lenA t14) H fun t15 H =>
    wGet (binA .gtr t15 (.val (.int .i64 0))) H fun t16 H =>
    wIf t16 (
      R (.tup [(.val (.slice none 0 0)), (.ifc 1 (.val (.int .i64 1)))]) H) (
      wGet (load1 t1 H) H fun t18 H =>
      wCall E P 181 [t18] H fun t19 H =>
      wNew 1 (some [(.val (.slice none 0 0))]) H fun t4 H =>
      wPut (store1 t4 t19 H) fun _u H =>
      wGet (load1 t4 H) H fun t20 H =>
      wGet (lenA t20) H fun t21 H =>
      wGet (binA .gtr t21 (.val (.int .i64 8))) H fun t22 H =>
      wIf t22 (
        R (.tup [(.val (.slice none 0 0)), (.ifc 1 (.val (.int .i64 4)))]) H) (
        wGet (load1 t4 H) H fun t25 H =>
        wGet (lenA t25) H fun t26 H =>
        wLoop 2 (fun I1 => I1 (.val (.slice none 0 0)) (.val (.int .i64 0)) H) fun I1 t6 t27 H =>
          wGet (binA .lss t27 t26) H fun t28 H =>
          wIf t28 (
            wJoin 1 (fun J2 =>
              wGet (iaddr 1 t25 t27) H fun t30 H =>
              wGet (load1 t30 H) H fun t31 H =>
              wGet (load1 t4 H) H fun t32 H =>
              wGet (lenA t32) H fun t33 H =>
              wGet (binA .shl (.val (.int .u64 1)) t33) H fun t34 H =>
              wLoop 2 (fun I3 => I3 t6 (.val (.int .u64 0)) H) fun I3 t6_1 t35 H =>
                wGet (binA .lss t35 t34) H fun t36 H =>
                wIf t36 (
                  wGet (binA .shr t35 t27) H fun t40 H =>
                  wGet (binA .and t40 (.val (.int .u64 1))) H fun t41 H =>
                  wGet (binA .eql t41 (.val (.int .u64 0))) H fun t42 H =>
                  wGuard t42 true H (fun k => k (.fn 228 [] [t4, t1]) H) fun t44 H =>
                  wGuard t42 true H (fun k => k t35 H) fun t45 H =>
                  wGuard t42 true H (fun k => k (.fn 228 [] [t4, t1]) H) fun t47 H =>
                  wGuard t42 true H (fun k => k t35 H) fun t48 H =>
                  wGuard t42 true H (fun k => k t27 H) fun t49 H =>
                  wGuard t42 true H (fun k => wGet (binA .shl (.val (.int .u64 1)) t49) H k) fun t50 H =>
                  wGuard t42 true H (fun k => wGet (binA .or t48 t50) H k) fun t51 H =>
                  wGuard t42 true H (fun k => wCallV E P t44 [t45] H k) fun t46 H =>
                  wGuard t42 true H (fun k => wCallV E P t47 [t51] H k) fun t52 H =>
                  wGuard t42 true H (fun k => wBool (eqA .bool t46 t52) H true k) fun t53 H =>
                  wGet (pickA t42 t53 (.val (.bool false))) H fun t54 H =>
                  wIf t54 (
                    wGet (binA .shl (.val (.int .u64 1)) t27) H fun t60 H =>
                    wGet (binA .or t35 t60) H fun t61 H =>
                    wAgg (fillA [(.val (.string ⟨#[]⟩)), (.val (.int .u64 0)), (.val (.int .u64 0))] [(0, 1, t31), (1, 1, t35), (2, 1, t61)]) H fun t62 H =>
                    wNewS 3 1 (fillA (List.replicate 1 [(.val (.string ⟨#[]⟩)), (.val (.int .u64 0)), (.val (.int .u64 0))]).flatten [(0, 3, t62)]) H fun t63 H =>
                    wApp 3 32 t6_1 t63 H fun t64 H =>
                    J2 t64 H) (
                    wGet (binA .add t35 (.val (.int .u64 1))) H fun t65 H =>
                    I3 t6_1 t65 H)) (
                  J2 t6_1 H)) fun t6_2 H =>
              wGet (binA .add t27 (.val (.int .i64 1))) H fun t66 H =>
              I1 t6_2 t66 H) (
            R (.tup [t6, (.val (.nilIface))]) H))))

/-- signalbox/cover.Pairs$1 -/
def cover_Pairs_c1 (E : Env) (P : Program) (a0 a1 a2 : AV) (H : AH) (R : Kt) : Prop :=
  wNew 1 (AV.cells? a0) H fun t3 H =>
  wGet (load1 a2 H) H fun t7 H =>
  wCall E P 158 [t7, (.fn 229 [] [t3, a1]), (.fn 229 [] [t3, a1])] H fun t10 H =>
  R t10 H

/-- signalbox/cover.Pairs$1$1 -/
def cover_Pairs_c1_c1 (E : Env) (P : Program) (a0 a1 a2 : AV) (H : AH) (R : Kt) : Prop :=
  wGet (load1 a1 H) H fun t5 H =>
  wGet (load1 a2 H) H fun t6 H =>
  wCall E P 13 [t6, a0] H fun t8 H =>
  (wGet (load1 a1 H) H (fun y H2 => y = t5 ∧ H2 = H)) ∧
  wGet (binA .shr t5 t8) H fun t9 H =>
  wGet (binA .and t9 (.val (.int .u64 1))) H fun t10 H =>
  wGet (binA .eql t10 (.val (.int .u64 1))) H fun t11 H =>
  R t11 H

end Go.Sc.F
namespace Go.Sc
open Go
set_option linter.unusedSimpArgs false
set_option linter.unusedVariables false
set_option linter.unnecessarySimpa false
/-! ### bits -/
abbrev U (v : Nat) : AV := .val (.int .u64 (v : Nat))
theorem wrap_u {v : Nat} (h : v < 2 ^ 64) : IntKind.u64.wrap (v : Int) = v := by
  rw [wrap_u64]
  omega
theorem shrA {v k : Nat} (h : k < 64) : binA .shr (U v) (Z k) = some (U (v / 2 ^ k)) := by
  simp only [binA]
  rw [if_neg (by omega), show min ((k : Int).toNat) IntKind.u64.bits = k by simp [IntKind.bits]; omega]
  congr 3
  rw [Int.fdiv_eq_ediv_of_nonneg _ (by exact_mod_cast Nat.zero_le _)]
  push_cast
  rfl
theorem shlA {k : Nat} (h : k < 64) : binA .shl (.val (.int .u64 1)) (Z k) = some (U (2 ^ k)) := by
  have h2 : 2 ^ k < 2 ^ 64 := Nat.pow_lt_pow_right (by omega) h
  simp only [binA]
  rw [if_neg (by omega), show min ((k : Int).toNat) IntKind.u64.bits = k by simp [IntKind.bits]; omega]
  congr 3
  rw [Int.one_mul, show ((2 : Int) ^ k) = ((2 ^ k : Nat) : Int) by push_cast; rfl, wrap_u h2]
theorem shlU {k : Nat} (h : k < 64) : binA .shl (U 1) (Z k) = some (U (2 ^ k)) := shlA h
theorem andA {a b : Nat} (ha : a < 2 ^ 64) (hb : b < 2 ^ 64) : binA .and (U a) (U b) = some (U (a &&& b)) := by
  simp only [binA, intBin, if_true, Option.map_some]
  have h1 : (BitVec.ofInt IntKind.u64.bits (a : Int) &&& BitVec.ofInt IntKind.u64.bits (b : Int)).toNat = a &&& b := by
    rw [BitVec.toNat_and, BitVec.toNat_ofInt, BitVec.toNat_ofInt]
    simp only [IntKind.bits]
    congr 1 <;> omega
  rw [h1, wrap_u (Nat.lt_of_le_of_lt Nat.and_le_left ha)]
theorem orA {a b : Nat} (ha : a < 2 ^ 64) (hb : b < 2 ^ 64) : binA .or (U a) (U b) = some (U (a ||| b)) := by
  simp only [binA, intBin, if_true, Option.map_some]
  have h1 : (BitVec.ofInt IntKind.u64.bits (a : Int) ||| BitVec.ofInt IntKind.u64.bits (b : Int)).toNat = a ||| b := by
    rw [BitVec.toNat_or, BitVec.toNat_ofInt, BitVec.toNat_ofInt]
    simp only [IntKind.bits]
    congr 1 <;> omega
  rw [h1, wrap_u (Nat.or_lt_two_pow ha hb)]
theorem binA_U : (.val (.int .u64 1) : AV) = U 1 := rfl
theorem bit_one {v k : Nat} (hv : v < 2 ^ 64) : ((((v / 2 ^ k) &&& 1 : Nat) : Int) = 1) ↔ v.testBit k = true := by
  rw [Nat.and_one_is_mod, Nat.testBit_eq_decide_div_mod_eq, decide_eq_true_iff]
  omega
theorem bit_zero {v k : Nat} (hv : v < 2 ^ 64) : ((((v / 2 ^ k) &&& 1 : Nat) : Int) = 0) ↔ v.testBit k = false := by
  rw [Nat.and_one_is_mod, Nat.testBit_eq_decide_div_mod_eq, decide_eq_false_iff_not]
  omega
def ixN (L : List Str) (s : Str) : Nat := (idx L s).toNat
theorem mem_split {L : List Str} {s : Str} (h : s ∈ L) : ∃ pre rest, L = pre ++ s :: rest ∧ s ∉ pre := by
  induction L with
  | nil => simp at h
  | cons a l ih =>
    by_cases e : s = a
    · subst e; exact ⟨[], l, rfl, by simp⟩
    · obtain ⟨pre, rest, h1, h2⟩ := ih (by simpa [e] using h)
      exact ⟨a :: pre, rest, by rw [h1]; rfl, by simp [e, h2]⟩
theorem ixN_of {L : List Str} {s : Str} (h : s ∈ L) : idx L s = (ixN L s : Nat) := by
  obtain ⟨pre, rest, rfl, hn⟩ := mem_split h
  unfold ixN
  rw [idx_app hn]; simp
theorem ixN_app {pre rest : List Str} {s : Str} (hn : s ∉ pre) : ixN (pre ++ s :: rest) s = pre.length := by unfold ixN; rw [idx_app hn]; simp
theorem ixN_lt {L : List Str} {s : Str} (h : s ∈ L) : ixN L s < L.length := by
  obtain ⟨pre, rest, rfl, hn⟩ := mem_split h
  rw [ixN_app hn]; simp
/-- what an expression says of values of some names -/
def sv (x : Ex) (L : List Str) (v : Nat) : Bool := x.says (fun s => v.testBit (ixN L s)) (fun s => v.testBit (ixN L s))
def pairAt (x : Ex) (L : List Str) (k : Nat) : Option Nat := (List.range (2 ^ L.length)).find? fun v => !v.testBit k && (sv x L v != sv x L (v ||| 2 ^ k))
/-- one pair's cells -/
def Pr (p : Str × Nat × Nat) : List AV := [S p.1, U p.2.1, U p.2.2]
def PrL (l : List (Str × Nat × Nat)) : AV := .slN (l.flatMap Pr) l.length
def pairsUp (x : Ex) (L : List Str) : Nat → List (Str × Nat × Nat)
  | 0 => []
  | k + 1 => pairsUp x L k ++ (match L[k]?, pairAt x L k with
    | some s, some v => [(s, v, v ||| 2 ^ k)]
    | _, _ => [])
def pairsOf (x : Ex) (L : List Str) : List (Str × Nat × Nat) := pairsUp x L L.length
theorem pairsUp_len (x : Ex) (L : List Str) : ∀ k, (pairsUp x L k).length ≤ k
  | 0 => by simp [pairsUp]
  | k + 1 => by
    have := pairsUp_len x L k
    simp only [pairsUp, List.length_append]
    split <;> simp <;> omega
structure CoverBodies (E : Env) (P : Program) : Prop where
  ev : EvalBodies0 E P
  s : SortedBodies E P
  index : Body2 E P 13 F.slices_Index_Lstring_string
  pairs : Body1 E P 225 F.cover_Pairs
  pairs1 : Body3 E P 228 F.cover_Pairs_c1
  pairs2 : Body3 E P 229 F.cover_Pairs_c1_c1
section
variable {E : Env} {P : Program}
theorem isP_spec (B : CoverBodies E P) {L : List Str} (hL : L.length < 60) {v : Nat} (hv : v < 2 ^ 64) {s : Str} (hs : s ∈ L) : FX E P 229 ([S s] ++ [.ptrF [U v] 0, .ptrF [Lm S L] 0]) (Bo (v.testBit (ixN L s))) := by
  have hi := ixN_lt hs
  refine FX.of' ⟨trivial, ⟨trivial, trivial⟩, ⟨closed_S L, trivial⟩, trivial⟩ trivial fun n R hR => B.pairs2 _ _ _ _ _ ?_
  unfold F.cover_Pairs_c1_c1
  simp only [nd0, Y1n, Y1o, Y1p, Y1q, Y1w, Y1x, Y1y, Y1z, Y20, Y21, Y28, Y2a, AV.cells?, Nat.reduceAdd, Nat.reduceMul]
  refine wCall.fx (IndexS_spec B.index L s (by omega)) fun n1 => ?_
  rw [ixN_of hs]
  simp only [nd0, Y1n, Y1o, Y1p, Y1q, Y1w, Y1x, Y1y, Y1z, Y20, Y21, Y28, Y2a, AV.cells?, Nat.reduceAdd, Nat.reduceMul, and_self, true_and]
  have hv2 : v / 2 ^ ixN L s < 2 ^ 64 := Nat.lt_of_le_of_lt (Nat.div_le_self _ _) hv
  rw [shrA (by omega)]
  simp only [nd0, Y1n, Y1o, Y1p, Y1q, Y1w, Y1x, Y1y, Y1z, Y20, Y21, Y28, Y2a, AV.cells?, Nat.reduceAdd, Nat.reduceMul]
  rw [binA_U, andA hv2 (by omega)]
  simp only [nd0, Y1n, Y1o, Y1p, Y1q, Y1w, Y1x, Y1y, Y1z, Y20, Y21, Y28, Y2a, AV.cells?, Nat.reduceAdd, Nat.reduceMul]
  refine hR _ _ ?_
  congr 2
  rw [Bool.eq_iff_iff, decide_eq_true_iff]
  exact bit_one hv
def askP (v : Nat) (L : List Str) : AV := .fn 229 [] [.ptrF [U v] 0, .ptrF [Lm S L] 0]
theorem is_asks (B : CoverBodies E P) {L : List Str} (hL : L.length < 60) {v : Nat} (hv : v < 2 ^ 64) : AsksOn E P (askP v L) (fun s => v.testBit (ixN L s)) (fun s => s ∈ L) :=
  ⟨229, _, rfl, ⟨⟨trivial, trivial⟩, ⟨closed_S L, trivial⟩, trivial⟩, fun s hs => isP_spec B hL hv hs⟩
theorem names_on {x : Ex} (hf : x.fine) : x.on (fun s => s ∈ x.names) (fun s => s ∈ x.names) :=
  Ex.on_of x hf (fun s hs => onceS_mem.2 hs) (fun s hs => onceS_mem.2 (Ex.edge_name x s hs))
theorem sv_spec (B : CoverBodies E P) {x : Ex} (hw : x.wt ≤ 1000000) (hf : x.fine) (hL : x.names.length < 60) {v : Nat} (hv : v < 2 ^ 64) : FX E P 228 ([U v] ++ [.ptrF [Lm S x.names] 0, .ptrF [x.enc] 0]) (Bo (sv x x.names v)) := by
  refine FX.of' ⟨trivial, ⟨closed_S _, trivial⟩, ⟨Ex.enc_closed x, trivial⟩, trivial⟩ trivial fun n R hR => B.pairs1 _ _ _ _ _ ?_
  unfold F.cover_Pairs_c1
  rw [cells?_scalar (show (U v).scalar = true from rfl)]
  refine wNew.F' rfl ?_
  simp only [nd0, Y1n, Y1o, Y1p, Y1q, Y1w, Y1x, Y1y, Y1z, Y20, Y21, Y28, Y2a, AV.cells?, Nat.reduceAdd, Nat.reduceMul]
  have ha := is_asks B hL hv
  refine wCall.fx (Eval_spec1 B.ev ha ha (x.wt + 1) x (by omega) hw hf (names_on hf)) fun n1 => ?_
  exact hR _ _ rfl
def cond (x : Ex) (k v : Nat) : Bool := !v.testBit k && (sv x x.names v != sv x x.names (v ||| 2 ^ k))
def pairsA (x : Ex) : AV := if 0 < x.edges.length then .tup [nilS, Er 1] else if 8 < x.names.length then .tup [nilS, Er 4] else .tup [PrL (pairsOf x x.names), nilE]
theorem PrL_closed (l : List (Str × Nat × Nat)) : (PrL l).closed := by
  simp only [PrL, AV.closed]
  induction l with
  | nil => trivial
  | cons a l ih => exact ⟨trivial, trivial, trivial, ih⟩
theorem pairsA_closed (x : Ex) : (pairsA x).closed := by
  unfold pairsA
  split
  · exact ⟨trivial, Er_closed _, trivial⟩
  split
  · exact ⟨trivial, Er_closed _, trivial⟩
  · exact ⟨PrL_closed _, trivial, trivial⟩
theorem flat_len (l : List (Str × Nat × Nat)) : (l.flatMap Pr).length = l.length * 3 := by
  induction l with
  | nil => rfl
  | cons a l ih => simp only [List.flatMap_cons, List.length_append, ih, List.length_cons, Pr, List.length_nil]; omega
set_option maxHeartbeats 1000000 in
theorem Pairs_spec (B : CoverBodies E P) (x : Ex) (hw : x.wt ≤ 1000000) (hf : x.fine) : FX E P 225 [x.enc] (pairsA x) := by
  refine FX.of ⟨Ex.enc_closed x, trivial⟩ (pairsA_closed x) fun n R hR => B.pairs _ _ _ ?_
  unfold F.cover_Pairs
  rw [cells?_scalar (Ex.enc_scalar x)]
  refine wNew.F' rfl ?_
  simp only [nd0, Y1n, Y1o, Y1p, Y1q, Y1w, Y1x, Y1y, Y1z, Y20, Y21, Y28, Y2a, AV.cells?, Nat.reduceAdd, Nat.reduceMul, Ex.enc_nil]
  unfold pairsA at hR
  refine wCall.fx (Edges_spec B.s x hw hf) fun n1 => ?_
  rw [Lm_S]
  simp only [nd0, Y1n, Y1o, Y1p, Y1q, Y1w, Y1x, Y1y, Y1z, Y20, Y21, Y28, Y2a, AV.cells?, Nat.reduceAdd, Nat.reduceMul]
  by_cases he : 0 < x.edges.length
  · rw [if_pos he] at hR
    simp only [nd0, Y1n, Y1o, Y1p, Y1q, Y1w, Y1x, Y1y, Y1z, Y20, Y21, Y28, Y2a, AV.cells?, Nat.reduceAdd, Nat.reduceMul, decide_eq_true (show (0 : Int) < (x.edges.length : Int) by omega)]
    exact hR _ _ (.same _)
  rw [if_neg he] at hR
  simp only [nd0, Y1n, Y1o, Y1p, Y1q, Y1w, Y1x, Y1y, Y1z, Y20, Y21, Y28, Y2a, AV.cells?, Nat.reduceAdd, Nat.reduceMul, decide_eq_false (show ¬ (0 : Int) < (x.edges.length : Int) by omega)]
  refine wCall.fx (Names_spec B.s x hw hf) fun n2 => ?_
  refine wNew.L (l := [nilS]) rfl ?_
  simp only [nd0, Y1n, Y1o, Y1p, Y1q, Y1w, Y1x, Y1y, Y1z, Y20, Y21, Y28, Y2a, AV.cells?, Nat.reduceAdd, Nat.reduceMul]
  rw [store1_L rfl]
  simp only [nd0, Y1n, Y1o, Y1p, Y1q, Y1w, Y1x, Y1y, Y1z, Y20, Y21, Y28, Y2a, AV.cells?, Nat.reduceAdd, Nat.reduceMul, Nat.reduceLT]
  by_cases hn : 8 < x.names.length
  · rw [if_pos hn] at hR
    simp only [nd0, Y1n, Y1o, Y1p, Y1q, Y1w, Y1x, Y1y, Y1z, Y20, Y21, Y28, Y2a, AV.cells?, Nat.reduceAdd, Nat.reduceMul, decide_eq_true (show (8 : Int) < (x.names.length : Int) by omega)]
    exact hR _ _ (.same _)
  rw [if_neg hn] at hR
  simp only [nd0, Y1n, Y1o, Y1p, Y1q, Y1w, Y1x, Y1y, Y1z, Y20, Y21, Y28, Y2a, AV.cells?, Nat.reduceAdd, Nat.reduceMul, decide_eq_false (show ¬ (8 : Int) < (x.names.length : Int) by omega)]
  have hp0 : 0 < 2 ^ x.names.length := Nat.two_pow_pos _
  have hp8 : 2 ^ x.names.length ≤ 2 ^ 8 := Nat.pow_le_pow_right (by omega) (by omega)
  have hfz : ∀ (v : Nat) (bs : List Blk) (c : Nat), FkL ⟨.cells n2 1 [Lm S x.names] :: bs, c⟩ S0 ([] ++ [U v] ++ [.ptrL 0 0 n2, .ptrF [x.enc] 0]) ([U v] ++ [.ptrF [Lm S x.names] 0, .ptrF [x.enc] 0]) := fun v bs c =>
    .cons (.same _) (.cons (Fk.ptrF 1 rfl rfl (FkL.same _)) (.cons (.same _) .nil))
  refine wLoop.two (fun m t i H => ∃ k z c, k ≤ x.names.length ∧ i = Z (k : Nat) ∧ m = x.names.length - k ∧ Gr 3 z 1 t ((pairsUp x x.names k).flatMap Pr) (pairsUp x x.names k).length ∧ H = ⟨[.cells n2 1 [Lm S x.names], z], c⟩) x.names.length
    (gh2.of (ghost_room [.dead] (by simp)) ⟨0, .dead, _, by omega, rfl, rfl, .nil, rfl⟩) ?_
  rintro m t i H ⟨k, z, c, hk, rfl, rfl, hg, rfl⟩
  by_cases hlt : k < x.names.length
  case neg =>
    have : k = x.names.length := by omega
    subst this
    simp only [nd0, Y1n, Y1o, Y1p, Y1q, Y1w, Y1x, Y1y, Y1z, Y20, Y21, Y28, Y2a, AV.cells?, Nat.reduceAdd, Nat.reduceMul, decide_eq_false (show ¬ ((x.names.length : Int) < (x.names.length : Int)) by omega)]
    refine hR _ _ ?_
    exact Fk.tup (.cons (.sub hg.sub) (FkL.same _))
  simp only [nd0, Y1n, Y1o, Y1p, Y1q, Y1w, Y1x, Y1y, Y1z, Y20, Y21, Y28, Y2a, AV.cells?, Nat.reduceAdd, Nat.reduceMul, decide_eq_true (show (k : Int) < (x.names.length : Int) by omega)]
  have hkey : x.names[k]? = some x.names[k] := List.getElem?_eq_getElem hlt
  refine wJoin.one (fun t H => ∃ z c, Gr 3 z 1 t ((pairsUp x x.names (k + 1)).flatMap Pr) (pairsUp x x.names (k + 1)).length ∧ H = ⟨[.cells n2 1 [Lm S x.names], z], c⟩) ?_ ?_
  case refine_2 =>
    rintro t H ⟨z, c, hg, rfl⟩
    rw [binA_succ (by omega)]
    simp only [nd0, Y1n, Y1o, Y1p, Y1q, Y1w, Y1x, Y1y, Y1z, Y20, Y21, Y28, Y2a, AV.cells?, Nat.reduceAdd, Nat.reduceMul]
    exact back2.mk _ (by omega) ⟨k + 1, z, c, by omega, rfl, rfl, hg, rfl⟩
  rw [iaddr_Nn hlt]
  simp only [nd0, Y1n, Y1o, Y1p, Y1q, Y1w, Y1x, Y1y, Y1z, Y20, Y21, Y28, Y2a, AV.cells?, Nat.reduceAdd, Nat.reduceMul, show (x.names.map fun s => S s)[k]? = some (S x.names[k]) by rw [List.getElem?_map, hkey]; rfl]
  rw [shlA (by omega)]
  simp only [nd0, Y1n, Y1o, Y1p, Y1q, Y1w, Y1x, Y1y, Y1z, Y20, Y21, Y28, Y2a, AV.cells?, Nat.reduceAdd, Nat.reduceMul]
  refine wLoop.two (fun m t' i H => ∃ v c, v ≤ 2 ^ x.names.length ∧ i = U v ∧ m = 2 ^ x.names.length - v ∧ t' = t ∧ (∀ w < v, cond x k w = false) ∧ H = ⟨[.cells n2 1 [Lm S x.names], z], c⟩) (2 ^ x.names.length) (gh2.mk ⟨0, c, by omega, rfl, rfl, rfl, by simp, rfl⟩) ?_
  rintro m tt i H ⟨v, c1, hv, rfl, rfl, rfl, hno, rfl⟩
  by_cases hvl : v < 2 ^ x.names.length
  case neg =>
    simp only [nd0, Y1n, Y1o, Y1p, Y1q, Y1w, Y1x, Y1y, Y1z, Y20, Y21, Y28, Y2a, AV.cells?, Nat.reduceAdd, Nat.reduceMul, decide_eq_false (show ¬ ((v : Int) < ((2 ^ x.names.length : Nat) : Int)) by omega)]
    have hnone : pairAt x x.names k = none := by
      unfold pairAt
      rw [List.find?_range_eq_none]
      intro w hw
      have := hno w (by omega)
      unfold cond at this
      simp [this]
    refine gh1.mk ⟨z, c1, ?_, rfl⟩
    simpa [pairsUp, hkey, hnone] using hg
  have hk2 : 2 ^ k ≤ 2 ^ 8 := Nat.pow_le_pow_right (by omega) (by omega)
  simp only [nd0, Y1n, Y1o, Y1p, Y1q, Y1w, Y1x, Y1y, Y1z, Y20, Y21, Y28, Y2a, AV.cells?, Nat.reduceAdd, Nat.reduceMul, decide_eq_true (show ((v : Int) < ((2 ^ x.names.length : Nat) : Int)) by omega)]
  rw [shrA (by omega)]
  simp only [nd0, Y1n, Y1o, Y1p, Y1q, Y1w, Y1x, Y1y, Y1z, Y20, Y21, Y28, Y2a, AV.cells?, Nat.reduceAdd, Nat.reduceMul]
  have hdiv : v / 2 ^ k < 2 ^ 64 := Nat.lt_of_le_of_lt (Nat.div_le_self _ _) (by omega)
  rw [binA_U, andA hdiv (by omega)]

  simp only [nd0, Y1n, Y1o, Y1p, Y1q, Y1w, Y1x, Y1y, Y1z, Y20, Y21, Y28, Y2a, AV.cells?, Nat.reduceAdd, Nat.reduceMul, show (0 : Int) = ((0 : Nat) : Int) from rfl]
  have next : ∀ c2 : Nat, cond x k v = false → back2 (fun m t' i H => ∃ v c, v ≤ 2 ^ x.names.length ∧ i = U v ∧ m = 2 ^ x.names.length - v ∧ t' = tt ∧ (∀ w < v, cond x k w = false) ∧ H = ⟨[.cells n2 1 [Lm S x.names], z], c⟩) (2 ^ x.names.length - v) tt (U (v + 1)) ⟨[.cells n2 1 [Lm S x.names], z], c2⟩ := fun c2 h =>
    back2.mk _ (by omega) ⟨v + 1, c2, by omega, rfl, rfl, rfl, fun w hw => by
      rcases Nat.lt_or_ge w v with h1 | h1
      · exact hno w h1
      · rw [show w = v by omega]; exact h, rfl⟩
  have hadd : binA .add (U v) (U 1) = some (U (v + 1)) := by
    rw [show U 1 = (.val (.int .u64 1) : AV) from rfl, binA_add', show ((v : Int) + 1) = ((v + 1 : Nat) : Int) by push_cast; rfl, wrap_u (by omega)]
  cases hb : v.testBit k with
  | true =>
    simp only [nd0, Y1n, Y1o, Y1p, Y1q, Y1w, Y1x, Y1y, Y1z, Y20, Y21, Y28, Y2a, AV.cells?, Nat.reduceAdd, Nat.reduceMul, decide_eq_false (show ¬ ((((v / 2 ^ k) &&& 1 : Nat) : Int) = ((0 : Nat) : Int)) from fun h => by rw [(bit_zero (by omega)).1 h] at hb; cases hb)]
    rw [hadd]
    simp only [nd0, Y1n, Y1o, Y1p, Y1q, Y1w, Y1x, Y1y, Y1z, Y20, Y21, Y28, Y2a, AV.cells?, Nat.reduceAdd, Nat.reduceMul]
    exact next _ (by unfold cond; rw [hb]; rfl)
  | false =>
    simp only [nd0, Y1n, Y1o, Y1p, Y1q, Y1w, Y1x, Y1y, Y1z, Y20, Y21, Y28, Y2a, AV.cells?, Nat.reduceAdd, Nat.reduceMul, decide_eq_true (show ((((v / 2 ^ k) &&& 1 : Nat) : Int) = ((0 : Nat) : Int)) from (bit_zero (by omega)).2 hb)]
    rw [shlU (by omega)]
    simp only [nd0, Y1n, Y1o, Y1p, Y1q, Y1w, Y1x, Y1y, Y1z, Y20, Y21, Y28, Y2a, AV.cells?, Nat.reduceAdd, Nat.reduceMul]
    rw [orA (by omega) (by omega)]
    simp only [nd0, Y1n, Y1o, Y1p, Y1q, Y1w, Y1x, Y1y, Y1z, Y20, Y21, Y28, Y2a, AV.cells?, Nat.reduceAdd, Nat.reduceMul]
    have hor : v ||| 2 ^ k < 2 ^ 64 := Nat.or_lt_two_pow (by omega) (by omega)
    refine wCallV.bo (fs := []) (cs := [.ptrL 0 0 n2, .ptrF [x.enc] 0]) (sv_spec B hw hf (by omega) (v := v) (by omega)) trivial (hfz v _ _) fun n3 => ?_
    simp only [nd0, Y1n, Y1o, Y1p, Y1q, Y1w, Y1x, Y1y, Y1z, Y20, Y21, Y28, Y2a, AV.cells?, Nat.reduceAdd, Nat.reduceMul]
    refine wCallV.bo (fs := []) (cs := [.ptrL 0 0 n2, .ptrF [x.enc] 0]) (sv_spec B hw hf (by omega) (v := v ||| 2 ^ k) hor) trivial (hfz (v ||| 2 ^ k) _ _) fun n4 => ?_
    simp only [nd0, Y1n, Y1o, Y1p, Y1q, Y1w, Y1x, Y1y, Y1z, Y20, Y21, Y28, Y2a, AV.cells?, Nat.reduceAdd, Nat.reduceMul]
    cases hs : sv x x.names v == sv x x.names (v ||| 2 ^ k) with
    | true =>
      simp only [nd0, Y1n, Y1o, Y1p, Y1q, Y1w, Y1x, Y1y, Y1z, Y20, Y21, Y28, Y2a, AV.cells?, Nat.reduceAdd, Nat.reduceMul]
      rw [hadd]
      simp only [nd0, Y1n, Y1o, Y1p, Y1q, Y1w, Y1x, Y1y, Y1z, Y20, Y21, Y28, Y2a, AV.cells?, Nat.reduceAdd, Nat.reduceMul]
      exact next _ (by unfold cond; rw [hb, bne, hs]; rfl)
    | false =>
      simp only [nd0, Y1n, Y1o, Y1p, Y1q, Y1w, Y1x, Y1y, Y1z, Y20, Y21, Y28, Y2a, AV.cells?, Nat.reduceAdd, Nat.reduceMul]
      have hsome : pairAt x x.names k = some v := by
        unfold pairAt
        rw [List.find?_range_eq_some]
        refine ⟨by rw [hb, bne, hs]; rfl, by simpa using hvl, fun w hw => ?_⟩
        have := hno w hw
        unfold cond at this
        rw [this]; rfl
      rw [show fillA [S [], U 0, U 0] [(0, 1, S x.names[k]), (1, 1, U v), (2, 1, U (v ||| 2 ^ k))] = some [S x.names[k], U v, U (v ||| 2 ^ k)] from rfl]
      simp only [nd0, Y1n, Y1o, Y1p, Y1q, Y1w, Y1x, Y1y, Y1z, Y20, Y21, Y28, Y2a, AV.cells?, Nat.reduceAdd, Nat.reduceMul]
      refine wNewS.F' (l := [S x.names[k], U v, U (v ||| 2 ^ k)]) rfl rfl ?_
      refine wApp.gr hg rfl (flat_len _) (new := [S x.names[k], U v, U (v ||| 2 ^ k)]) (m := 1) rfl (.refl _) rfl (by have := pairsUp_len x x.names k; simp [mostBytes]; omega) fun z' x' c' k' => ?_
      simp only [nd0, Y1n, Y1o, Y1p, Y1q, Y1w, Y1x, Y1y, Y1z, Y20, Y21, Y28, Y2a, AV.cells?, Nat.reduceAdd, Nat.reduceMul]
      refine gh1.mk ⟨z', c', ?_, rfl⟩
      simpa [pairsUp, hkey, hsome, Pr] using k'
end
end Go.Sc
namespace Go.Sc
open Go
set_option linter.unusedSimpArgs false
set_option linter.unusedVariables false
set_option linter.unnecessarySimpa false
section
variable {E : Env} {P : Program}
theorem iaddrPr {l : List (Str × Nat × Nat)} {i : Nat} {k : IntKind} (h : i < l.length) : iaddr 3 (PrL l) (.val (.int k i)) = some (.ptrF (l.flatMap Pr) (i * 3)) := by
  unfold PrL; rw [iaddr_N (by omega)]; simp
theorem subPr : ∀ {l : List (Str × Nat × Nat)} {i : Nat} {p : Str × Nat × Nat}, l[i]? = some p → subL (l.flatMap Pr) (i * 3) 3 = some (Pr p)
  | [], i, p, h => by simp at h
  | a :: l, 0, p, h => by
    simp at h; subst h
    simp [subL, Pr]
  | a :: l, i + 1, p, h => by
    have := subPr (l := l) (i := i) (p := p) (by simpa using h)
    unfold subL at this ⊢
    have hl := flat_len l
    have hi : i < l.length := (List.getElem?_eq_some_iff.1 (show l[i]? = some p by simpa using h)).1
    rw [if_pos (by omega)] at this
    rw [if_pos (by simp only [List.flatMap_cons, List.length_append, hl, Pr, List.length_cons, List.length_nil]; omega)]
    rw [List.flatMap_cons, show (i + 1) * 3 = (Pr a).length + i * 3 by simp only [Pr, List.length_cons, List.length_nil]; omega, List.drop_append]
    rw [List.drop_of_length_le (by omega), List.nil_append, Nat.add_sub_cancel_left]
    exact this
theorem lenPr {l : List (Str × Nat × Nat)} : lenA (PrL l) = some (Z l.length) := rfl
end
end Go.Sc
namespace Go.Sc
open Go
set_option linter.unusedSimpArgs false
set_option linter.unnecessarySimpa false
set_option linter.unusedVariables false
/-- what a literal comes to: 1, -1, or 0 -/
def lv (of : List Int) (x : Int) : Int := if x < 0 then - cell of (-x).toNat else cell of x.toNat
def lh (a : Nat → Bool) (x : Int) : Bool := if x < 0 then !a (-x).toNat else a x.toNat
def Sats (a : Nat → Bool) (all : List (List Int)) : Prop := ∀ c ∈ all, ∃ x ∈ c, lh a x = true
def okLit (V : Nat) (x : Int) : Prop := x ≠ 0 ∧ -(V : Int) ≤ x ∧ x ≤ V
def vr (x : Int) : Nat := x.natAbs
def litSet (of : List Int) (x : Int) : List Int := of.set (vr x) (if x < 0 then -1 else 1)
structure Sol (V : Nat) (of : List Int) : Prop where
  len : of.length = V + 1
  val : ∀ i, cell of i = 0 ∨ cell of i = 1 ∨ cell of i = -1
def Exts (V : Nat) (a : Nat → Bool) (of : List Int) : Prop := ∀ i, 1 ≤ i → i ≤ V → (cell of i = 1 → a i = true) ∧ (cell of i = -1 → a i = false)
def Grow (V : Nat) (of tr of' tr' : List Int) : Prop :=
  ∃ new : List Int, tr' = tr ++ new ∧ (∀ t ∈ new, 1 ≤ t ∧ t ≤ V ∧ cell of t.toNat = 0 ∧ cell of' t.toNat ≠ 0) ∧ ∀ i : Nat, (i : Int) ∉ new → cell of' i = cell of i
theorem Grow.refl (V : Nat) (of tr : List Int) : Grow V of tr of tr := ⟨[], by simp, by simp, by simp⟩
theorem Grow.trans {V : Nat} {a ta b tb c tc : List Int} (h : Grow V a ta b tb) (k : Grow V b tb c tc) : Grow V a ta c tc := by
  obtain ⟨n1, rfl, h2, h3⟩ := h
  obtain ⟨n2, rfl, k2, k3⟩ := k
  refine ⟨n1 ++ n2, by simp, fun t ht => ?_, fun i hi => ?_⟩
  · rcases List.mem_append.1 ht with h | h
    · obtain ⟨q1, q2, q3, q4⟩ := h2 t h
      refine ⟨q1, q2, q3, ?_⟩
      by_cases hm : t ∈ n2
      · exact absurd (k2 t hm).2.2.1 q4
      · rw [k3 t.toNat (by rw [Int.toNat_of_nonneg (by omega)]; exact hm)]; exact q4
    · obtain ⟨q1, q2, q3, q4⟩ := k2 t h
      refine ⟨q1, q2, ?_, q4⟩
      by_cases hm : t ∈ n1
      · exact absurd q3 (h2 t hm).2.2.2
      · rw [← h3 t.toNat (by rw [Int.toNat_of_nonneg (by omega)]; exact hm)]; exact q3
  · simp only [List.mem_append, not_or] at hi
    rw [k3 i hi.2, h3 i hi.1]
theorem cell_set {l : List Int} {i j : Nat} {v : Int} (h : i < l.length) : cell (l.set i v) j = if j = i then v else cell l j := by
  unfold cell
  by_cases e : j = i
  · subst e; simp [h]
  · rw [if_neg e, List.getElem?_set_ne (fun h => e h.symm)]
theorem vr_lt {V : Nat} {x : Int} (h : okLit V x) : 1 ≤ vr x ∧ vr x ≤ V := by unfold okLit vr at *; omega
theorem lv_vr {of : List Int} {x : Int} (h : x ≠ 0) : lv of x = 0 ↔ cell of (vr x) = 0 := by
  unfold lv vr
  by_cases hx : x < 0
  · rw [if_pos hx, show x.natAbs = (-x).toNat by omega]; omega
  · rw [if_neg hx, show x.natAbs = x.toNat by omega]
theorem Sol.set {V : Nat} {of : List Int} {x : Int} (h : Sol V of) (hx : okLit V x) : Sol V (litSet of x) := by
  have hl := h.len
  have := vr_lt hx
  refine ⟨by simp [litSet, h.len], fun i => ?_⟩
  unfold litSet
  rw [cell_set (by omega)]
  split
  · split <;> simp
  · exact h.val i
theorem Grow.set {V : Nat} {of tr : List Int} {x : Int} (hs : Sol V of) (hx : okLit V x) (h0 : lv of x = 0) : Grow V of tr (litSet of x) (tr ++ [(vr x : Int)]) := by
  have hl := hs.len
  have hv := vr_lt hx
  refine ⟨[(vr x : Int)], rfl, fun t ht => ?_, fun i hi => ?_⟩
  · simp at ht; subst ht
    refine ⟨by omega, by omega, by rw [Int.toNat_natCast]; exact (lv_vr hx.1).1 h0, ?_⟩
    rw [Int.toNat_natCast]
    unfold litSet
    rw [cell_set (by omega), if_pos rfl]
    split <;> simp
  · simp at hi
    unfold litSet
    rw [cell_set (by omega), if_neg (by omega)]
theorem Exts.set {V : Nat} {a : Nat → Bool} {of : List Int} {x : Int} (hs : Sol V of) (hx : okLit V x) (h : Exts V a of) (hl : lh a x = true) : Exts V a (litSet of x) := by
  have hlen := hs.len
  have hv := vr_lt hx
  intro i h1 h2
  unfold litSet
  rw [cell_set (by omega)]
  by_cases e : i = vr x
  · subst e
    rw [if_pos rfl]
    unfold lh at hl
    by_cases hn : x < 0
    · rw [if_pos hn] at hl ⊢
      have : (-x).toNat = vr x := by unfold vr; omega
      rw [this] at hl
      simp at hl
      simp [hl]
    · rw [if_neg hn] at hl ⊢
      have : x.toNat = vr x := by unfold vr; omega
      rw [this] at hl
      simp [hl]
  · rw [if_neg e]; exact h i h1 h2
def reset (of : List Int) (l : List Int) : List Int := l.foldl (fun o t => o.set t.toNat 0) of
theorem reset_cell : ∀ (l : List Int) (of : List Int), (∀ t ∈ l, 0 ≤ t ∧ t.toNat < of.length) → ∀ i : Nat, cell (reset of l) i = if (i : Int) ∈ l then 0 else cell of i
  | [], of, _, i => by simp [reset]
  | t :: l, of, h, i => by
    have ht := h t (by simp)
    have ih := reset_cell l (of.set t.toNat 0) (fun u hu => by simpa using h u (by simp [hu])) i
    show cell (reset (of.set t.toNat 0) l) i = _
    rw [ih]
    by_cases hm : (i : Int) ∈ l
    · simp [hm]
    · rw [if_neg hm, cell_set ht.2]
      by_cases e : i = t.toNat
      · rw [if_pos e, if_pos (by simp; left; omega)]
      · rw [if_neg e, if_neg (by simp [hm]; omega)]
theorem reset_len : ∀ (l : List Int) (of : List Int), (reset of l).length = of.length
  | [], of => rfl
  | t :: l, of => by show (reset (of.set t.toNat 0) l).length = _; rw [reset_len l]; simp
theorem Grow.back {V : Nat} {of tr of' tr' : List Int} (hs : Sol V of) (hs' : Sol V of') (hg : Grow V of tr of' tr') : reset of' (tr'.drop tr.length) = of ∧ tr'.take tr.length = tr := by
  obtain ⟨n, rfl, h2, h3⟩ := hg
  have l1 := hs.len; have l2 := hs'.len
  refine ⟨?_, by simp⟩
  rw [List.drop_left]
  refine List.ext_getElem? fun i => ?_
  by_cases hi : i < V + 1
  · have hc : cell (reset of' n) i = cell of i := by
      rw [reset_cell n of' (fun t ht => by have := h2 t ht; omega) i]
      by_cases hm : (i : Int) ∈ n
      · rw [if_pos hm]
        have := (h2 _ hm).2.2.1
        rw [Int.toNat_natCast] at this
        exact this.symm
      · rw [if_neg hm, h3 i hm]
    have e1 : (reset of' n)[i]? = some (cell (reset of' n) i) := by simp [cell, List.getElem?_eq_getElem (show i < (reset of' n).length by rw [reset_len]; omega)]
    have e2 : of[i]? = some (cell of i) := by simp [cell, List.getElem?_eq_getElem (show i < of.length by omega)]
    rw [e1, e2, hc]
  · rw [List.getElem?_eq_none (by rw [reset_len]; omega), List.getElem?_eq_none (by omega)]

/-! ### spreading -/
/-- what the scan of a clause knows -/
structure Scan (of : List Int) (pre : List Int) (left many : Int) (holds : Bool) : Prop where
  h : holds = true ↔ ∃ x ∈ pre, lv of x = 1
  pos : 0 ≤ many
  le : many ≤ pre.length
  zero : many = 0 → left = 0 ∧ ∀ x ∈ pre, lv of x ≠ 0
  one : many = 1 → left ≠ 0 ∧ left ∈ pre ∧ lv of left = 0 ∧ ∀ x ∈ pre, lv of x = 0 → x = left
  more : 1 < many → left ∈ pre ∧ lv of left = 0 ∧ ∃ x ∈ pre, lv of x = 0 ∧ ∃ y ∈ pre, lv of y = 0 ∧ x ≠ y
theorem Scan.nil (of : List Int) : Scan of [] 0 0 false := ⟨by simp, by omega, by simp, by simp, by simp, by simp⟩
theorem Scan.hit {of pre : List Int} {left many : Int} {hb : Bool} {x : Int} (h : Scan of pre left many hb) (hx : lv of x = 1) : Scan of (pre ++ [x]) left many true := by
  refine ⟨by simp [hx], h.pos, by have := h.le; simp; omega, fun hm => ⟨(h.zero hm).1, fun y hy => ?_⟩, fun hm => ⟨(h.one hm).1, by simp [(h.one hm).2.1], (h.one hm).2.2.1, fun y hy hy0 => ?_⟩, fun hm => ?_⟩
  · rcases List.mem_append.1 hy with hy | hy
    · exact (h.zero hm).2 y hy
    · simp at hy; subst hy; omega
  · rcases List.mem_append.1 hy with hy | hy
    · exact (h.one hm).2.2.2 y hy hy0
    · simp at hy; subst hy; omega
  · obtain ⟨q1, q2, y, hy, hy0, w, hw, hw0, hyw⟩ := h.more hm
    exact ⟨by simp [q1], q2, y, by simp [hy], hy0, w, by simp [hw], hw0, hyw⟩
/-! ### the first values, true ahead of false -/
/-! ### values as a number's bits -/
theorem Sats.congr {V : Nat} {all : List (List Int)} {a b : Nat → Bool} (hall : ∀ c ∈ all, ∀ x ∈ c, okLit V x) (h : ∀ i, 1 ≤ i → i ≤ V → a i = b i) (ha : Sats a all) : Sats b all := by
  intro c hc
  obtain ⟨x, hx, hl⟩ := ha c hc
  have hv := vr_lt (hall c hc x hx)
  refine ⟨x, hx, ?_⟩
  unfold lh at hl ⊢
  by_cases hn : x < 0
  · rw [if_pos hn] at hl ⊢
    rw [show (-x).toNat = vr x by unfold vr; omega] at hl ⊢
    rw [← h _ hv.1 hv.2]; exact hl
  · rw [if_neg hn] at hl ⊢
    rw [show x.toNat = vr x by unfold vr; omega] at hl ⊢
    rw [← h _ hv.1 hv.2]; exact hl
end Go.Sc
namespace Go.Sc
open Go
set_option linter.unusedSimpArgs false
set_option linter.unusedVariables false
/-- variables so far, and clauses -/
structure Bd where
  vars : Nat
  cl : List (List Int)
def negL (l : List Int) : List Int := l.map fun x => -x
/-! ### how many -/
/-! ### literals are of variables that are there -/
/-! ### what the clauses say -/
/-- the values tell of names what is so -/
def tells (nm : Str → Int) (a : Nat → Bool) (p q : Str → Bool) (x : Ex) : Prop := x.on (fun s => lh a (nm s) = p s) (fun s => lh a (nm (94 :: s)) = q s)
/-! ### values for what is new -/
/-! ### each new variable is told by those ahead of it -/
def DefAt (v : Nat) (cl : List (List Int)) : Prop := [(v : Int)] ∈ cl ∨ [-(v : Int)] ∈ cl ∨ ∃ l : List Int, (∀ x ∈ l, x ≠ 0 ∧ vr x < v) ∧ (∀ x ∈ l, [-(v : Int), x] ∈ cl) ∧ ((v : Int) :: negL l) ∈ cl
theorem DefAt.mono {v : Nat} {cl cl' : List (List Int)} (h : DefAt v cl) (hs : ∀ c ∈ cl, c ∈ cl') : DefAt v cl' := by
  rcases h with h | h | ⟨l, h1, h2, h3⟩
  · exact .inl (hs _ h)
  · exact .inr (.inl (hs _ h))
  · exact .inr (.inr ⟨l, h1, fun x hx => hs _ (h2 x hx), hs _ h3⟩)
end Go.Sc
namespace Go.Sc
open Go
set_option linter.unusedSimpArgs false
set_option linter.unusedVariables false
set_option linter.unnecessarySimpa false
def TR (tr : List Int) (x : AV) (tb : List Blk) : Prop := (x = nilS ∧ tr = [] ∧ tb = []) ∨ ∃ g2, x = .slL 2 0 tr.length g2 ∧ tb = [.cells g2 1 (tr.map fun z => Z z)]
theorem TR.scalar {tr : List Int} {x : AV} {tb : List Blk} (h : TR tr x tb) : x.scalar = true := by
  rcases h with ⟨rfl, _, _⟩ | ⟨g, rfl, _⟩ <;> rfl
theorem TR.len {tr : List Int} {x : AV} {tb : List Blk} (h : TR tr x tb) : lenA x = some (Z tr.length) := by
  rcases h with ⟨rfl, rfl, _⟩ | ⟨g, rfl, _⟩ <;> rfl
section
variable {E : Env} {P : Program} {ga gs V : Nat} {all : List (List Int)}
end
end Go.Sc
namespace Go.Sc
open Go
set_option linter.unusedSimpArgs false
set_option linter.unusedVariables false
section
variable {E : Env} {P : Program}
theorem bare_spec (B : PlaceBodies E P) (hA : Body2 E P 77 F.law_at) (hb : Body1 E P 87 F.ref_Bare) (hB : Body2 E P 89 F.law_bare) (c e : Int) : FX E P 89 [Er c, Z e] (Bo (decide (c = e))) := by
  refine FX.of' (by simp [AV.closedL, Er_closed, AV.closed]) (by simp [AV.closed]) fun n R hR => hB _ _ _ _ ?_
  unfold F.law_bare
  refine wCall.fx (Bare_spec hb e) fun n => ?_
  refine wCall.fx (at_spec B hA c e (-1)) fun n => ?_
  exact hR _ _ (by simp)
end
end Go.Sc
namespace Go.Sc
open Go
set_option linter.unusedSimpArgs false
set_option linter.unusedVariables false
set_option linter.unnecessarySimpa false
/-! ### the map of names: numbers from 1 on, in order -/
def nums (n : Nat) : List AV := (List.range n).map fun i => Z ((i + 1 : Nat) : Int)
/-! ### the builder: its block, the clauses' block, the map's -/
def SG (r0 : Blk) (ks : List Str) (b : Bd) (g0 g2 : Nat) (tb : List Blk) (H : AH) : Prop := ∃ z t c, H = ⟨r0 :: .map g2 (ks.map fun s => S s) (nums ks.length) :: .cells g0 3 [Z b.vars, t, .mapL 1 g2] :: z :: tb, c⟩ ∧ Gr 1 z 3 t (b.cl.map LI) b.cl.length
section
variable {E : Env} {P : Program} {ks : List Str} {g0 g2 : Nat} {r0 : Blk}
theorem SG.drop {b : Bd} {tb : List Blk} {w : Blk} {H : AH} {r : AV} (h : SG r0 ks b g0 g2 (tb ++ [w]) H) : ∃ H', Ghost [r] H [r] H' ∧ SG r0 ks b g0 g2 tb H' := by
  obtain ⟨z, t, c, rfl, hg⟩ := h
  exact ⟨_, ghost_drop (bs := r0 :: .map g2 (ks.map fun s => S s) (nums ks.length) :: .cells g0 3 [Z b.vars, t, .mapL 1 g2] :: z :: tb) w, z, t, c, rfl, hg⟩
end
end Go.Sc
namespace Go.Sc
open Go
set_option linter.unusedSimpArgs false
set_option linter.unusedVariables false
set_option linter.unnecessarySimpa false
mutual
theorem Ex.raw_ok : ∀ x : Ex, x.fine → ∀ s ∈ x.raw nf1, nameOk s = true
  | .k _, _, s, h => by simp [Ex.raw, nmL, nf1] at h
  | .bit t, hf, s, h => by
    simp [Ex.raw, nmL, nf1, nameOk_ne hf] at h
    subst h; exact hf
  | .rise t, hf, s, h => by
    simp [Ex.raw, nmL, nf1, nameOk_ne hf] at h
    subst h; exact hf
  | .fall t, hf, s, h => by
    simp [Ex.raw, nmL, nf1, nameOk_ne hf] at h
    subst h; exact hf
  | .not y, hf, s, h => by
    simp [Ex.raw, nmL, nf1] at h
    exact Ex.raw_ok y hf s h
  | .and l, hf, s, h => by
    simp [Ex.raw, nmL, nf1] at h
    exact Ex.rawL_ok l hf.2 s h
  | .or l, hf, s, h => by
    simp [Ex.raw, nmL, nf1] at h
    exact Ex.rawL_ok l hf.2 s h
theorem Ex.rawL_ok : ∀ l : List Ex, Ex.fineL l → ∀ s ∈ Ex.rawL nf1 l, nameOk s = true
  | [], _, s, h => by simp [Ex.rawL] at h
  | x :: l, hf, s, h => by
    simp only [Ex.rawL, List.mem_append] at h
    rcases h with h | h
    · exact Ex.raw_ok x hf.1 s h
    · exact Ex.rawL_ok l hf.2 s h
end
theorem names_ok {x : Ex} (hf : x.fine) {s : Str} (h : s ∈ x.names) : nameOk s = true := Ex.raw_ok x hf s (onceS_mem.1 h)
section
variable {E : Env} {P : Program}
end
end Go.Sc
namespace Go.Sc.F
open Go Go.Sc
set_option linter.unusedVariables false
/-- signalbox/signalboxref.index -/
def ref_index (E : Env) (P : Program) (a0 a1 : AV) (H : AH) (R : Kt) : Prop :=
  wGet (lenA a0) H fun t8 H =>
  wLoop 1 (fun I1 => I1 (.val (.int .i64 0)) H) fun I1 t9 H =>
    wGet (binA .lss t9 t8) H fun t10 H =>
    wIf t10 (
      wGet (iaddr 1 a0 t9) H fun t12 H =>
      wGet (load1 t12 H) H fun t13 H =>
      wGet (binA .eql t13 a1) H fun t16 H =>
      wGuard t16 true H (fun k => k a1 H) fun t18 H =>
      wGuard t16 true H (fun k => wGet (binA .neq t18 (.val (.string ⟨#[]⟩))) H k) fun t19 H =>
      wGet (pickA t16 t19 (.val (.bool false))) H fun t20 H =>
      wIf t20 (
        R t9 H) (
        wGet (binA .add t9 (.val (.int .i64 1))) H fun t22 H =>
        I1 t22 H)) (
      R (.val (.int .i64 (-1))) H)

end Go.Sc.F
namespace Go.Sc
open Go
set_option linter.unusedSimpArgs false
set_option linter.unusedVariables false
set_option linter.unnecessarySimpa false
def randF (g1 : Nat) : AV := .fn 241 [] [.ptrL 1 0 g1]
def rlitF (g1 g2 g3 g4 g5 : Nat) : AV := .fn 242 [] [.ptrL 2 0 g2, .ptrL 3 0 g3, .ptrL 5 0 g5, .ptrL 4 0 g4, .ptrL 1 0 g1]
def idxQ (l : List Str) (s : Str) : Int := if s = [] then -1 else idx l s
structure SRp where
  names : List Str
  edges : List Str
  b0 : Blk
  g1 : Nat
  g2 : Nat
  g3 : Nat
  g4 : Nat
  g5 : Nat
def SRp.hd (s : SRp) (v : Nat) (t : AV) : List Blk := [s.b0, .cells s.g1 2 [Z v, t], .cells s.g2 1 [Lm S s.names], .cells s.g3 1 [Lm S s.edges], .cells s.g4 1 [rlitF s.g1 s.g2 s.g3 s.g4 s.g5], .cells s.g5 1 [randF s.g1]]
def SR (s : SRp) (b : Bd) (tb : List Blk) (H : AH) : Prop := ∃ z t c, H = ⟨s.b0 :: .cells s.g1 2 [Z b.vars, t] :: .cells s.g2 1 [Lm S s.names] :: .cells s.g3 1 [Lm S s.edges] :: .cells s.g4 1 [rlitF s.g1 s.g2 s.g3 s.g4 s.g5] :: .cells s.g5 1 [randF s.g1] :: z :: tb, c⟩ ∧ Gr 1 z 6 t (b.cl.map LI) b.cl.length
section
variable {E : Env} {P : Program} {s : SRp}
theorem rindex_spec (hB : Body2 E P 98 F.ref_index) (l : List Str) (s : Str) (hl : l.length < 140737488355328) : FX E P 98 [Lm S l, S s] (Z (idxQ l s)) := by
  have nilStr : (AV.val (.string ⟨#[]⟩)) = S [] := rfl
  refine FX.of' ⟨closed_S l, trivial, trivial⟩ trivial fun n R hR => hB _ _ _ _ ?_
  unfold F.ref_index Lm
  simp only [nd0, Y1n, Y1o, Y1p, Y1q, Y1w, Y1x, Y1y, Y1z, Y20, Y21, Y28, Y2a, AV.cells?, Nat.reduceAdd, Nat.reduceMul, nilStr]
  refine wLoop.one (fun m t H => ∃ pre rest, l = pre ++ rest ∧ m = rest.length ∧ t = Z pre.length ∧ (s = [] ∨ s ∉ pre)) l.length (gh1.mk ⟨[], l, rfl, rfl, rfl, by simp⟩) ?_
  rintro m t H ⟨pre, rest, rfl, rfl, rfl, hs⟩
  cases rest with
  | nil =>
    simp only [nd0, Y1n, Y1o, Y1p, Y1q, Y1w, Y1x, Y1y, Y1z, Y20, Y21, Y28, Y2a, AV.cells?, Nat.reduceAdd, Nat.reduceMul, List.append_nil, Int.lt_irrefl]
    refine hR _ _ ?_
    unfold idxQ idx
    rw [List.append_nil] at *
    rcases hs with hs | hs
    · rw [if_pos hs]
    · by_cases h0 : s = []
      · rw [if_pos h0]
      · rw [if_neg h0, if_neg hs]
  | cons x rest =>
    simp only [nd0, Y1n, Y1o, Y1p, Y1q, Y1w, Y1x, Y1y, Y1z, Y20, Y21, Y28, Y2a, AV.cells?, Nat.reduceAdd, Nat.reduceMul, decide_eq_true (show ((pre.length : Int) < ((pre ++ x :: rest).length : Int)) by simp; omega)]
    rw [iaddr_Nn (by simp)]
    simp only [nd0, Y1n, Y1o, Y1p, Y1q, Y1w, Y1x, Y1y, Y1z, Y20, Y21, Y28, Y2a, AV.cells?, Nat.reduceAdd, Nat.reduceMul, at_mid]
    have hnext : (s = [] ∨ s ∉ pre ++ [x]) → back1 (fun m t H => ∃ pre' rest', pre ++ x :: rest = pre' ++ rest' ∧ m = rest'.length ∧ t = Z pre'.length ∧ (s = [] ∨ s ∉ pre')) (rest.length + 1) (Z ((pre.length + 1 : Nat) : Int)) H := fun h =>
      back1.mk rest.length (by simp) ⟨pre ++ [x], rest, by simp, rfl, by simp, h⟩
    by_cases hx : x = s
    · by_cases h0 : s = []
      · simp only [nd0, Y1n, Y1o, Y1p, Y1q, Y1w, Y1x, Y1y, Y1z, Y20, Y21, Y28, Y2a, AV.cells?, Nat.reduceAdd, Nat.reduceMul, decide_eq_true hx, decide_eq_true h0]
        rw [binA_succ (by simp at hl; omega)]
        simp only [nd0, Y1n, Y1o, Y1p, Y1q, Y1w, Y1x, Y1y, Y1z, Y20, Y21, Y28, Y2a, AV.cells?, Nat.reduceAdd, Nat.reduceMul]
        exact hnext (.inl h0)
      · simp only [nd0, Y1n, Y1o, Y1p, Y1q, Y1w, Y1x, Y1y, Y1z, Y20, Y21, Y28, Y2a, AV.cells?, Nat.reduceAdd, Nat.reduceMul, decide_eq_true hx, decide_eq_false h0]
        refine hR _ _ ?_
        subst hx
        have : x ∉ pre := by rcases hs with hs | hs; exact absurd hs h0; exact hs
        rw [idxQ, if_neg h0, idx_app this]
    · simp only [nd0, Y1n, Y1o, Y1p, Y1q, Y1w, Y1x, Y1y, Y1z, Y20, Y21, Y28, Y2a, AV.cells?, Nat.reduceAdd, Nat.reduceMul, decide_eq_false hx]
      rw [binA_succ (by simp at hl; omega)]
      simp only [nd0, Y1n, Y1o, Y1p, Y1q, Y1w, Y1x, Y1y, Y1z, Y20, Y21, Y28, Y2a, AV.cells?, Nat.reduceAdd, Nat.reduceMul]
      refine hnext ?_
      rcases hs with hs | hs
      · exact .inl hs
      · refine .inr ?_
        simp only [List.mem_append, List.mem_singleton, not_or]
        exact ⟨hs, fun h => hx h.symm⟩
theorem SR.drop {b : Bd} {tb : List Blk} {w : Blk} {H : AH} {r : AV} (h : SR s b (tb ++ [w]) H) : ∃ H', Ghost [r] H [r] H' ∧ SR s b tb H' := by
  obtain ⟨z, t, c, rfl, hg⟩ := h
  exact ⟨_, ghost_drop (bs := s.b0 :: .cells s.g1 2 [Z b.vars, t] :: .cells s.g2 1 [Lm S s.names] :: .cells s.g3 1 [Lm S s.edges] :: .cells s.g4 1 [rlitF s.g1 s.g2 s.g3 s.g4 s.g5] :: .cells s.g5 1 [randF s.g1] :: z :: tb) w, z, t, c, rfl, hg⟩
theorem mul_one {y : Int} {k : Bool} (h : -1000000 ≤ y ∧ y ≤ 1000000) : binA .mul (Z (if k then 1 else -1)) (Z y) = some (Z (if k then y else -y)) := by
  cases k
  · simp only [Bool.false_eq_true, if_false]
    rw [binA_mul (by omega)]
    congr 3; omega
  · simp only [if_true]
    rw [binA_mul (by omega)]
    congr 3; omega
theorem wCallV.lit {E : Env} {P : Program} {x : AV} {g1 g2 g3 g4 g5 : Nat} {H : AH} {R K : Kt} (h : ACalls E P 242 [x, .ptrL 2 0 g2, .ptrL 3 0 g3, .ptrL 5 0 g5, .ptrL 4 0 g4, .ptrL 1 0 g1] H R) (hK : ∀ r H', R r H' → K r H') : wCallV E P (rlitF g1 g2 g3 g4 g5) [x] H K := ⟨⟨242, [], _, rfl, R, h, hK⟩⟩
theorem wCallV.and {E : Env} {P : Program} {x : AV} {g1 : Nat} {H : AH} {R K : Kt} (h : ACalls E P 241 [x, .ptrL 1 0 g1] H R) (hK : ∀ r H', R r H' → K r H') : wCallV E P (randF g1) [x] H K := ⟨⟨241, [], _, rfl, R, h, hK⟩⟩
end
end Go.Sc
namespace Go.Sc.F
open Go Go.Sc
set_option linter.unusedVariables false
/-- signalbox/signalboxlaw.CoverPairs -/
def law_CoverPairs (E : Env) (P : Program) (a0 : AV) (H : AH) (R : Kt) : Prop :=
  wCall E P 169 [a0] H fun t14 H =>
  wGet (extractA t14 0) H fun t15 H =>
  wGet (extractA t14 1) H fun t16 H =>
  wGet (extractA t14 2) H fun t17 H =>
  wGet (unA .not t17) H fun t19 H =>
  wIf t19 (
    R (.val (.bool true)) H) (
    wCall E P 225 [t15] H fun t22 H =>
    wGet (extractA t22 0) H fun t23 H =>
    wGet (extractA t22 1) H fun t24 H =>
    wCall E P 225 [(.val (.nilIface))] H fun t26 H =>
    wGet (extractA t26 0) H fun t27 H =>
    wGet (extractA t26 1) H fun t28 H =>
    wBool (eqA .iface t15 (.val (.nilIface))) H false fun t30 H =>
    wGuard t30 false H (fun k => k t28 H) fun t32 H =>
    wGuard t30 false H (fun k => wCall E P 89 [t32, (.val (.int .i64 7))] H k) fun t33 H =>
    wGuard t30 false H (fun k => wGet (unA .not t33) H k) fun t34 H =>
    wGet (pickA t30 (.val (.bool true)) t34) H fun t35 H =>
    wIf t35 (
      R (.val (.bool false)) H) (
      wCall E P 185 [t16] H fun t38 H =>
      wGet (lenA t38) H fun t39 H =>
      wGet (binA .gtr t39 (.val (.int .i64 0))) H fun t40 H =>
      wIf t40 (
        wCall E P 89 [t24, (.val (.int .i64 1))] H fun t42 H =>
        wGuard t42 true H (fun k => k t23 H) fun t44 H =>
        wGuard t42 true H (fun k => wGet (lenA t44) H k) fun t45 H =>
        wGuard t42 true H (fun k => wGet (binA .eql t45 (.val (.int .i64 0))) H k) fun t46 H =>
        wGet (pickA t42 t46 (.val (.bool false))) H fun t47 H =>
        R t47 H) (
        wCall E P 182 [t16] H fun t50 H =>
        wGet (lenA t50) H fun t51 H =>
        wGet (binA .gtr t51 (.val (.int .i64 8))) H fun t52 H =>
        wIf t52 (
          wCall E P 89 [t24, (.val (.int .i64 4))] H fun t54 H =>
          wGuard t54 true H (fun k => k t23 H) fun t56 H =>
          wGuard t54 true H (fun k => wGet (lenA t56) H k) fun t57 H =>
          wGuard t54 true H (fun k => wGet (binA .eql t57 (.val (.int .i64 0))) H k) fun t58 H =>
          wGet (pickA t54 t58 (.val (.bool false))) H fun t59 H =>
          R t59 H) (
          wCall E P 250 [t16] H fun t61 H =>
          wBool (eqA .iface t24 (.val (.nilIface))) H true fun t63 H =>
          wGuard t63 false H (fun k => k t23 H) fun t65 H =>
          wGuard t63 false H (fun k => wGet (lenA t65) H k) fun t66 H =>
          wGuard t63 false H (fun k => k t61 H) fun t67 H =>
          wGuard t63 false H (fun k => wGet (lenA t67) H k) fun t68 H =>
          wGuard t63 false H (fun k => wGet (binA .neq t66 t68) H k) fun t69 H =>
          wGet (pickA t63 (.val (.bool true)) t69) H fun t70 H =>
          wIf t70 (
            R (.val (.bool false)) H) (
            wLoop 1 (fun I1 => I1 (.val (.int .i64 0)) H) fun I1 t11 H =>
              wGet (lenA t23) H fun t73 H =>
              wGet (binA .lss t11 t73) H fun t74 H =>
              wIf t74 (
                wGet (iaddr 3 t23 t11) H fun t79 H =>
                wGet (faddr 0 t79) H fun t80 H =>
                wGet (load1 t80 H) H fun t81 H =>
                wGet (iaddr 3 t61 t11) H fun t84 H =>
                wGet (faddr 0 t84) H fun t85 H =>
                wGet (load1 t85 H) H fun t86 H =>
                wGet (binA .neq t81 t86) H fun t87 H =>
                wGuard t87 false H (fun k => k t23 H) fun t89 H =>
                wGuard t87 false H (fun k => k t11 H) fun t90 H =>
                wGuard t87 false H (fun k => wGet (iaddr 3 t89 t90) H k) fun t91 H =>
                wGuard t87 false H (fun k => wGet (faddr 1 t91) H k) fun t92 H =>
                wGuard t87 false H (fun k => wGet (load1 t92 H) H k) fun t93 H =>
                wGuard t87 false H (fun k => k t61 H) fun t94 H =>
                wGuard t87 false H (fun k => k t11 H) fun t95 H =>
                wGuard t87 false H (fun k => wGet (iaddr 3 t94 t95) H k) fun t96 H =>
                wGuard t87 false H (fun k => wGet (faddr 1 t96) H k) fun t97 H =>
                wGuard t87 false H (fun k => wGet (load1 t97 H) H k) fun t98 H =>
                wGuard t87 false H (fun k => wGet (binA .neq t93 t98) H k) fun t99 H =>
                wGet (pickA t87 (.val (.bool true)) t99) H fun t100 H =>
                wGuard t100 false H (fun k => k t23 H) fun t102 H =>
                wGuard t100 false H (fun k => k t11 H) fun t103 H =>
                wGuard t100 false H (fun k => wGet (iaddr 3 t102 t103) H k) fun t104 H =>
                wGuard t100 false H (fun k => wGet (faddr 2 t104) H k) fun t105 H =>
                wGuard t100 false H (fun k => wGet (load1 t105 H) H k) fun t106 H =>
                wGuard t100 false H (fun k => k t61 H) fun t107 H =>
                wGuard t100 false H (fun k => k t11 H) fun t108 H =>
                wGuard t100 false H (fun k => wGet (iaddr 3 t107 t108) H k) fun t109 H =>
                wGuard t100 false H (fun k => wGet (faddr 2 t109) H k) fun t110 H =>
                wGuard t100 false H (fun k => wGet (load1 t110 H) H k) fun t111 H =>
                wGuard t100 false H (fun k => wGet (binA .neq t106 t111) H k) fun t112 H =>
                wGet (pickA t100 (.val (.bool true)) t112) H fun t113 H =>
                wIf t113 (
                  R (.val (.bool false)) H) (
                  wGet (binA .add t11 (.val (.int .i64 1))) H fun t76 H =>
                  I1 t76 H)) (
                R (.val (.bool true)) H))))))

/-- signalbox/signalboxref.Pairs -/
def ref_Pairs (E : Env) (P : Program) (a0 : AV) (H : AH) (R : Kt) : Prop :=
  wNew 1 (AV.cells? a0) H fun t1 H =>
  wGet (load1 t1 H) H fun t9 H =>
  wCall E P 182 [t9] H fun t10 H =>
  wNew 1 (some [(.val (.slice none 0 0))]) H fun t3 H =>
  wPut (store1 t3 t10 H) fun _u H =>
  wGet (load1 t3 H) H fun t12 H =>
  wGet (lenA t12) H fun t13 H =>
  wLoop 2 (fun I1 => I1 (.val (.slice none 0 0)) (.val (.int .i64 0)) H) fun I1 t5 t14 H =>
    wGet (binA .lss t14 t13) H fun t15 H =>
    wIf t15 (
      wJoin 1 (fun J2 =>
        wGet (iaddr 1 t12 t14) H fun t17 H =>
        wGet (load1 t17 H) H fun t18 H =>
        wLoop 2 (fun I3 => I3 t5 (.val (.int .u64 0)) H) fun I3 t5_1 t8 H =>
          wGet (load1 t3 H) H fun t20 H =>
          wGet (lenA t20) H fun t21 H =>
          wGet (binA .shl (.val (.int .u64 1)) t21) H fun t22 H =>
          wGet (binA .lss t8 t22) H fun t23 H =>
          wIf t23 (
            wGet (binA .shr t8 t14) H fun t28 H =>
            wGet (binA .rem t28 (.val (.int .u64 2))) H fun t29 H =>
            wGet (binA .eql t29 (.val (.int .u64 0))) H fun t30 H =>
            wGuard t30 true H (fun k => k (.fn 252 [] [t3, t1]) H) fun t32 H =>
            wGuard t30 true H (fun k => k t8 H) fun t33 H =>
            wGuard t30 true H (fun k => k (.fn 252 [] [t3, t1]) H) fun t35 H =>
            wGuard t30 true H (fun k => k t8 H) fun t36 H =>
            wGuard t30 true H (fun k => k t14 H) fun t37 H =>
            wGuard t30 true H (fun k => wGet (binA .shl (.val (.int .u64 1)) t37) H k) fun t38 H =>
            wGuard t30 true H (fun k => wGet (binA .add t36 t38) H k) fun t39 H =>
            wGuard t30 true H (fun k => wCallV E P t32 [t33] H k) fun t34 H =>
            wGuard t30 true H (fun k => wCallV E P t35 [t39] H k) fun t40 H =>
            wGuard t30 true H (fun k => wBool (eqA .bool t34 t40) H true k) fun t41 H =>
            wGet (pickA t30 t41 (.val (.bool false))) H fun t42 H =>
            wIf t42 (
              wGet (binA .shl (.val (.int .u64 1)) t14) H fun t48 H =>
              wGet (binA .add t8 t48) H fun t49 H =>
              wAgg (fillA [(.val (.string ⟨#[]⟩)), (.val (.int .u64 0)), (.val (.int .u64 0))] [(0, 1, t18), (1, 1, t8), (2, 1, t49)]) H fun t50 H =>
              wNewS 3 1 (fillA (List.replicate 1 [(.val (.string ⟨#[]⟩)), (.val (.int .u64 0)), (.val (.int .u64 0))]).flatten [(0, 3, t50)]) H fun t51 H =>
              wApp 3 32 t5_1 t51 H fun t52 H =>
              J2 t52 H) (
              wGet (binA .add t8 (.val (.int .u64 1))) H fun t25 H =>
              I3 t5_1 t25 H)) (
            J2 t5_1 H)) fun t5_2 H =>
        wGet (binA .add t14 (.val (.int .i64 1))) H fun t53 H =>
        I1 t5_2 t53 H) (
      R t5 H)

/-- signalbox/signalboxref.Pairs$1 -/
def ref_Pairs_c1 (E : Env) (P : Program) (a0 a1 a2 : AV) (H : AH) (R : Kt) : Prop :=
  wNew 1 (AV.cells? a0) H fun t3 H =>
  wGet (load1 a2 H) H fun t7 H =>
  wCall E P 180 [t7, (.fn 253 [] [t3, a1]), (.fn 253 [] [t3, a1])] H fun t10 H =>
  R t10 H

/-- signalbox/signalboxref.Pairs$1$1 -/
def ref_Pairs_c1_c1 (E : Env) (P : Program) (a0 a1 a2 : AV) (H : AH) (R : Kt) : Prop :=
  wGet (load1 a1 H) H fun t5 H =>
  wGet (load1 a2 H) H fun t6 H =>
  wCall E P 98 [t6, a0] H fun t8 H =>
  (wGet (load1 a1 H) H (fun y H2 => y = t5 ∧ H2 = H)) ∧
  wGet (binA .shr t5 t8) H fun t9 H =>
  wGet (binA .and t9 (.val (.int .u64 1))) H fun t10 H =>
  wGet (binA .eql t10 (.val (.int .u64 1))) H fun t11 H =>
  R t11 H

end Go.Sc.F
