/- CONTRACTS: package expr: what an expression says, and how great it is. WHAT AN EXPRESSION's TEXT TELLS IS THAT EXPRESSION AGAIN: plain. CONTRACTS: package expr: how great an expression is; the keep's fact of it. CONTRACTS OUT OF THE KIT's SHELF: strings.Join, strings.IndexByte. CONTRACTS OUT OF THE KIT's SHELF: what writes a row of texts of the caller's: slices.Sort, slices.Compact. CONTRACTS: package expr: names and edges, sorted, each once. PLAIN LAW: a list that is sorted, each once, is told by what is in it; what is put in place by place is sorted, each once. EXPRESSIONS MADE TIDY: plain. WHAT IS TIDY STAYS AS IT IS: plain. CONTRACTS: package signalboxref: how expressions are written. CONTRACTS: package signalboxref: an expression is made tidy. CONTRACTS: package signalboxref: what an expression says, how great it is, its names and edges. CONTRACTS: package signalboxref: names and edges of an expression, put in place by place. CONTRACTS: what an expression says, of questions that are answered for some names alone. THE LAW ExprBack, out of the contracts. THE LAW ExprHangs, out of the contracts. PLAIN LAWS of tables: numbering, rounds, blocks (no program in sight). PLAIN LAWS OF TABLES: the rounds end; in the table of blocks no two states are alike. PLAIN LAWS OF TABLES, MORE: states of one block tell the same; the table of blocks tells what its states do; the inputs that are told part states at the last one alone. CONTRACTS: package block: Check, number, rounds, Blocks. CO (of the seat YtfhfojojchkmbaaDoor) -/
import Derived.Test.YtfhfojojchkmbaaDoorCore6
import Derived.Lib.Join
import Derived.Lib.Bytealg
import Derived.Sort.Row
import Derived.Sort.EncStr
import Derived.Sort.Grow
import Derived.Lib.SlicesCompact
import Derived.Lib.IndexMore
namespace Go.Sc
open Go
set_option linter.unusedSimpArgs false
set_option linter.unusedVariables false
set_option linter.unnecessarySimpa false
/-! ### what it says -/
mutual
def Ex.says (p q : Str → Bool) : Ex → Bool
  | .k b => b
  | .bit s => p s
  | .rise s => p s && !q s
  | .fall s => !p s && q s
  | .not x => !x.says p q
  | .and l => Ex.allL p q l
  | .or l => Ex.anyL p q l
def Ex.allL (p q : Str → Bool) : List Ex → Bool
  | [] => true
  | x :: l => x.says p q && Ex.allL p q l
def Ex.anyL (p q : Str → Bool) : List Ex → Bool
  | [] => false
  | x :: l => x.says p q || Ex.anyL p q l
end
theorem Ex.allL_eq (p q : Str → Bool) : ∀ l : List Ex, Ex.allL p q l = l.all fun x => x.says p q
  | [] => rfl
  | x :: l => by simp [Ex.allL, Ex.allL_eq p q l]
theorem Ex.anyL_eq (p q : Str → Bool) : ∀ l : List Ex, Ex.anyL p q l = l.any fun x => x.says p q
  | [] => rfl
  | x :: l => by simp [Ex.anyL, Ex.anyL_eq p q l]
mutual
def Ex.size : Ex → Nat
  | .not x => x.size + 1
  | .and l => Ex.sizeL l + 1
  | .or l => Ex.sizeL l + 1
  | _ => 1
def Ex.sizeL : List Ex → Nat
  | [] => 0
  | x :: l => x.size + Ex.sizeL l
end
mutual
theorem Ex.size_wt : ∀ x : Ex, x.fine → x.size ≤ x.wt
  | .k _, _ => by simp [Ex.size, Ex.wt]
  | .bit s, h => by
    cases s with
    | nil => simp [Ex.fine, nameOk] at h
    | cons a b => simp [Ex.size, Ex.wt]
  | .rise _, _ => by simp [Ex.size, Ex.wt]
  | .fall _, _ => by simp [Ex.size, Ex.wt]
  | .not x, h => by have := Ex.size_wt x h; simp only [Ex.size, Ex.wt]; omega
  | .and l, h => by have := Ex.sizeL_wt l h.2; simp only [Ex.size, Ex.wt]; omega
  | .or l, h => by have := Ex.sizeL_wt l h.2; simp only [Ex.size, Ex.wt]; omega
theorem Ex.sizeL_wt : ∀ l : List Ex, Ex.fineL l → Ex.sizeL l ≤ Ex.wtL l
  | [], _ => by simp [Ex.sizeL, Ex.wtL]
  | x :: l, h => by have h1 := Ex.size_wt x h.1; have h2 := Ex.sizeL_wt l h.2; simp only [Ex.sizeL, Ex.wtL]; omega
end
/-- a question of names -/
structure Asks (E : Env) (P : Program) (f : AV) (p : Str → Bool) : Prop where
  ok : ∃ k cc, f = .fn k [] cc ∧ AV.closedL cc ∧ ∀ s, FX E P k ([S s] ++ cc) (Bo (p s))
theorem Asks.closed {E : Env} {P : Program} {f : AV} {p : Str → Bool} (h : Asks E P f p) : f.closed := by
  obtain ⟨k, cc, rfl, h, _⟩ := h.ok
  exact ⟨trivial, h⟩
theorem Asks.scalar {E : Env} {P : Program} {f : AV} {p : Str → Bool} (h : Asks E P f p) : f.scalar = true := by
  obtain ⟨k, cc, rfl, h, _⟩ := h.ok
  rfl
theorem Asks.call {E : Env} {P : Program} {f : AV} {p : Str → Bool} (h : Asks E P f p) (s : Str) {H : AH} {K : Kt} (hK : ∀ n, K (Bo (p s)) ⟨H.bs, n⟩) : wCallV E P f [S s] H K := by
  obtain ⟨k, cc, rfl, _, h⟩ := h.ok
  exact wCallV.fx (fs := []) (h s) hK
/-- a list of texts, or nil -/
def TXL (a : AV) (l : List Str) : Prop := (a = nilS ∧ l = []) ∨ a = Lm S l
theorem TXL.closed {a : AV} {l : List Str} (h : TXL a l) : a.closed := by
  rcases h with ⟨rfl, _⟩ | rfl
  · trivial
  · exact closed_S l
theorem TXL.scalar {a : AV} {l : List Str} (h : TXL a l) : a.scalar = true := by
  rcases h with ⟨rfl, _⟩ | rfl <;> rfl
theorem TXL.len {a : AV} {l : List Str} (h : TXL a l) : lenA a = some (Z l.length) := by
  rcases h with ⟨rfl, rfl⟩ | rfl <;> rfl
structure EvalBodies0 (E : Env) (P : Program) : Prop where
  eval : Body3 E P 158 F.expr_Eval
  eval1 : Body3 E P 162 F.expr_Eval_c1
  eval2 : Body3 E P 164 F.expr_Eval_c2
  conA : Body2 E P 163 F.slices_ContainsFunc_expr_And_expr_Expr
  conO : Body2 E P 165 F.slices_ContainsFunc_expr_Or_expr_Expr
  ixA : Body2 E P 167 F.slices_IndexFunc_expr_And_expr_Expr
  ixO : Body2 E P 168 F.slices_IndexFunc_expr_Or_expr_Expr
structure EvalBodies (E : Env) (P : Program) : Prop extends EvalBodies0 E P where
  among : Body1 E P 157 F.keep_among
  among1 : Body2 E P 166 F.keep_among_c1
section
variable {E : Env} {P : Program}
theorem among1_spec (B : EvalBodies E P) {a : AV} {l : List Str} (h : TXL a l) (hl : l.length < 1099511627776) (s : Str) : FX E P 166 ([S s] ++ [.ptrF [a] 0]) (Bo (decide (s ∈ l))) := by
  refine FX.of' ⟨trivial, ⟨h.closed, trivial⟩, trivial⟩ trivial fun n R hR => B.among1 _ _ _ _ ?_
  unfold F.keep_among_c1
  refine wLoop.one (fun m i H => ∃ pre rest c, l = pre ++ rest ∧ i = Z pre.length ∧ m = rest.length ∧ s ∉ pre ∧ H = ⟨[], c⟩) l.length (gh1.mk ⟨[], l, n, rfl, rfl, rfl, by simp, rfl⟩) ?_
  rintro m i H ⟨pre, rest, c, rfl, rfl, rfl, hpre, rfl⟩
  simp only [nd0, Y1n, Y1o, Y1p, Y1q, Y1w, Y1x, Y1y, Y1z, Y20, Y21, Y28, Y2a, AV.cells?, Nat.reduceAdd, Nat.reduceMul, h.len]
  cases rest with
  | nil =>
    simp only [nd0, Y1n, Y1o, Y1p, Y1q, Y1w, Y1x, Y1y, Y1z, Y20, Y21, Y28, Y2a, AV.cells?, Nat.reduceAdd, Nat.reduceMul, List.append_nil, Int.lt_irrefl]
    exact hR _ _ (by rw [decide_eq_false (by simpa using hpre)])
  | cons x rest =>
    simp only [nd0, Y1n, Y1o, Y1p, Y1q, Y1w, Y1x, Y1y, Y1z, Y20, Y21, Y28, Y2a, AV.cells?, Nat.reduceAdd, Nat.reduceMul, decide_eq_true (show (pre.length : Int) < ((pre ++ x :: rest).length : Int) by simp; omega)]
    rcases h with ⟨_, h⟩ | rfl
    · simp at h
    rw [iaddr_Nn lt_mid]
    simp only [nd0, Y1n, Y1o, Y1p, Y1q, Y1w, Y1x, Y1y, Y1z, Y20, Y21, Y28, Y2a, AV.cells?, Nat.reduceAdd, Nat.reduceMul, at_mid]
    by_cases hx : x = s
    · simp only [nd0, Y1n, Y1o, Y1p, Y1q, Y1w, Y1x, Y1y, Y1z, Y20, Y21, Y28, Y2a, AV.cells?, Nat.reduceAdd, Nat.reduceMul, decide_eq_true hx]
      exact hR _ _ (by rw [decide_eq_true (by rw [hx]; simp)])
    · simp only [nd0, Y1n, Y1o, Y1p, Y1q, Y1w, Y1x, Y1y, Y1z, Y20, Y21, Y28, Y2a, AV.cells?, Nat.reduceAdd, Nat.reduceMul, decide_eq_false hx]
      rw [binA_succ (by simp at hl; omega)]
      simp only [nd0, Y1n, Y1o, Y1p, Y1q, Y1w, Y1x, Y1y, Y1z, Y20, Y21, Y28, Y2a, AV.cells?, Nat.reduceAdd, Nat.reduceMul]
      exact back1.mk rest.length (by simp) ⟨pre ++ [x], rest, c, by simp, by simp, rfl, by simp [hpre, Ne.symm hx], rfl⟩
def amongA (a : AV) : AV := .fn 166 [] [.ptrF [a] 0]
theorem among_spec (B : EvalBodies E P) {a : AV} {l : List Str} (h : TXL a l) : FX E P 157 [a] (amongA a) := by
  refine FX.of' ⟨h.closed, trivial⟩ ⟨trivial, ⟨h.closed, trivial⟩, trivial⟩ fun n R hR => B.among _ _ _ ?_
  unfold F.keep_among
  rw [cells?_scalar h.scalar]
  refine wNew.F' rfl ?_
  exact hR _ _ rfl
theorem among_asks (B : EvalBodies E P) {a : AV} {l : List Str} (h : TXL a l) (hl : l.length < 1099511627776) : Asks E P (amongA a) (fun s => decide (s ∈ l)) :=
  ⟨166, _, rfl, ⟨⟨h.closed, trivial⟩, trivial⟩, among1_spec B h hl⟩
theorem ixF_spec {G : Env → Program → AV → AV → AH → Kt → Prop} {kk : Nat} (hG : G = F.slices_IndexFunc_expr_And_expr_Expr ∨ G = F.slices_IndexFunc_expr_Or_expr_Expr) (hB : Body2 E P kk G) {k : Nat} {cs : List AV} {p : Ex → Bool} (l : List Ex) (hl : l.length < 4611686018427387904) (hcs : AV.closedL cs)
    (hp : ∀ a ∈ l, FX E P k ([a.enc] ++ cs) (Bo (p a))) : FX E P kk [.slN (Ex.encL l) l.length, .fn k [] cs] (Z (idxO (l.findIdx? p))) := by
  refine FX.of' ⟨Ex.encL_closed l, ⟨trivial, hcs⟩, trivial⟩ (by simp [AV.closed]) fun n R hR => hB _ _ _ _ ?_
  have main : wLoop 1 (fun I1 => I1 (Z 0) ⟨[], n⟩) fun I1 t8 H =>
      wGet (binA .lss t8 (Z l.length)) H fun t9 H =>
      wIf t9 (
        wGet (iaddr 1 (.slN (Ex.encL l) l.length) t8) H fun t14 H =>
        wGet (load1 t14 H) H fun t15 H =>
        wCallV E P (.fn k [] cs) [t15] H fun t16 H =>
        wIf t16 (
          R t8 H) (
          wGet (binA .add t8 (.val (.int .i64 1))) H fun t18 H =>
          I1 t18 H)) (
        R (.val (.int .i64 (-1))) H) := by
    refine wLoop.one (fun m i H => ∃ pre rest, l = pre ++ rest ∧ i = Z pre.length ∧ m = rest.length ∧ ∀ a ∈ pre, p a = false) l.length (gh1.mk ⟨[], l, rfl, rfl, rfl, by simp⟩) ?_
    rintro m i H ⟨pre, rest, rfl, rfl, rfl, hpre⟩
    cases rest with
    | nil =>
      simp only [nd0, Y1n, Y1o, Y1p, Y1q, Y1w, Y1x, Y1y, Y1z, Y20, Y21, Y28, Y2a, AV.cells?, Nat.reduceAdd, Nat.reduceMul, List.append_nil, Int.lt_irrefl]
      refine hR _ _ ?_
      rw [List.append_nil, List.findIdx?_eq_none_iff.2 hpre]
      rfl
    | cons x rest =>
      simp only [nd0, Y1n, Y1o, Y1p, Y1q, Y1w, Y1x, Y1y, Y1z, Y20, Y21, Y28, Y2a, AV.cells?, Nat.reduceAdd, Nat.reduceMul, decide_eq_true (show (pre.length : Int) < ((pre ++ x :: rest).length : Int) by simp; omega)]
      rw [iaddr_Nn lt_mid]
      simp only [nd0, Y1n, Y1o, Y1p, Y1q, Y1w, Y1x, Y1y, Y1z, Y20, Y21, Y28, Y2a, AV.cells?, Nat.reduceAdd, Nat.reduceMul, show (Ex.encL (pre ++ x :: rest))[pre.length]? = some x.enc by rw [Ex.encL_map]; simp]
      refine wCallV.fx (hp x (by simp)) fun n1 => ?_
      refine wIf.bool (fun h => ?_) fun h => ?_
      · refine hR _ _ ?_
        have : (pre ++ x :: rest).findIdx? p = some pre.length := by
          rw [List.findIdx?_append, List.findIdx?_eq_none_iff.2 hpre]
          simp [List.findIdx?_cons, h]
        rw [this]; rfl
      · rw [binA_succ (by simp at hl; omega)]
        simp only [nd0, Y1n, Y1o, Y1p, Y1q, Y1w, Y1x, Y1y, Y1z, Y20, Y21, Y28, Y2a, AV.cells?, Nat.reduceAdd, Nat.reduceMul]
        refine back1.mk rest.length (by simp) ⟨pre ++ [x], rest, by simp, by simp, rfl, fun a ha => ?_⟩
        rcases List.mem_append.1 ha with ha | ha
        · exact hpre a ha
        · simp at ha; subst ha; exact h
  rcases hG with rfl | rfl
  · unfold F.slices_IndexFunc_expr_And_expr_Expr
    simp only [nd0, Y1n, Y1o, Y1p, Y1q, Y1w, Y1x, Y1y, Y1z, Y20, Y21, Y28, Y2a, AV.cells?, Nat.reduceAdd, Nat.reduceMul]
    exact main
  · unfold F.slices_IndexFunc_expr_Or_expr_Expr
    simp only [nd0, Y1n, Y1o, Y1p, Y1q, Y1w, Y1x, Y1y, Y1z, Y20, Y21, Y28, Y2a, AV.cells?, Nat.reduceAdd, Nat.reduceMul]
    exact main
theorem any_idx {α : Type} {l : List α} {p : α → Bool} : decide ((0 : Int) ≤ idxO (l.findIdx? p)) = l.any p := by
  cases hf : l.findIdx? p with
  | none =>
    rw [List.findIdx?_eq_none_iff] at hf
    have : l.any p = false := by rw [List.any_eq_false]; intro x hx; simp [hf x hx]
    rw [this]; rfl
  | some i =>
    rw [List.findIdx?_eq_some_iff_getElem] at hf
    obtain ⟨h1, h2, _⟩ := hf
    have : l.any p = true := by rw [List.any_eq_true]; exact ⟨_, List.getElem_mem h1, h2⟩
    rw [this]
    have : (0 : Int) ≤ idxO (some i) := by simp [idxO]
    rw [decide_eq_true this]
theorem conA_spec (B : EvalBodies0 E P) {k : Nat} {cs : List AV} {p : Ex → Bool} (l : List Ex) (hl : l.length < 4611686018427387904) (hcs : AV.closedL cs) (hp : ∀ a ∈ l, FX E P k ([a.enc] ++ cs) (Bo (p a))) :
    FX E P 163 [.slN (Ex.encL l) l.length, .fn k [] cs] (Bo (l.any p)) := by
  refine FX.of' ⟨Ex.encL_closed l, ⟨trivial, hcs⟩, trivial⟩ trivial fun n R hR => B.conA _ _ _ _ ?_
  unfold F.slices_ContainsFunc_expr_And_expr_Expr
  refine wCall.fx (ixF_spec (.inl rfl) B.ixA l hl hcs hp) fun n => ?_
  simp only [nd0, Y1n, Y1o, Y1p, Y1q, Y1w, Y1x, Y1y, Y1z, Y20, Y21, Y28, Y2a, AV.cells?, Nat.reduceAdd, Nat.reduceMul]
  exact hR _ _ (by rw [any_idx])
theorem conO_spec (B : EvalBodies0 E P) {k : Nat} {cs : List AV} {p : Ex → Bool} (l : List Ex) (hl : l.length < 4611686018427387904) (hcs : AV.closedL cs) (hp : ∀ a ∈ l, FX E P k ([a.enc] ++ cs) (Bo (p a))) :
    FX E P 165 [.slN (Ex.encL l) l.length, .fn k [] cs] (Bo (l.any p)) := by
  refine FX.of' ⟨Ex.encL_closed l, ⟨trivial, hcs⟩, trivial⟩ trivial fun n R hR => B.conO _ _ _ _ ?_
  unfold F.slices_ContainsFunc_expr_Or_expr_Expr
  refine wCall.fx (ixF_spec (.inr rfl) B.ixO l hl hcs hp) fun n => ?_
  simp only [nd0, Y1n, Y1o, Y1p, Y1q, Y1w, Y1x, Y1y, Y1z, Y20, Y21, Y28, Y2a, AV.cells?, Nat.reduceAdd, Nat.reduceMul]
  exact hR _ _ (by rw [any_idx])
theorem all_any {l : List Ex} {p : Ex → Bool} : (!(l.any fun x => !p x)) = l.all p := by
  rw [Bool.eq_iff_iff]; simp
set_option maxHeartbeats 1000000 in
theorem Eval_spec0 (B : EvalBodies0 E P) {f g : AV} {p q : Str → Bool} (hf : Asks E P f p) (hg : Asks E P g q) : ∀ (n : Nat) (x : Ex), x.wt < n → x.wt ≤ 1000000 → x.fine → FX E P 158 [x.enc, f, g] (Bo (x.says p q)) := by
  intro n
  induction n with
  | zero => intro x hx; omega
  | succ n ih =>
    intro x hx hw hfi
    refine FX.of' ⟨Ex.enc_closed x, hf.closed, hg.closed, trivial⟩ trivial fun c R hR => B.eval _ _ _ _ _ ?_
    unfold F.expr_Eval
    rw [cells?_scalar hf.scalar]
    refine wNew.F' rfl ?_
    rw [cells?_scalar hg.scalar]
    refine wNew.F' rfl ?_
    have hbox : ∀ l : List Ex, AV.closedL [AV.ptrF [f] 0, .ptrF [g] 0] := fun _ => ⟨⟨hf.closed, trivial⟩, ⟨hg.closed, trivial⟩, trivial⟩
    cases x with
    | k b =>
      simp only [Ex.enc]
      simp only [nd0, Y1n, Y1o, Y1p, Y1q, Y1w, Y1x, Y1y, Y1z, Y20, Y21, Y28, Y2a, AV.cells?, Nat.reduceAdd, Nat.reduceMul, asA, if_pos rfl]
      exact hR _ _ rfl
    | bit s =>
      simp only [Ex.enc]
      simp only [nd0, Y1n, Y1o, Y1p, Y1q, Y1w, Y1x, Y1y, Y1z, Y20, Y21, Y28, Y2a, AV.cells?, Nat.reduceAdd, Nat.reduceMul, asA, show (14 : Nat) = 11 ↔ False by decide, show (14 : Nat) = 14 ↔ True by decide]
      refine hf.call s fun n => ?_
      exact hR _ _ rfl
    | rise s =>
      simp only [Ex.enc]
      simp only [nd0, Y1n, Y1o, Y1p, Y1q, Y1w, Y1x, Y1y, Y1z, Y20, Y21, Y28, Y2a, AV.cells?, Nat.reduceAdd, Nat.reduceMul, asA, show (12 : Nat) = 11 ↔ False by decide, show (12 : Nat) = 14 ↔ False by decide, show (12 : Nat) = 12 ↔ True by decide]
      refine hf.call s fun n => ?_
      cases hp : p s with
      | false => simp only [nd0, Y1n, Y1o, Y1p, Y1q, Y1w, Y1x, Y1y, Y1z, Y20, Y21, Y28, Y2a, AV.cells?, Nat.reduceAdd, Nat.reduceMul]; exact hR _ _ (by simp [Ex.says, hp])
      | true =>
        simp only [nd0, Y1n, Y1o, Y1p, Y1q, Y1w, Y1x, Y1y, Y1z, Y20, Y21, Y28, Y2a, AV.cells?, Nat.reduceAdd, Nat.reduceMul]
        refine hg.call s fun n => ?_
        simp only [nd0, Y1n, Y1o, Y1p, Y1q, Y1w, Y1x, Y1y, Y1z, Y20, Y21, Y28, Y2a, AV.cells?, Nat.reduceAdd, Nat.reduceMul]
        exact hR _ _ (by simp [Ex.says, hp])
    | fall s =>
      simp only [Ex.enc]
      simp only [nd0, Y1n, Y1o, Y1p, Y1q, Y1w, Y1x, Y1y, Y1z, Y20, Y21, Y28, Y2a, AV.cells?, Nat.reduceAdd, Nat.reduceMul, asA, show (13 : Nat) = 11 ↔ False by decide, show (13 : Nat) = 14 ↔ False by decide, show (13 : Nat) = 12 ↔ False by decide, show (13 : Nat) = 13 ↔ True by decide]
      refine hf.call s fun n => ?_
      cases hp : p s with
      | true => simp only [nd0, Y1n, Y1o, Y1p, Y1q, Y1w, Y1x, Y1y, Y1z, Y20, Y21, Y28, Y2a, AV.cells?, Nat.reduceAdd, Nat.reduceMul]; exact hR _ _ (by simp [Ex.says, hp])
      | false =>
        simp only [nd0, Y1n, Y1o, Y1p, Y1q, Y1w, Y1x, Y1y, Y1z, Y20, Y21, Y28, Y2a, AV.cells?, Nat.reduceAdd, Nat.reduceMul]
        refine hg.call s fun n => ?_
        simp only [nd0, Y1n, Y1o, Y1p, Y1q, Y1w, Y1x, Y1y, Y1z, Y20, Y21, Y28, Y2a, AV.cells?, Nat.reduceAdd, Nat.reduceMul]
        exact hR _ _ (by simp [Ex.says, hp])
    | not x =>
      simp only [Ex.enc]
      simp only [Ex.wt] at hw hx
      simp only [nd0, Y1n, Y1o, Y1p, Y1q, Y1w, Y1x, Y1y, Y1z, Y20, Y21, Y28, Y2a, AV.cells?, Nat.reduceAdd, Nat.reduceMul, asA, show (10 : Nat) = 11 ↔ False by decide, show (10 : Nat) = 14 ↔ False by decide, show (10 : Nat) = 12 ↔ False by decide, show (10 : Nat) = 13 ↔ False by decide, show (10 : Nat) = 10 ↔ True by decide]
      refine wNew.L (l := [nilE]) rfl ?_
      simp only [nd0, Y1n, Y1o, Y1p, Y1q, Y1w, Y1x, Y1y, Y1z, Y20, Y21, Y28, Y2a, AV.cells?, Nat.reduceAdd, Nat.reduceMul]
      rw [storeN_L (n := 1) (xs := [x.enc]) rfl (by simp [Ex.enc_scalar])]
      simp only [nd0, Y1n, Y1o, Y1p, Y1q, Y1w, Y1x, Y1y, Y1z, Y20, Y21, Y28, Y2a, AV.cells?, Nat.reduceAdd, Nat.reduceMul, show putL [nilE] 0 [x.enc] = some [x.enc] from rfl]
      refine wCall.fx (ih x (by omega) (by omega) hfi) fun n2 => ?_
      simp only [nd0, Y1n, Y1o, Y1p, Y1q, Y1w, Y1x, Y1y, Y1z, Y20, Y21, Y28, Y2a, AV.cells?, Nat.reduceAdd, Nat.reduceMul]
      exact hR _ _ rfl
    | and l =>
      simp only [Ex.enc]
      simp only [Ex.wt] at hw hx
      have hll := Ex.len_wtL hfi.2
      simp only [nd0, Y1n, Y1o, Y1p, Y1q, Y1w, Y1x, Y1y, Y1z, Y20, Y21, Y28, Y2a, AV.cells?, Nat.reduceAdd, Nat.reduceMul, asA, show (9 : Nat) = 11 ↔ False by decide, show (9 : Nat) = 14 ↔ False by decide, show (9 : Nat) = 12 ↔ False by decide, show (9 : Nat) = 13 ↔ False by decide, show (9 : Nat) = 10 ↔ False by decide, show (9 : Nat) = 9 ↔ True by decide]
      refine wCall.fx (conA_spec B (p := fun x => !x.says p q) l (by omega) (hbox l) fun y hy => ?_) fun n2 => ?_
      · refine FX.of' ⟨Ex.enc_closed y, hbox l⟩ trivial fun c R hR => B.eval1 _ _ _ _ _ ?_
        unfold F.expr_Eval_c1
        simp only [nd0, Y1n, Y1o, Y1p, Y1q, Y1w, Y1x, Y1y, Y1z, Y20, Y21, Y28, Y2a, AV.cells?, Nat.reduceAdd, Nat.reduceMul]
        have := Ex.wt_mem hy
        refine wCall.fx (ih y (by omega) (by omega) (Ex.fine_mem hfi.2 hy)) fun n2 => ?_
        simp only [nd0, Y1n, Y1o, Y1p, Y1q, Y1w, Y1x, Y1y, Y1z, Y20, Y21, Y28, Y2a, AV.cells?, Nat.reduceAdd, Nat.reduceMul]
        exact hR _ _ rfl
      · simp only [nd0, Y1n, Y1o, Y1p, Y1q, Y1w, Y1x, Y1y, Y1z, Y20, Y21, Y28, Y2a, AV.cells?, Nat.reduceAdd, Nat.reduceMul]
        exact hR _ _ (by rw [all_any, Ex.says, Ex.allL_eq])
    | or l =>
      simp only [Ex.enc]
      simp only [Ex.wt] at hw hx
      have hll := Ex.len_wtL hfi.2
      simp only [nd0, Y1n, Y1o, Y1p, Y1q, Y1w, Y1x, Y1y, Y1z, Y20, Y21, Y28, Y2a, AV.cells?, Nat.reduceAdd, Nat.reduceMul, asA, show (8 : Nat) = 11 ↔ False by decide, show (8 : Nat) = 14 ↔ False by decide, show (8 : Nat) = 12 ↔ False by decide, show (8 : Nat) = 13 ↔ False by decide, show (8 : Nat) = 10 ↔ False by decide, show (8 : Nat) = 9 ↔ False by decide, show (8 : Nat) = 8 ↔ True by decide]
      refine wCall.fx (conO_spec B (p := fun x => x.says p q) l (by omega) (hbox l) fun y hy => ?_) fun n2 => ?_
      · refine FX.of' ⟨Ex.enc_closed y, hbox l⟩ trivial fun c R hR => B.eval2 _ _ _ _ _ ?_
        unfold F.expr_Eval_c2
        simp only [nd0, Y1n, Y1o, Y1p, Y1q, Y1w, Y1x, Y1y, Y1z, Y20, Y21, Y28, Y2a, AV.cells?, Nat.reduceAdd, Nat.reduceMul]
        have := Ex.wt_mem hy
        refine wCall.fx (ih y (by omega) (by omega) (Ex.fine_mem hfi.2 hy)) fun n2 => ?_
        exact hR _ _ rfl
      · exact hR _ _ (by rw [Ex.says, Ex.anyL_eq])
theorem Eval_spec (B : EvalBodies E P) {f g : AV} {p q : Str → Bool} (hf : Asks E P f p) (hg : Asks E P g q) : ∀ (n : Nat) (x : Ex), x.wt < n → x.wt ≤ 1000000 → x.fine → FX E P 158 [x.enc, f, g] (Bo (x.says p q)) := Eval_spec0 B.toEvalBodies0 hf hg
end
end Go.Sc
namespace Go.Sc
open Go
set_option linter.unusedSimpArgs false
set_option linter.unusedVariables false
/-! ### how deep -/
mutual
def Ex.dep : Ex → Nat
  | .not x => x.dep + 1
  | .and l => Ex.depL l + 1
  | .or l => Ex.depO l + 1
  | _ => 1
def Ex.depL : List Ex → Nat
  | [] => 0
  | x :: l => max x.dep (Ex.depL l)
def Ex.depO : List Ex → Nat
  | [] => 0
  | x :: l => max (if x.isAnd then x.dep - 1 else x.dep) (Ex.depO l)
end
def Ex.dA (x : Ex) : Nat := if x.isAnd then x.dep - 1 else x.dep
def Ex.dO (x : Ex) : Nat := if x.isOr then x.dep - 1 else x.dA
theorem Ex.depL_le {d : Nat} : ∀ {l : List Ex}, Ex.depL l ≤ d ↔ ∀ x ∈ l, x.dep ≤ d
  | [] => by simp [Ex.depL]
  | x :: l => by simp [Ex.depL, Ex.depL_le (l := l), Nat.max_le]
theorem Ex.depO_le {d : Nat} : ∀ {l : List Ex}, Ex.depO l ≤ d ↔ ∀ x ∈ l, x.dA ≤ d
  | [] => by simp [Ex.depO]
  | x :: l => by simp only [Ex.depO, Nat.max_le, Ex.depO_le (l := l), List.mem_cons, forall_eq_or_imp, Ex.dA]
/-! ### what stands behind -/
def T9 (r : Str) : Prop := r = [] ∨ ∃ c r', r = c :: r' ∧ (c = 32 ∨ c = 41)
def fnb (r : Str) : Option UInt8 := (r.dropWhile (· == 32)).head?
def TA (r : Str) : Prop := T9 r ∧ fnb r ≠ some 38
def TO (r : Str) : Prop := T9 r ∧ fnb r ≠ some 38 ∧ fnb r ≠ some 124
theorem at_app {pre r : Str} {k : Nat} : (pre ++ r)[pre.length + k]? = r[k]? := by rw [List.getElem?_append_right (by omega)]; congr 1; omega
theorem at_app0 {pre r : Str} : (pre ++ r)[pre.length]? = r[0]? := at_app (k := 0)
theorem take_drop {p : UInt8 → Bool} : ∀ r : Str, r[(r.takeWhile p).length]? = (r.dropWhile p).head?
  | [] => rfl
  | c :: r => by
    rw [List.takeWhile_cons, List.dropWhile_cons]
    split
    · simpa using take_drop r
    · simp
theorem skip_app (pre r : Str) : (pre ++ r)[skipTo (pre ++ r) pre.length]? = fnb r := by
  unfold skipTo
  rw [List.drop_left, at_app, take_drop]; rfl
theorem skip_stay {pre r : Str} (h : r[0]? ≠ some 32) : skipTo (pre ++ r) pre.length = pre.length := skipTo_stop (by rw [at_app0]; exact h)

/-! ### names -/
theorem nch_stop {c : UInt8} (h : nch c = true) : c ∉ stop9 := by
  have : ∀ i : Fin 256, nch (UInt8.ofNat i.val) = true → UInt8.ofNat i.val ∉ stop9 := by decide +kernel
  have h2 := this ⟨c.toNat, c.toNat_lt⟩
  simpa using h2 (by simpa using h)
theorem low_not {c : UInt8} (h : low c = true) : c ≠ 32 ∧ c ≠ 33 ∧ c ≠ 40 ∧ c ≠ 48 ∧ c ≠ 49 ∧ c ≠ 94 ∧ c ≠ 126 ∧ nch c = true := by
  refine ⟨?_, ?_, ?_, ?_, ?_, ?_, ?_, by simp [nch, h]⟩ <;> (rintro rfl; revert h; decide)
theorem name_chars {w : Str} (h : nameOk w = true) : ∃ c r, w = c :: r ∧ low c = true ∧ ∀ x ∈ w, nch x = true := by
  cases w with
  | nil => simp [nameOk] at h
  | cons c r =>
    simp only [nameOk, Bool.and_eq_true] at h
    refine ⟨c, r, rfl, h.1.1.1, fun x hx => ?_⟩
    rcases List.mem_cons.1 hx with rfl | hx
    · simp [nch, h.1.1.1]
    · exact List.all_eq_true.1 h.1.1.2 x hx
theorem T9_stop {r : Str} (h : T9 r) : ∀ c, r[0]? = some c → c ∈ stop9 := by
  rintro c hc
  rcases h with rfl | ⟨d, r', rfl, h⟩
  · simp at hc
  · simp at hc; subst hc
    rcases h with rfl | rfl <;> simp [stop9]
theorem wEnd_app {w : Str} (hw : nameOk w = true) (pre r : Str) (hr : T9 r) : ∀ (n k : Nat), k + n = w.length → wEnd (pre ++ w ++ r) pre.length (pre.length + k) = pre.length + w.length
  | 0, k, hk => by
    have hk' : k = w.length := by omega
    subst hk'
    refine wEnd_stop ?_
    unfold wc
    have e : (pre ++ w ++ r)[pre.length + w.length]? = r[0]? := by rw [List.append_assoc, at_app]; exact at_app0
    rw [e]
    cases h0 : r[0]? with
    | none => rfl
    | some c => simp [T9_stop hr c h0]
  | n + 1, k, hk => by
    have hkl : k < w.length := by omega
    have e : (pre ++ w ++ r)[pre.length + k]? = some w[k] := by
      rw [List.append_assoc, at_app, List.getElem?_append_left hkl, List.getElem?_eq_getElem hkl]
    obtain ⟨c0, r0, hc0, hlow, hall⟩ := name_chars hw
    have hwc : wc (pre ++ w ++ r) pre.length (pre.length + k) = true := by
      unfold wc
      rw [e]
      have h9 := nch_stop (hall w[k] (List.getElem_mem hkl))
      simp only [decide_eq_false h9, Bool.not_false, Bool.true_and]
      by_cases h0 : k = 0
      · subst h0
        have : w[0] = c0 := by subst hc0; rfl
        have hl := low_not hlow
        simp [this, hl.2.2.2.1, hl.2.2.2.2.1]
      · simp; left; omega
    rw [wEnd_step hwc]
    exact wEnd_app hw pre r hr n (k + 1) (by omega)
theorem wordR_app {w : Str} (hw : nameOk w = true) (pre r : Str) (hr : T9 r) : wordR (pre ++ w ++ r) pre.length = .ok w (pre.length + w.length) := by
  obtain ⟨c0, r0, hc0, hlow, hall⟩ := name_chars hw
  have hl := low_not hlow
  have hs : skipTo (pre ++ w ++ r) pre.length = pre.length := by
    rw [List.append_assoc]; refine skip_stay ?_
    subst hc0; simpa using hl.1
  have he : wEnd (pre ++ w ++ r) pre.length pre.length = pre.length + w.length := wEnd_app hw pre r hr w.length 0 (by omega)
  have hwd : wordAt (pre ++ w ++ r) pre.length = w := by
    unfold wordAt
    rw [he, List.append_assoc, List.take_append, List.take_of_length_le (by omega)]
    simp
  unfold wordR
  rw [hs, hwd, he, if_neg (by rw [hc0]; simp), if_neg (by rw [hw]; simp)]

/-! ### blanks ahead count for nothing -/
def Blk0 (F : Str → Nat → Rs Ex) : Prop := ∀ s i, s[i]? = some 32 → F s i = F s (i + 1)
theorem oneR_blk (d : Nat) : Blk0 (fun s => oneR s d) := by
  intro s i h
  cases d with
  | zero => simp only [oneR]; rw [skipTo_step h]
  | succ d => simp only [oneR]; rw [skipTo_step h]
theorem rowR_blk {c : UInt8} {F : Str → Nat → Rs Ex} (hF : Blk0 F) : ∀ (s : Str) (n i : Nat) (l : List Ex), s[i]? = some 32 → rowR s c (F s) (n + 1) i l = rowR s c (F s) (n + 1) (i + 1) l := by
  intro s n i l h
  simp only [rowR]
  rw [hF s i h]
theorem allR_blk {c : UInt8} {mk : List Ex → Ex} {F : Str → Nat → Rs Ex} (hF : Blk0 F) : Blk0 (fun s => allR s c mk (F s)) := by
  intro s i h
  simp only [allR]
  rw [rowR_blk hF s _ i _ h]
/-- F reads the text t as x, where what is behind is as T says -/
def Reads (F : Str → Nat → Rs Ex) (T : Str → Prop) (t : Str) (x : Ex) : Prop := ∀ pre r, T r → ∃ j, F (pre ++ t ++ r) pre.length = .ok x j ∧ skipTo (pre ++ t ++ r) j = skipTo (pre ++ t ++ r) (pre.length + t.length)
/-- a row of parts is read -/
theorem row_reads {F : Str → Nat → Rs Ex} {T Tp : Str → Prop} {c : UInt8} {u : Ex → Str} (hF : Blk0 F) (hc : c ≠ 32) (hTp : ∀ r, T r → Tp r) (hTs : ∀ r, Tp (32 :: c :: 32 :: r)) (hT : ∀ r, T r → fnb r ≠ some c) :
    ∀ (l : List Ex), l ≠ [] → (∀ x ∈ l, Reads F Tp (u x) x) → ∀ (n : Nat) (acc : List Ex) (pre r : Str), l.length ≤ n → T r →
      rowR (pre ++ joinS [32, c, 32] (l.map u) ++ r) c (F (pre ++ joinS [32, c, 32] (l.map u) ++ r)) n pre.length acc = .ok (acc ++ l) (skipTo (pre ++ joinS [32, c, 32] (l.map u) ++ r) (pre.length + (joinS [32, c, 32] (l.map u)).length))
  | [], h, _, _, _, _, _, _, _ => absurd rfl h
  | [x], _, hx, 0, _, _, _, hn, _ => by simp at hn
  | [x], _, hx, n + 1, acc, pre, r, hn, hr => by
    simp only [List.map_cons, List.map_nil, joinS, rowR]
    obtain ⟨j, hj1, hj2⟩ := hx x (by simp) pre r (hTp r hr)
    rw [hj1]
    simp only
    rw [hj2]
    have : (pre ++ u x ++ r)[skipTo (pre ++ u x ++ r) (pre.length + (u x).length)]? = fnb r := by
      have := skip_app (pre ++ u x) r
      rwa [List.length_append] at this
    rw [this, if_neg (hT r hr)]
  | x :: y :: l, _, hx, 0, _, _, _, hn, _ => by simp at hn
  | x :: y :: l, _, hx, n + 1, acc, pre, r, hn, hr => by
    have hj : joinS [32, c, 32] ((x :: y :: l).map u) = u x ++ [32, c, 32] ++ joinS [32, c, 32] ((y :: l).map u) := rfl
    rw [hj]
    generalize hJ : joinS [32, c, 32] ((y :: l).map u) = J
    have e1 : pre ++ (u x ++ [32, c, 32] ++ J) ++ r = pre ++ u x ++ (32 :: c :: 32 :: (J ++ r)) := by simp
    have e2 : pre ++ (u x ++ [32, c, 32] ++ J) ++ r = (pre ++ u x ++ [32, c, 32]) ++ J ++ r := by simp
    obtain ⟨jj, h0, h00⟩ := hx x (by simp) pre (32 :: c :: 32 :: (J ++ r)) (hTs _)
    rw [← e1] at h0 h00
    simp only [rowR]
    rw [h0]
    simp only
    rw [h00]
    have hsk : skipTo (pre ++ (u x ++ [32, c, 32] ++ J) ++ r) (pre.length + (u x).length) = pre.length + (u x).length + 1 := by
      rw [e1, ← List.length_append]
      rw [skipTo_step (by rw [at_app0]; rfl)]
      refine skipTo_stop ?_
      rw [at_app]; simpa using hc
    have hch : (pre ++ (u x ++ [32, c, 32] ++ J) ++ r)[pre.length + (u x).length + 1]? = some c := by
      rw [e1, ← List.length_append, at_app]; rfl
    rw [hsk, hch, if_pos rfl]
    have hb : (pre ++ (u x ++ [32, c, 32] ++ J) ++ r)[pre.length + (u x).length + 1 + 1]? = some 32 := by
      rw [e1, ← List.length_append, Nat.add_assoc, at_app]; rfl
    obtain ⟨n, rfl⟩ : ∃ k, n = k + 1 := ⟨n - 1, by simp at hn; omega⟩
    rw [rowR_blk hF _ _ _ _ hb]
    have ih := row_reads hF hc hTp hTs hT (y :: l) (by simp) (fun z hz => hx z (by simp at hz ⊢; exact .inr hz)) (n + 1) (acc ++ [x]) (pre ++ u x ++ [32, c, 32]) r (by simpa using hn) hr
    rw [hJ, ← e2] at ih
    have hl1 : (pre ++ u x ++ [32, c, 32]).length = pre.length + (u x).length + 1 + 1 + 1 := by simp; omega
    rw [hl1] at ih
    rw [ih]
    have hl2 : pre.length + (u x ++ [32, c, 32] ++ J).length = pre.length + (u x).length + 1 + 1 + 1 + J.length := by simp; omega
    rw [hl2]
    simp
theorem joinS_count (sep : Str) (hs : sep.length = 3) : ∀ l : List Str, l.length ≤ (joinS sep l).length + 1
  | [] => by simp
  | [x] => by simp
  | x :: y :: l => by
    have := joinS_count sep hs (y :: l)
    simp only [joinS, List.length_append, List.length_cons, hs] at this ⊢
    omega
theorem all_reads {F : Str → Nat → Rs Ex} {T Tp : Str → Prop} {c : UInt8} {mk : List Ex → Ex} {u : Ex → Str} (hF : Blk0 F) (hc : c ≠ 32) (hTp : ∀ r, T r → Tp r) (hTs : ∀ r, Tp (32 :: c :: 32 :: r)) (hT : ∀ r, T r → fnb r ≠ some c)
    (l : List Ex) (hl : l ≠ []) (hx : ∀ x ∈ l, Reads F Tp (u x) x) : Reads (fun s => allR s c mk (F s)) T (joinS [32, c, 32] (l.map u)) (foldR mk l) := by
  intro pre r hr
  have hn : l.length ≤ (pre ++ joinS [32, c, 32] (l.map u) ++ r).length + 1 := by
    have := joinS_count [32, c, 32] rfl (l.map u)
    simp only [List.length_append, List.length_map] at this ⊢
    omega
  have := row_reads hF hc hTp hTs hT l hl hx _ [] pre r hn hr
  refine ⟨_, ?_, skipTo_idem _ _⟩
  simp only [allR]
  rw [this]
  rfl
theorem TA_T9 : ∀ r, TA r → T9 r := fun _ h => h.1
theorem TO_TA : ∀ r, TO r → TA r := fun _ h => ⟨h.1, h.2.1⟩
theorem T9_sp (r : Str) : T9 (32 :: r) := .inr ⟨32, r, rfl, .inl rfl⟩
theorem TA_or (r : Str) : TA (32 :: 124 :: 32 :: r) := ⟨T9_sp _, by simp [fnb]⟩
theorem TO_close (r : Str) : TO (41 :: r) := ⟨.inr ⟨41, r, rfl, .inr rfl⟩, by simp [fnb], by simp [fnb]⟩
theorem andR_blk (d : Nat) : Blk0 (fun s => andR s (oneR s d)) := allR_blk (oneR_blk d)
theorem and_parts {d : Nat} {l : List Ex} (hl : 2 ≤ l.length) (hx : ∀ x ∈ l, Reads (fun s => oneR s d) T9 (x.wr 2) x) : Reads (fun s => andR s (oneR s d)) TA ((Ex.and l).wr 1) (.and l) := by
  have := all_reads (mk := .and) (oneR_blk d) (c := 38) (by decide) TA_T9 (fun r => T9_sp _) (fun r h => h.2) l (by intro e; rw [e] at hl; simp at hl) hx
  have e1 : (Ex.and l).wr 1 = joinS [32, 38, 32] (l.map (Ex.wr 2)) := by simp [Ex.wr, around, Ex.wrL_map]
  have e2 : foldR Ex.and l = .and l := by
    match l, hl with
    | x :: y :: r, _ => rfl
  rw [e2] at this
  rw [e1]
  exact this
theorem or_parts {d : Nat} {l : List Ex} (hl : 2 ≤ l.length) (hx : ∀ x ∈ l, Reads (fun s => andR s (oneR s d)) TA (x.wr 1) x) : Reads (fun s => orR s (oneR s d)) TO ((Ex.or l).wr 0) (.or l) := by
  have := all_reads (mk := .or) (andR_blk d) (c := 124) (by decide) TO_TA (fun r => TA_or _) (fun r h => h.2.2) l (by intro e; rw [e] at hl; simp at hl) hx
  have e1 : (Ex.or l).wr 0 = joinS [32, 124, 32] (l.map (Ex.wr 1)) := by simp [Ex.wr, around, Ex.wrL_map]
  have e2 : foldR Ex.or l = .or l := by
    match l, hl with
    | x :: y :: r, _ => rfl
  rw [e2] at this
  rw [e1]
  exact this
theorem and_one {d : Nat} {x : Ex} (h : Reads (fun s => oneR s d) T9 (x.wr 2) x) (hx : x.isAnd = false) : Reads (fun s => andR s (oneR s d)) TA (x.wr 1) x := by
  have := all_reads (mk := .and) (oneR_blk d) (c := 38) (by decide) TA_T9 (fun r => T9_sp _) (fun r h => h.2) (u := Ex.wr 2) [x] (by simp) (by simpa using h)
  have e1 : x.wr 1 = x.wr 2 := by rw [Ex.wr_one, Ex.wr_two, hx]; rfl
  rw [e1]
  exact this
theorem or_one {d : Nat} {x : Ex} (h : Reads (fun s => andR s (oneR s d)) TA (x.wr 1) x) (hx : x.isOr = false) : Reads (fun s => orR s (oneR s d)) TO (x.wr 0) x := by
  have := all_reads (mk := .or) (andR_blk d) (c := 124) (by decide) TO_TA (fun r => TA_or _) (fun r h => h.2.2) (u := Ex.wr 1) [x] (by simp) (by simpa using h)
  have e1 : x.wr 0 = x.wr 1 := by rw [Ex.wr_one, hx]; rfl
  rw [e1]
  exact this
theorem one_paren {d : Nat} {x : Ex} {t : Str} (h : Reads (fun s => orR s (oneR s d)) TO t x) : Reads (fun s => oneR s (d + 1)) T9 (40 :: t ++ [41]) x := by
  intro pre r hr
  have e1 : pre ++ (40 :: t ++ [41]) ++ r = (pre ++ [40]) ++ t ++ (41 :: r) := by simp
  have e0 : pre ++ (40 :: t ++ [41]) ++ r = pre ++ (40 :: (t ++ 41 :: r)) := by simp
  obtain ⟨j, h1, h2⟩ := h (pre ++ [40]) (41 :: r) (TO_close r)
  simp only at h1
  have hs : skipTo (pre ++ (40 :: t ++ [41]) ++ r) pre.length = pre.length := by rw [e0]; exact skip_stay (by simp)
  have h40 : (pre ++ (40 :: t ++ [41]) ++ r)[pre.length]? = some 40 := by rw [e0, at_app0]; rfl
  have e2 : (pre ++ [40] ++ t ++ (41 :: r)) = (pre ++ [40] ++ t) ++ (41 :: r) := rfl
  have h41 : (pre ++ [40] ++ t ++ (41 :: r))[(pre ++ [40]).length + t.length]? = some 41 := by
    rw [← List.length_append, at_app0]; rfl
  have hs2 : skipTo (pre ++ [40] ++ t ++ (41 :: r)) ((pre ++ [40]).length + t.length) = (pre ++ [40]).length + t.length := skipTo_stop (by rw [h41]; simp)
  rw [hs2] at h2
  refine ⟨(pre ++ [40]).length + t.length + 1, ?_, by simp; congr 1; omega⟩
  simp only [oneR]
  rw [hs, h40]
  simp only [show ((some (40 : UInt8) = some 33) = False) by simp, if_false, if_true]
  rw [e1]
  have hl : pre.length + 1 = (pre ++ [40]).length := by simp
  rw [hl, h1]
  simp only [closeR]
  rw [h2, h41, if_pos rfl]
theorem reads_all : ∀ (n : Nat) (x : Ex), x.wt < n → x.fine →
    (∀ d, x.dep ≤ d → Reads (fun s => oneR s d) T9 (x.wr 2) x) ∧ (∀ d, x.dA ≤ d → Reads (fun s => andR s (oneR s d)) TA (x.wr 1) x) ∧ (∀ d, x.dO ≤ d → Reads (fun s => orR s (oneR s d)) TO (x.wr 0) x) := by
  intro n
  induction n with
  | zero => intro x h; omega
  | succ n ih =>
    intro x hw hf
    have lift : x.isAnd = false → x.isOr = false → (∀ d, x.dep ≤ d → Reads (fun s => oneR s d) T9 (x.wr 2) x) → (∀ d, x.dep ≤ d → Reads (fun s => oneR s d) T9 (x.wr 2) x) ∧ (∀ d, x.dA ≤ d → Reads (fun s => andR s (oneR s d)) TA (x.wr 1) x) ∧ (∀ d, x.dO ≤ d → Reads (fun s => orR s (oneR s d)) TO (x.wr 0) x) := by
      intro h1 h2 h
      have hA : x.dA = x.dep := by simp [Ex.dA, h1]
      have hO : x.dO = x.dep := by simp [Ex.dO, h2, hA]
      rw [hA, hO]
      exact ⟨h, fun d hd => and_one (h d hd) h1, fun d hd => or_one (and_one (h d hd) h1) h2⟩
    cases x with
    | k b =>
      refine lift rfl rfl fun d hd pre r hr => ⟨_, ?_, rfl⟩
      obtain ⟨d, rfl⟩ : ∃ k, d = k + 1 := ⟨d - 1, by simp [Ex.dep] at hd; omega⟩
      have hs : skipTo (pre ++ (Ex.k b).wr 2 ++ r) pre.length = pre.length := by rw [List.append_assoc]; exact skip_stay (by cases b <;> simp [Ex.wr])
      have hc : (pre ++ (Ex.k b).wr 2 ++ r)[pre.length]? = some (if b then 49 else 48) := by rw [List.append_assoc, at_app0]; cases b <;> rfl
      simp only [oneR]
      rw [hs, hc]
      cases b <;> simp [Ex.wr]
    | bit w =>
      refine lift rfl rfl fun d hd pre r hr => ⟨_, ?_, rfl⟩
      obtain ⟨d, rfl⟩ : ∃ k, d = k + 1 := ⟨d - 1, by simp [Ex.dep] at hd; omega⟩
      obtain ⟨c0, r0, hc0, hlow, _⟩ := name_chars hf
      have hl := low_not hlow
      have hc : (pre ++ (Ex.bit w).wr 2 ++ r)[pre.length]? = some c0 := by rw [List.append_assoc, at_app0]; simp [Ex.wr, hc0]
      have hs : skipTo (pre ++ (Ex.bit w).wr 2 ++ r) pre.length = pre.length := skipTo_stop (by rw [hc]; simpa using hl.1)
      simp only [oneR]
      rw [hs, hc]
      simp only [Option.some.injEq, hl.2.1, hl.2.2.1, hl.2.2.2.1, hl.2.2.2.2.1, hl.2.2.2.2.2.1, hl.2.2.2.2.2.2.1, if_false]
      simp only [Ex.wr]
      rw [wordR_app hf pre r hr]
      rfl
    | rise w =>
      refine lift rfl rfl fun d hd pre r hr => ⟨_, ?_, rfl⟩
      obtain ⟨d, rfl⟩ : ∃ k, d = k + 1 := ⟨d - 1, by simp [Ex.dep] at hd; omega⟩
      have hc : (pre ++ (Ex.rise w).wr 2 ++ r)[pre.length]? = some 94 := by rw [List.append_assoc, at_app0]; rfl
      have hs : skipTo (pre ++ (Ex.rise w).wr 2 ++ r) pre.length = pre.length := skipTo_stop (by rw [hc]; simp)
      have e1 : pre ++ (Ex.rise w).wr 2 ++ r = (pre ++ [94]) ++ w ++ r := by simp [Ex.wr]
      simp only [oneR]
      rw [hs, hc]
      simp only [show (some (94 : UInt8) = some 33) = False by simp, show (some (94 : UInt8) = some 40) = False by simp, show (some (94 : UInt8) = some 48) = False by simp, show (some (94 : UInt8) = some 49) = False by simp, if_false, if_true]
      have hl : pre.length + 1 = (pre ++ [94]).length := by simp
      rw [e1, hl, wordR_app hf (pre ++ [94]) r hr]
      simp [Rs.map, Ex.wr]; omega
    | fall w =>
      refine lift rfl rfl fun d hd pre r hr => ⟨_, ?_, rfl⟩
      obtain ⟨d, rfl⟩ : ∃ k, d = k + 1 := ⟨d - 1, by simp [Ex.dep] at hd; omega⟩
      have hc : (pre ++ (Ex.fall w).wr 2 ++ r)[pre.length]? = some 126 := by rw [List.append_assoc, at_app0]; rfl
      have hs : skipTo (pre ++ (Ex.fall w).wr 2 ++ r) pre.length = pre.length := skipTo_stop (by rw [hc]; simp)
      have e1 : pre ++ (Ex.fall w).wr 2 ++ r = (pre ++ [126]) ++ w ++ r := by simp [Ex.wr]
      simp only [oneR]
      rw [hs, hc]
      simp only [show (some (126 : UInt8) = some 33) = False by simp, show (some (126 : UInt8) = some 40) = False by simp, show (some (126 : UInt8) = some 48) = False by simp, show (some (126 : UInt8) = some 49) = False by simp, show (some (126 : UInt8) = some 94) = False by simp, if_false, if_true]
      have hl : pre.length + 1 = (pre ++ [126]).length := by simp
      rw [e1, hl, wordR_app hf (pre ++ [126]) r hr]
      simp [Rs.map, Ex.wr]; omega
    | not y =>
      refine lift rfl rfl fun d hd pre r hr => ?_
      simp only [Ex.dep] at hd
      simp only [Ex.wt] at hw
      obtain ⟨d, rfl⟩ : ∃ k, d = k + 1 := ⟨d - 1, by omega⟩
      have hc : (pre ++ (Ex.not y).wr 2 ++ r)[pre.length]? = some 33 := by rw [List.append_assoc, at_app0]; rfl
      have hs : skipTo (pre ++ (Ex.not y).wr 2 ++ r) pre.length = pre.length := skipTo_stop (by rw [hc]; simp)
      have e1 : pre ++ (Ex.not y).wr 2 ++ r = (pre ++ [33]) ++ y.wr 2 ++ r := by simp [Ex.wr]
      obtain ⟨j, h1, h2⟩ := (ih y (by omega) hf).1 d (by omega) (pre ++ [33]) r hr
      simp only at h1
      refine ⟨j, ?_, ?_⟩
      · simp only [oneR]
        rw [hs, hc]
        simp only [if_true]
        have hl : pre.length + 1 = (pre ++ [33]).length := by simp
        rw [e1, hl, h1]
        rfl
      · rw [e1, h2]
        congr 1
        simp [Ex.wr]; omega
    | and l =>
      simp only [Ex.wt] at hw
      have hA : ∀ d, (Ex.and l).dA ≤ d → Reads (fun s => andR s (oneR s d)) TA ((Ex.and l).wr 1) (.and l) := fun d hd => and_parts hf.1 fun y hy => (ih y (by have := Ex.wt_mem hy; omega) (Ex.fine_mem hf.2 hy)).1 d (by
        have : Ex.depL l ≤ d := by simpa [Ex.dA, Ex.isAnd, Ex.dep] using hd
        exact Ex.depL_le.1 this y hy)
      have hO : ∀ d, (Ex.and l).dO ≤ d → Reads (fun s => orR s (oneR s d)) TO ((Ex.and l).wr 0) (.and l) := fun d hd => or_one (hA d (by simpa [Ex.dO, Ex.isOr] using hd)) rfl
      refine ⟨fun d hd => ?_, hA, hO⟩
      obtain ⟨d, rfl⟩ : ∃ k, d = k + 1 := ⟨d - 1, by simp only [Ex.dep] at hd; omega⟩
      have e : (Ex.and l).wr 2 = 40 :: (Ex.and l).wr 0 ++ [41] := by rw [Ex.wr_two]; rfl
      rw [e]
      exact one_paren (hO d (by simp [Ex.dO, Ex.isOr, Ex.dA, Ex.isAnd, Ex.dep] at hd ⊢; omega))
    | or l =>
      simp only [Ex.wt] at hw
      have hO : ∀ d, (Ex.or l).dO ≤ d → Reads (fun s => orR s (oneR s d)) TO ((Ex.or l).wr 0) (.or l) := fun d hd => or_parts hf.1 fun y hy => (ih y (by have := Ex.wt_mem hy; omega) (Ex.fine_mem hf.2 hy)).2.1 d (by
        have : Ex.depO l ≤ d := by simpa [Ex.dO, Ex.isOr, Ex.dep] using hd
        exact Ex.depO_le.1 this y hy)
      have h1 : ∀ d, (Ex.or l).dep ≤ d → Reads (fun s => oneR s d) T9 ((Ex.or l).wr 2) (.or l) := fun d hd => by
        obtain ⟨d, rfl⟩ : ∃ k, d = k + 1 := ⟨d - 1, by simp only [Ex.dep] at hd; omega⟩
        have e : (Ex.or l).wr 2 = 40 :: (Ex.or l).wr 0 ++ [41] := by rw [Ex.wr_two]; rfl
        rw [e]
        exact one_paren (hO d (by simp [Ex.dO, Ex.isOr, Ex.dep] at hd ⊢; omega))
      exact ⟨h1, fun d hd => and_one (h1 d (by simpa [Ex.dA, Ex.isAnd] using hd)) rfl, hO⟩
/-- what a text tells is the expression again -/
theorem orR_text {x : Ex} (hf : x.fine) {d : Nat} (hd : x.dO ≤ d) : ∃ j, orR (x.wr 0) (oneR (x.wr 0) d) 0 = .ok x j ∧ skipTo (x.wr 0) j = (x.wr 0).length := by
  obtain ⟨j, h1, h2⟩ := (reads_all (x.wt + 1) x (by omega) hf).2.2 d hd [] [] ⟨.inl rfl, by simp [fnb], by simp [fnb]⟩
  simp only [List.nil_append, List.append_nil, List.length_nil, Nat.zero_add] at h1 h2
  refine ⟨j, h1, h2.trans (skipTo_stop (by rw [List.getElem?_eq_none (by omega)]; simp))⟩
theorem parse_text {x : Ex} (hf : x.fine) (hd : x.dO ≤ 20) : parseR (x.wr 0) = .ok x (x.wr 0).length := by
  obtain ⟨j, h1, h2⟩ := orR_text hf hd
  unfold parseR
  rw [h1]
  simp only
  rw [h2, if_neg (by omega)]
end Go.Sc
namespace Go.Sc
set_option linter.unusedSimpArgs false
open Go Go.RowKit
section
variable {E : Env} {P : Program}
theorem indexByte_idx (c : UInt8) : ∀ s : Str, Lib.indexByte s c = idx s c
  | [] => by simp [Lib.indexByte, idx]
  | x :: s => by
    have ih := indexByte_idx c s
    unfold Lib.indexByte
    by_cases h : x = c
    · subst h; simp [idx]
    · have h' : ¬ c = x := fun e => h e.symm
      have hb : (x == c) = false := by simpa using h
      by_cases hm : c ∈ s
      · simp [idx, hm, h, h', ih, List.idxOf_cons, hb] <;> omega
      · simp [idx, hm, h, h', ih]
theorem FX.indexByte {k : Nat} {fn : Func} (hf : P.funcs[E.fn k]? = some fn) (hn : (fn.name == "runtime.NumGoroutine") = false) (hb : fn.body.isNone = false)
    (h : ∀ (s : ByteArray) (c : Int) (w : World), Calls P (E.fn k) #[.string s, .int .u8 c] w fun e w' => e = .returned (.int .i64 (Lib.indexByte s.data.toList c.toNat.toUInt8)) ∧ w' = w) (s : Str) (c : UInt8) : FX E P k [S s, By c] (Z (idx s c)) := by
  refine FX.ofCalls hf hn hb (by simp [AV.closedL, AV.closed]) (by simp [AV.flat]) (by simp [AV.closed]) fun cx vs _ _ hv => ?_
  simp only [LRel, VRel] at hv
  obtain ⟨v0, _, rfl, rfl, v1, _, rfl, rfl, rfl⟩ := hv
  refine (h ⟨s.toArray⟩ c.toNat cx.w).mono ?_
  rintro e w' ⟨rfl, rfl⟩
  refine ⟨_, rfl, Below.refl _ _, ?_⟩
  have e1 : (((c.toNat : Nat) : Int).toNat).toUInt8 = c := by simp
  rw [e1, indexByte_idx]
  simp [VRel]
end
end Go.Sc
namespace Go.Sc
open Go Go.RowKit Go.Sort Go.Proofs
set_option linter.unusedSimpArgs false
set_option linter.unusedVariables false
section
variable {E : Env} {P : Program} {c : Cx} {H : AH}
theorem HRel.more (h : HRel E c H) (os : Array Obj) : HRel E { c with w := grow c.w os } H ∧ Later c { c with w := grow c.w os } := by
  have hsame : ∀ k, k < c.w.heap.size → (grow c.w os).heap[k]? = c.w.heap[k]? := fun k hk => by
    show (c.w.heap ++ os)[k]? = _
    rw [Array.getElem?_append_left hk]
  have hsz : c.w.heap.size ≤ (grow c.w os).heap.size := by show c.w.heap.size ≤ (c.w.heap ++ os).size; simp
  have hL : Later c { c with w := grow c.w os } := {
    le := ⟨Nat.le_refl _, fun b hb => ⟨hb, hsame b (h.fzlt b hb)⟩, fun k j hk => ⟨.inr hk, cell_of_heap (hsame k (h.fclt k j hk)) _ _⟩, fun b g _ e => ⟨e, rfl, rfl, rfl, rfl⟩, fun _ _ _ _ _ hj => hj⟩
    os := rfl
    tape := rfl
    output := rfl
    size := hsz
    keep := fun k hk _ => hsame k hk
    own := fun b hb => .inl ⟨b, hb, rfl⟩
    fz := fun k hk => .inl hk
    fc := fun k j hk => .inl hk }
  exact ⟨⟨h.ctr, h.out, fun b x e => (h.blk b x e).mono hL.le rfl rfl rfl rfl rfl (fun hd => hsame _ (h.lt b (h.live' e hd))), h.apart, h.solid, h.inj, fun b hb => Nat.lt_of_lt_of_le (h.lt b hb) hsz, fun b hb => Nat.lt_of_lt_of_le (h.fzlt b hb) hsz, fun b j hb => Nat.lt_of_lt_of_le (h.fclt b j hb) hsz, h.globLe hL.le⟩, hL⟩
theorem rel_texts : ∀ {l : List Str} {vs : List Value}, LRel E c (l.map fun s => S s) vs → vs = l.map encStr
  | [], vs, h => by simpa [LRel] using h
  | s :: l, vs, h => by
    simp only [List.map_cons, LRel] at h
    obtain ⟨u, us, rfl, hu, h⟩ := h
    simp only [VRel] at hu
    rw [rel_texts h, hu]
    rfl
theorem texts_rel : ∀ {l : List Str}, LRel E c (l.map fun s => S s) (l.map encStr)
  | [] => by simp [LRel]
  | s :: l => by simp only [List.map_cons, LRel]; exact ⟨_, _, rfl, by simp only [VRel], texts_rel⟩
/-- where a row of texts lies -/
theorem HRel.row (h : HRel E c H) {b g : Nat} {l : List Str} (hb : H.bs[b]? = some (.cells g 1 (l.map fun s => S s))) : ∃ p0 rest e, c.w.heap[c.al b]? = some (.cells (p0 ++ l.map encStr ++ rest).toArray e (0, 0)) ∧ p0.length = c.base b ∧ c.gen b = some g ∧ c.sz b = 1 ∧ c.csz b = (p0 ++ l.map encStr ++ rest).length := by
  have hB := h.blk b _ hb
  simp only [BRel] at hB
  obtain ⟨h1, h2, h3, arr, e, h4, h5, p0, pre, rest, rfl, h7, h8⟩ := hB
  have := rel_texts h8
  subst this
  exact ⟨p0, rest, e, h4, h7, h2, h3, h5⟩
theorem HRel.holds (h : HRel E c H) {b g : Nat} {l : List Str} (hb : H.bs[b]? = some (.cells g 1 (l.map fun s => S s))) : Holds encStr c.w (c.al b) (c.base b) l.toArray := by
  obtain ⟨p0, rest, e, h4, h7, -⟩ := h.row hb
  intro j hj
  simp at hj
  rw [← h7]
  refine ⟨?_, ?_⟩
  · simp only [World.cell?, h4]
    simp [List.getElem?_append_right, List.getElem?_append_left, hj]
  · simp [World.frozen?, h4]
theorem HRel.putTexts (h : HRel E c H) {b g : Nat} {l l' : List Str} (hl : l'.length = l.length) (hb : H.bs[b]? = some (.cells g 1 (l.map fun s => S s))) (q : Nat) (os : Array Obj) :
    HRel E { c with w := grow (putRow encStr (Sort.ahead c.w q) (c.al b) (c.base b) l'.toArray) os } ⟨H.bs.set b (.cells g 1 (l'.map fun s => S s)), H.ctr⟩ ∧ Later c { c with w := grow (putRow encStr (Sort.ahead c.w q) (c.al b) (c.base b) l'.toArray) os } := by
  obtain ⟨p0, rest, e, h4, h7, -⟩ := h.row hb
  have hlt := h.lt (b := b) (h.live' hb)
  have hheap : (putRow encStr (Sort.ahead c.w q) (c.al b) (c.base b) l'.toArray).heap = c.w.heap.setIfInBounds (c.al b) (.cells (p0 ++ l'.map encStr ++ rest).toArray e (0, 0)) := by
    have hput : putCells encStr (c.base b) l'.toArray (p0 ++ l.map encStr ++ rest).toArray = (p0 ++ l'.map encStr ++ rest).toArray := by
      apply Array.ext_getElem?
      intro k
      unfold putCells
      simp only [Array.getElem?_mapIdx, List.size_toArray, List.getElem?_toArray, ← h7]
      by_cases h1 : k < p0.length
      · rw [List.append_assoc, List.append_assoc, List.getElem?_append_left h1, List.getElem?_append_left h1]
        have : ¬ (p0.length ≤ k ∧ k < p0.length + l'.length) := by omega
        simp only [if_neg this]
        cases p0[k]? <;> rfl
      · by_cases h2 : k < p0.length + l'.length
        · have e1 : (p0 ++ l'.map encStr ++ rest)[k]? = some (encStr (l'[k - p0.length]'(by omega))) := by
            rw [List.getElem?_append_left (by simp; omega), List.getElem?_append_right (by omega), List.getElem?_map, List.getElem?_eq_getElem (by omega)]; rfl
          have e2 : ∃ v, (p0 ++ l.map encStr ++ rest)[k]? = some v := ⟨_, List.getElem?_eq_getElem (by simp; omega)⟩
          obtain ⟨v, e2⟩ := e2
          rw [e1, e2]
          have : (p0.length ≤ k ∧ k < p0.length + l'.length) := by omega
          simp only [Option.map_some, if_pos this]
          congr 2
          simp [getElem!_pos, show k - p0.length < l'.length by omega]
        · have : ¬ (p0.length ≤ k ∧ k < p0.length + l'.length) := by omega
          simp only [if_neg this]
          rw [List.getElem?_append_right (by simp; omega), List.getElem?_append_right (by simp; omega)]
          simp only [List.length_append, List.length_map, hl]
          cases rest[k - (p0.length + l.length)]? <;> rfl
    apply Array.ext_getElem?
    intro k
    unfold putRow mapBlock
    show (c.w.heap.modify (c.al b) _)[k]? = _
    rw [Array.getElem?_modify, Array.getElem?_setIfInBounds]
    by_cases hk : c.al b = k
    · subst hk
      rw [if_pos rfl, if_pos rfl, h4, if_pos hlt]
      simp only [Option.map_some, onCells, hput]
    · rw [if_neg hk, if_neg hk]
  obtain ⟨k1, k2⟩ := h.setRow (w' := putRow encStr (Sort.ahead c.w q) (c.al b) (c.base b) l'.toArray) hb h4 h7 (pre' := l'.map encStr) (by simp [hl]) texts_rel hheap rfl rfl rfl
  obtain ⟨k3, k4⟩ := k1.more os
  exact ⟨k3, k2.trans k4⟩
/-- a walk of the kit's, as a call of ours -/
theorem ACalls.ofWalk {k : Nat} {fn : Func} {args : List AV} {R : Kt} (hf : P.funcs[E.fn k]? = some fn) (hn : (fn.name == "runtime.NumGoroutine") = false) (hb : fn.body.isNone = false)
    (h : ∀ (c : Cx) (vs : List Value), HRel E c H → LRel E c args vs → Calls P (E.fn k) vs.toArray c.w fun e w' => ∃ v r c' H', e = .returned v ∧ c'.w = w' ∧ R r H' ∧ HRel E c' H' ∧ VRel E c' r v ∧ Later c c') : ACalls E P k args H R := by
  intro c vs hH hv o a next Q hnext
  have hrun : (callFunc (E.fn k) vs.toArray).run P c.w = .ok (.enter (E.fn k) vs.toArray) c.w := by
    have hn' : ¬ ((fn.name == "runtime.NumGoroutine") = true) := by rw [hn]; simp
    have hb' : ¬ (fn.body.isNone = true) := by rw [hb]; simp
    simp only [callFunc, Sem.run_bind, run_program, Result.andThen_ok, hf, if_neg hn', if_neg hb', Sem.run_pure]
  rw [hrun]
  simp only [Oper.upon]
  refine (h c vs hH hv).mono ?_
  rintro e w' ⟨v, r, c', H', rfl, h1, h2, h3, h4, h5⟩
  exact hnext v w' ⟨r, c', H', h1, h2, h3, h4, h5⟩
def sortS (l : List Str) : List Str := l.mergeSort fun x y => decide (x ≤ y)
theorem sortS_length (l : List Str) : (sortS l).length = l.length := by simp [sortS]
/-- slices.Sort of texts -/
theorem sort_calls {k : Nat} {fn : Func} (hf : P.funcs[E.fn k]? = some fn) (hn : (fn.name == "runtime.NumGoroutine") = false) (hbd : fn.body.isNone = false)
    (h0 : ∀ (p : Option Addr) (cap : Nat) (w : World), Calls P (E.fn k) #[.slice p 0 cap] w fun e w' => e = .returned (.tuple #[]) ∧ w' = w)
    (h1 : ∀ (blk off cap : Nat) (ss : List (List UInt8)) (w : World), Holds encStr w blk off ss.toArray → blk < w.heap.size → ss.length < 4611686018427387904 → Calls P (E.fn k) #[.slice (some ⟨blk, off, none⟩) ss.length cap] w fun e w' =>
      e = .returned (.tuple #[]) ∧ ∃ n os, w' = grow (putRow encStr (Sort.ahead w n) blk off (ss.mergeSort fun x y => decide (x ≤ y)).toArray) os)
    {b g : Nat} {l : List Str} (hl : l.length < 4611686018427387904) (hb : H.bs[b]? = some (.cells g 1 (l.map fun s => S s))) : ACalls E P k [.slL b 0 l.length g] H fun r H' => r = .tup [] ∧ H' = ⟨H.bs.set b (.cells g 1 ((sortS l).map fun s => S s)), H.ctr⟩ := by
  refine ACalls.ofWalk hf hn hbd fun c vs hH hv => ?_
  obtain ⟨v, rfl, hr⟩ := hv.one'
  simp only [VRel] at hr
  obtain ⟨_, p, cap, rfl, hcap, hp⟩ := hr
  obtain ⟨p0, rest, e, h4, h7, hg, _⟩ := hH.row hb
  rcases hp hg with hz | ⟨rfl, _⟩
  · subst hz
    have hl0 : l = [] := List.eq_nil_of_length_eq_zero (by omega)
    subst hl0
    refine (h0 (some p) 0 c.w).mono ?_
    rintro e w' ⟨rfl, rfl⟩
    obtain ⟨k1, k2⟩ := hH.more #[]
    refine ⟨_, .tup [], c, H, rfl, rfl, ⟨rfl, ?_⟩, hH, by simp [VRel, LRel], Later.refl c⟩
    have : sortS [] = [] := by simp [sortS]
    rw [this]
    have hlt := lt_of_get hb
    have : H.bs[b] = .cells g 1 (([] : List Str).map fun s => S s) := by rw [List.getElem?_eq_getElem hlt] at hb; injection hb
    rw [← this, List.set_getElem_self]
  · refine (h1 (c.al b) (c.base b) cap l c.w (hH.holds hb) (hH.lt b (hH.live' hb)) hl).mono ?_
    rintro e w' ⟨rfl, n, os, rfl⟩
    obtain ⟨k1, k2⟩ := hH.putTexts (l' := sortS l) (sortS_length l) hb n os
    exact ⟨_, .tup [], _, _, rfl, rfl, ⟨rfl, rfl⟩, k1, by simp [VRel, LRel], k2⟩
def packS (l : List Str) : List Str := Lib.compact l
theorem packS_length (l : List Str) : (packS l).length ≤ l.length := by
  have h := List.length_filter_le (Lib.keeps l.toArray) (List.range l.length)
  simp only [packS, Lib.compact, Lib.compactUpTo, List.length_map]
  simpa using h
theorem packS_mem {l : List Str} {x : Str} : x ∈ packS l ↔ x ∈ l := by
  simp only [packS, Lib.compact, Lib.compactUpTo, List.mem_map, List.mem_filter, List.mem_range]
  constructor
  · rintro ⟨j, ⟨hj, _⟩, rfl⟩
    have : (l.toArray)[j]! = l[j] := by simp [getElem!_pos, hj]
    rw [this]; exact List.getElem_mem hj
  · intro hx
    obtain ⟨j, hj, rfl⟩ := List.getElem_of_mem hx
    induction j with
    | zero => exact ⟨0, ⟨hj, by simp [Lib.keeps]⟩, by simp [getElem!_pos, hj]⟩
    | succ j ih =>
      by_cases hk : Lib.keeps l.toArray (j + 1) = true
      · exact ⟨j + 1, ⟨hj, hk⟩, by simp [getElem!_pos, hj]⟩
      · have heq : (l.toArray)[j + 1]! = (l.toArray)[j]! := by
          simp only [Lib.keeps] at hk
          simpa using hk
        have h1 : (l.toArray)[j + 1]! = l[j + 1] := by simp [getElem!_pos, hj]
        have h2 : (l.toArray)[j]! = l[j] := by simp [getElem!_pos, show j < l.length by omega]
        obtain ⟨i, hi, he⟩ := ih (by omega) (List.getElem_mem (by omega))
        exact ⟨i, hi, by rw [he, ← h2, ← heq, h1]⟩
theorem sortS_mem {l : List Str} {x : Str} : x ∈ sortS l ↔ x ∈ l := by simp [sortS]
/-- slices.Compact of texts -/
theorem compact_calls {k : Nat} {fn : Func} (hf : P.funcs[E.fn k]? = some fn) (hn : (fn.name == "runtime.NumGoroutine") = false) (hbd : fn.body.isNone = false)
    (h0 : ∀ (a : Option Addr) (cap : Nat) (w : World), Calls P (E.fn k) #[.slice a 0 cap] w fun e w' => e = .returned (.slice a 0 cap) ∧ w' = w)
    (h1 : ∀ (blk off cap : Nat) (zs : List (List UInt8)) (w : World), Holds encStr w blk off zs.toArray → zs.length ≤ 9223372036854775807 → zs.length ≤ cap → Calls P (E.fn k) #[.slice (some ⟨blk, off, none⟩) zs.length cap] w fun e w' =>
      e = .returned (.slice (some ⟨blk, off, none⟩) (Lib.compact zs).length cap) ∧ ∃ q, w' = putRow encStr (Sort.ahead w q) blk off (Lib.compact zs ++ List.replicate (zs.length - (Lib.compact zs).length) []).toArray)
    {b g : Nat} {l : List Str} (hl : l.length < 4611686018427387904) (hb : H.bs[b]? = some (.cells g 1 (l.map fun s => S s))) : ACalls E P k [.slL b 0 l.length g] H fun r H' => r = .slL b 0 (packS l).length g ∧ H' = ⟨H.bs.set b (.cells g 1 ((packS l ++ List.replicate (l.length - (packS l).length) []).map fun s => S s)), H.ctr⟩ := by
  refine ACalls.ofWalk hf hn hbd fun c vs hH hv => ?_
  obtain ⟨v, rfl, hr⟩ := hv.one'
  simp only [VRel] at hr
  obtain ⟨hgl, p, cap, rfl, hcap, hp⟩ := hr
  obtain ⟨p0, rest, e, h4, h7, hg, _⟩ := hH.row hb
  have hpl := packS_length l
  rcases hp hg with hz | ⟨rfl, hroom⟩
  · subst hz
    have hl0 : l = [] := List.eq_nil_of_length_eq_zero (by omega)
    subst hl0
    have hp0 : packS [] = [] := List.eq_nil_of_length_eq_zero (by simpa using hpl)
    refine (h0 (some p) 0 c.w).mono ?_
    rintro e w' ⟨rfl, rfl⟩
    refine ⟨_, .slL b 0 (packS []).length g, c, H, rfl, rfl, ⟨rfl, ?_⟩, hH, ?_, Later.refl c⟩
    · rw [hp0]
      have hlt := lt_of_get hb
      have : H.bs[b] = .cells g 1 (([] : List Str).map fun s => S s) := by rw [List.getElem?_eq_getElem hlt] at hb; injection hb
      simp only [List.length_nil, Nat.sub_self, List.replicate_zero, List.append_nil]
      rw [← this, List.set_getElem_self]
    · simp only [VRel]
      exact ⟨hgl, p, 0, by rw [hp0]; rfl, by rw [hp0]; exact Nat.le_refl _, fun _ => .inl rfl⟩
  · refine (h1 (c.al b) (c.base b) cap l c.w (hH.holds hb) (by omega) hcap).mono ?_
    rintro e w' ⟨rfl, q, rfl⟩
    obtain ⟨k1, k2⟩ := hH.putTexts (l' := packS l ++ List.replicate (l.length - (packS l).length) []) (by simp; omega) hb q #[]
    rw [grow_empty] at k1 k2
    refine ⟨_, .slL b 0 (packS l).length g, _, _, rfl, rfl, ⟨rfl, rfl⟩, k1, ?_, k2⟩
    simp only [VRel]
    exact ⟨hgl, _, cap, rfl, Nat.le_trans hpl hcap, fun _ => .inr ⟨rfl, hroom⟩⟩
theorem FX.sortNil {k : Nat} {fn : Func} (hf : P.funcs[E.fn k]? = some fn) (hn : (fn.name == "runtime.NumGoroutine") = false) (hbd : fn.body.isNone = false)
    (h0 : ∀ (p : Option Addr) (cap : Nat) (w : World), Calls P (E.fn k) #[.slice p 0 cap] w fun e w' => e = .returned (.tuple #[]) ∧ w' = w) : FX E P k [nilS] (.tup []) := by
  refine FX.ofCalls hf hn hbd ⟨trivial, trivial⟩ trivial trivial fun c vs _ _ hv => ?_
  obtain ⟨v, rfl, hr⟩ := hv.one'
  simp only [VRel] at hr
  subst hr
  refine (h0 none 0 c.w).mono ?_
  rintro e w' ⟨rfl, rfl⟩
  exact ⟨_, rfl, Below.refl _ _, by simp [VRel, LRel]⟩
theorem FX.compactNil {k : Nat} {fn : Func} (hf : P.funcs[E.fn k]? = some fn) (hn : (fn.name == "runtime.NumGoroutine") = false) (hbd : fn.body.isNone = false)
    (h0 : ∀ (a : Option Addr) (cap : Nat) (w : World), Calls P (E.fn k) #[.slice a 0 cap] w fun e w' => e = .returned (.slice a 0 cap) ∧ w' = w) : FX E P k [nilS] nilS := by
  refine FX.ofCalls hf hn hbd ⟨trivial, trivial⟩ trivial trivial fun c vs _ _ hv => ?_
  obtain ⟨v, rfl, hr⟩ := hv.one'
  simp only [VRel] at hr
  subst hr
  refine (h0 none 0 c.w).mono ?_
  rintro e w' ⟨rfl, rfl⟩
  exact ⟨_, rfl, Below.refl _ _, by simp [VRel]⟩
end
end Go.Sc
namespace Go.Sc.F
open Go Go.Sc
set_option linter.unusedVariables false
/-- signalbox/expr.Names -/
def expr_Names (E : Env) (P : Program) (a0 : AV) (H : AH) (R : Kt) : Prop :=
  wCall E P 190 [a0, (.fn 189 [] [])] H fun t4 H =>
  R t4 H

/-- signalbox/expr.Edges -/
def expr_Edges (E : Env) (P : Program) (a0 : AV) (H : AH) (R : Kt) : Prop :=
  wCall E P 190 [a0, (.fn 192 [] [])] H fun t4 H =>
  R t4 H

/-- signalbox/expr.sorted -/
def expr_sorted (E : Env) (P : Program) (a0 a1 : AV) (H : AH) (R : Kt) : Prop :=
  wNew 1 (AV.cells? a1) H fun t3 H =>
  wNew 1 (some [(.val (.slice none 0 0))]) H fun t5 H =>
  wCall E P 161 [a0, (.fn 193 [] [t3, t5])] H fun t8 H =>
  wGet (load1 t5 H) H fun t9 H =>
  wCall E P 194 [t9] H fun t10 H =>
  wGet (load1 t5 H) H fun t11 H =>
  wCall E P 195 [t11] H fun t12 H =>
  R t12 H

/-- signalbox/expr.Names$1 -/
def expr_Names_c1 (E : Env) (P : Program) (a0 : AV) (H : AH) (R : Kt) : Prop :=
  wGet (assertA 14 (.val (.string ⟨#[]⟩)) a0) H fun t7 H =>
  wGet (extractA t7 1) H fun t8 H =>
  wGet (extractA t7 0) H fun t9 H =>
  wIf t8 (
    R t9 H) (
    wGet (assertA 12 (.val (.string ⟨#[]⟩)) a0) H fun t11 H =>
    wGet (extractA t11 1) H fun t12 H =>
    wGet (extractA t11 0) H fun t13 H =>
    wIf t12 (
      R t13 H) (
      wGet (assertA 13 (.val (.string ⟨#[]⟩)) a0) H fun t15 H =>
      wGet (extractA t15 1) H fun t16 H =>
      wGet (extractA t15 0) H fun t17 H =>
      wIf t16 (
        R t17 H) (
        R (.val (.string ⟨#[]⟩)) H)))

/-- signalbox/expr.Edges$1 -/
def expr_Edges_c1 (E : Env) (P : Program) (a0 : AV) (H : AH) (R : Kt) : Prop :=
  wGet (assertA 12 (.val (.string ⟨#[]⟩)) a0) H fun t6 H =>
  wGet (extractA t6 1) H fun t7 H =>
  wGet (extractA t6 0) H fun t8 H =>
  wIf t7 (
    R t8 H) (
    wGet (assertA 13 (.val (.string ⟨#[]⟩)) a0) H fun t10 H =>
    wGet (extractA t10 1) H fun t11 H =>
    wGet (extractA t10 0) H fun t12 H =>
    wIf t11 (
      R t12 H) (
      R (.val (.string ⟨#[]⟩)) H))

/-- signalbox/expr.sorted$1 -/
def expr_sorted_c1 (E : Env) (P : Program) (a0 a1 a2 : AV) (H : AH) (R : Kt) : Prop :=
  wGet (load1 a1 H) H fun t5 H =>
  wCallV E P t5 [a0] H fun t7 H =>
  wGet (binA .neq t7 (.val (.string ⟨#[]⟩))) H fun t9 H =>
  wIf t9 (
    wGet (load1 a2 H) H fun t10 H =>
    wNewS 1 1 (fillA (List.replicate 1 [(.val (.string ⟨#[]⟩))]).flatten [(0, 1, t7)]) H fun t12 H =>
    wApp 1 16 t10 t12 H fun t13 H =>
    wPut (store1 a2 t13 H) fun _u H =>
    R (.tup []) H) (
    R (.tup []) H)

end Go.Sc.F
namespace Go.Sc
open Go
set_option linter.unusedSimpArgs false
set_option linter.unusedVariables false
set_option linter.unnecessarySimpa false
def nmL (nf : Ex → Str) (x : Ex) : List Str := if nf x = [] then [] else [nf x]
mutual
/-- what is found in it, one after the other -/
def Ex.raw (nf : Ex → Str) : Ex → List Str
  | .not y => nmL nf (.not y) ++ y.raw nf
  | .and l => nmL nf (.and l) ++ Ex.rawL nf l
  | .or l => nmL nf (.or l) ++ Ex.rawL nf l
  | x => nmL nf x
def Ex.rawL (nf : Ex → Str) : List Ex → List Str
  | [] => []
  | x :: l => x.raw nf ++ Ex.rawL nf l
end
theorem Ex.rawL_append (nf : Ex → Str) : ∀ l m : List Ex, Ex.rawL nf (l ++ m) = Ex.rawL nf l ++ Ex.rawL nf m
  | [], m => by simp [Ex.rawL]
  | x :: l, m => by simp only [List.cons_append, Ex.rawL, Ex.rawL_append nf l m, List.append_assoc]
theorem nmL_len (nf : Ex → Str) (x : Ex) : (nmL nf x).length ≤ 1 := by unfold nmL; split <;> simp
mutual
theorem Ex.raw_len (nf : Ex → Str) : ∀ x : Ex, (x.raw nf).length ≤ x.size
  | .k _ => nmL_len nf _
  | .bit _ => nmL_len nf _
  | .rise _ => nmL_len nf _
  | .fall _ => nmL_len nf _
  | .not y => by have h1 := nmL_len nf (.not y); have h2 := Ex.raw_len nf y; simp only [Ex.raw, Ex.size, List.length_append]; omega
  | .and l => by have h1 := nmL_len nf (.and l); have h2 := Ex.rawL_len nf l; simp only [Ex.raw, Ex.size, List.length_append]; omega
  | .or l => by have h1 := nmL_len nf (.or l); have h2 := Ex.rawL_len nf l; simp only [Ex.raw, Ex.size, List.length_append]; omega
theorem Ex.rawL_len (nf : Ex → Str) : ∀ l : List Ex, (Ex.rawL nf l).length ≤ Ex.sizeL l
  | [] => by simp [Ex.rawL]
  | x :: l => by have h1 := Ex.raw_len nf x; have h2 := Ex.rawL_len nf l; simp only [Ex.rawL, Ex.sizeL, List.length_append]; omega
end
/-- what has been found so far -/
def SO (g0 : Nat) (l : List Str) (H : AH) : Prop := ∃ x tb c, H = ⟨.cells g0 1 [x] :: tb, c⟩ ∧ ((x = nilS ∧ l = [] ∧ tb = []) ∨ ∃ g1, x = .slL 1 0 l.length g1 ∧ tb = [.cells g1 1 (l.map fun s => S s)])
theorem ghost_drop {bs : List Blk} {n : Nat} {xs : List AV} (e : Blk) : Ghost xs ⟨bs ++ [e], n⟩ xs ⟨bs, n⟩ := by
  refine ghost_kill (H := ⟨bs ++ [e], n⟩) (H' := ⟨bs, n⟩) (S := fun i => decide (bs.length ≤ i)) rfl ?_ (FkL.same xs)
  have : ∀ (l : List Blk) (i : Nat), i + l.length = bs.length → KBL ⟨bs ++ [e], n⟩ (fun i => decide (bs.length ≤ i)) i (l ++ [e]) l := by
    intro l
    induction l with
    | nil =>
      intro i hi
      refine .cut fun j x hx => ?_
      cases j with
      | zero => exact .inl (by simp at hi ⊢; omega)
      | succ j => simp at hx
    | cons x l ih =>
      intro i hi
      simp only [List.length_cons] at hi
      exact .keep (by simp; omega) (KB.same x) (ih _ (by omega))
  exact this bs 0 (by omega)
structure SortedBodies (E : Env) (P : Program) : Prop where
  walk : Body2 E P 161 F.expr_walk
  sorted : Body2 E P 190 F.expr_sorted
  sorted1 : Body3 E P 193 F.expr_sorted_c1
  names : Body1 E P 181 F.expr_Names
  names1 : Body1 E P 189 F.expr_Names_c1
  edges : Body1 E P 184 F.expr_Edges
  edges1 : Body1 E P 192 F.expr_Edges_c1
  sortN : FX E P 194 [nilS] (.tup [])
  sortC : ∀ {H : AH} {b g : Nat} {l : List Str}, l.length < 4611686018427387904 → H.bs[b]? = some (.cells g 1 (l.map fun s => S s)) → ACalls E P 194 [.slL b 0 l.length g] H fun r H' => r = .tup [] ∧ H' = ⟨H.bs.set b (.cells g 1 ((sortS l).map fun s => S s)), H.ctr⟩
  compN : FX E P 195 [nilS] nilS
  compC : ∀ {H : AH} {b g : Nat} {l : List Str}, l.length < 4611686018427387904 → H.bs[b]? = some (.cells g 1 (l.map fun s => S s)) → ACalls E P 195 [.slL b 0 l.length g] H fun r H' => r = .slL b 0 (packS l).length g ∧ H' = ⟨H.bs.set b (.cells g 1 ((packS l ++ List.replicate (l.length - (packS l).length) []).map fun s => S s)), H.ctr⟩
section
variable {E : Env} {P : Program}
theorem look_spec (B : SortedBodies E P) {kn : Nat} {nf : Ex → Str} (hnf : ∀ y, FX E P kn [y.enc] (S (nf y))) {g0 : Nat} {l : List Str} (hl : l.length < 10000000) (y : Ex) {H : AH} (hH : SO g0 l H) :
    ACalls E P 193 [y.enc, .ptrF [.fn kn [] []] 0, .ptrL 0 0 g0] H fun r H' => r = .tup [] ∧ SO g0 (l ++ nmL nf y) H' := by
  obtain ⟨x, tb, c, rfl, ht⟩ := hH
  refine B.sorted1 _ _ _ _ _ ?_
  unfold F.expr_sorted_c1
  simp only [nd0, Y1n, Y1o, Y1p, Y1q, Y1w, Y1x, Y1y, Y1z, Y20, Y21, Y28, Y2a, AV.cells?, Nat.reduceAdd, Nat.reduceMul]
  refine wCallV.fx (fs := []) (cs := []) (hnf y) fun n1 => ?_
  simp only [nd0, Y1n, Y1o, Y1p, Y1q, Y1w, Y1x, Y1y, Y1z, Y20, Y21, Y28, Y2a, AV.cells?, Nat.reduceAdd, Nat.reduceMul, show (AV.val (.string ⟨#[]⟩)) = S [] from rfl]
  by_cases hn : nf y = []
  · simp only [nd0, Y1n, Y1o, Y1p, Y1q, Y1w, Y1x, Y1y, Y1z, Y20, Y21, Y28, Y2a, AV.cells?, Nat.reduceAdd, Nat.reduceMul, decide_eq_true hn]
    unfold nmL
    rw [if_pos hn, List.append_nil]
    exact ⟨trivial, x, tb, n1, rfl, ht⟩
  · simp only [nd0, Y1n, Y1o, Y1p, Y1q, Y1w, Y1x, Y1y, Y1z, Y20, Y21, Y28, Y2a, AV.cells?, Nat.reduceAdd, Nat.reduceMul, decide_eq_false hn]
    unfold nmL
    rw [if_neg hn]
    refine wNewS.F' (l := [S (nf y)]) rfl rfl ?_
    rcases ht with ⟨rfl, rfl, rfl⟩ | ⟨g1, rfl, rfl⟩
    · refine ⟨_, _, .old (r := .slL 1 0 1 n1) (H' := ⟨[.cells g0 1 [nilS], .cells n1 1 [S (nf y)]], n1 + 1⟩) rfl, ?_⟩
      rw [store1_L rfl]
      simp only [nd0, Y1n, Y1o, Y1p, Y1q, Y1w, Y1x, Y1y, Y1z, Y20, Y21, Y28, Y2a, AV.cells?, Nat.reduceAdd, Nat.reduceMul, Nat.reduceLT]
      exact ⟨trivial, .slL 1 0 1 n1, _, _, rfl, .inr ⟨n1, rfl, rfl⟩⟩
    · have happ : appendA 1 16 (.slL 1 0 l.length g1) (.slN [S (nf y)] 1) ⟨[.cells g0 1 [.slL 1 0 l.length g1], .cells g1 1 (l.map fun s => S s)], n1⟩
          = some (.slL 1 0 (l.length + 1) n1, ⟨[.cells g0 1 [.slL 1 0 l.length g1], .cells n1 1 ((l ++ [nf y]).map fun s => S s)], n1 + 1⟩) := by
        have hb : (l.length + 1) * 16 ≤ mostBytes ∧ l.length + 1 ≤ mostBytes := by simp [mostBytes]; omega
        simp [appendA, cellsOfA, subL, AH.cells, AH.esz, hb, AV.scalar]
      refine ⟨_, _, .old happ, ?_⟩
      rw [store1_L rfl]
      simp only [nd0, Y1n, Y1o, Y1p, Y1q, Y1w, Y1x, Y1y, Y1z, Y20, Y21, Y28, Y2a, AV.cells?, Nat.reduceAdd, Nat.reduceMul, Nat.reduceLT]
      exact ⟨trivial, .slL 1 0 (l.length + 1) n1, _, _, rfl, .inr ⟨n1, by simp, rfl⟩⟩
def WalkOk (E : Env) (P : Program) (kn g0 : Nat) (nf : Ex → Str) (x : Ex) : Prop := ∀ (l : List Str) (H : AH), l.length + x.size < 10000000 → SO g0 l H → ACalls E P 161 [x.enc, .fn 193 [] [.ptrF [.fn kn [] []] 0, .ptrL 0 0 g0]] H fun r H' => r = .tup [] ∧ SO g0 (l ++ x.raw nf) H'
theorem sizeL_app : ∀ a b : List Ex, Ex.sizeL (a ++ b) = Ex.sizeL a + Ex.sizeL b
  | [], b => by simp [Ex.sizeL]
  | x :: a, b => by simp only [List.cons_append, Ex.sizeL, sizeL_app a b]; omega
theorem walkSL_spec {kn g0 : Nat} {nf : Ex → Str} (xs : List Ex) (hx : ∀ x ∈ xs, WalkOk E P kn g0 nf x) (hlen : xs.length < 10000000) (l : List Str) (hn : l.length + Ex.sizeL xs < 10000000) {H0 : AH} (hH0 : SO g0 l H0) {R : Kt} (hR : ∀ H, SO g0 (l ++ Ex.rawL nf xs) H → R (.tup []) H) :
    wLoop 1 (fun I1 => I1 (Z 0) H0) fun I1 t27 H =>
      wGet (binA .lss t27 (Z xs.length)) H fun t28 H =>
      wIf t28 (
        wGet (iaddr 1 (.slN (Ex.encL xs) xs.length) t27) H fun t29 H =>
        wGet (load1 t29 H) H fun t30 H =>
        wCall E P 161 [t30, .fn 193 [] [.ptrF [.fn kn [] []] 0, .ptrL 0 0 g0]] H fun t33 H =>
        wGet (binA .add t27 (.val (.int .i64 1))) H fun t34 H =>
        I1 t34 H) (
        R (.tup []) H) := by
  refine wLoop.one (fun m i H => ∃ pre r, xs = pre ++ r ∧ i = Z pre.length ∧ m = r.length ∧ SO g0 (l ++ Ex.rawL nf pre) H) xs.length (gh1.mk ⟨[], xs, rfl, rfl, rfl, by simpa [Ex.rawL] using hH0⟩) ?_
  rintro m i H ⟨pre, r, rfl, rfl, rfl, hH⟩
  cases r with
  | nil =>
    rw [List.append_nil] at hR ⊢
    simp only [nd0, Y1n, Y1o, Y1p, Y1q, Y1w, Y1x, Y1y, Y1z, Y20, Y21, Y28, Y2a, AV.cells?, Nat.reduceAdd, Nat.reduceMul, Int.lt_irrefl]
    exact hR _ hH
  | cons x r =>
    rw [sizeL_app] at hn
    simp only [Ex.sizeL] at hn
    simp only [nd0, Y1n, Y1o, Y1p, Y1q, Y1w, Y1x, Y1y, Y1z, Y20, Y21, Y28, Y2a, AV.cells?, Nat.reduceAdd, Nat.reduceMul, decide_eq_true (show (pre.length : Int) < ((pre ++ x :: r).length : Int) by simp; omega)]
    rw [iaddr_Nn lt_mid]
    simp only [nd0, Y1n, Y1o, Y1p, Y1q, Y1w, Y1x, Y1y, Y1z, Y20, Y21, Y28, Y2a, AV.cells?, Nat.reduceAdd, Nat.reduceMul, show (Ex.encL (pre ++ x :: r))[pre.length]? = some x.enc by rw [Ex.encL_map]; simp]
    have hrl := Ex.rawL_len nf pre
    refine ⟨_, hx x (by simp) _ _ (by rw [List.length_append]; omega) hH, ?_⟩
    rintro rr H' ⟨rfl, hH'⟩
    rw [binA_succ (by simp at hlen; omega)]
    simp only [nd0, Y1n, Y1o, Y1p, Y1q, Y1w, Y1x, Y1y, Y1z, Y20, Y21, Y28, Y2a, AV.cells?, Nat.reduceAdd, Nat.reduceMul]
    refine back1.mk r.length (by simp) ⟨pre ++ [x], r, by simp, by simp, rfl, ?_⟩
    rw [Ex.rawL_append]
    simpa [Ex.rawL, List.append_assoc] using hH'
theorem walkS_spec (B : SortedBodies E P) {kn : Nat} {nf : Ex → Str} (hnf : ∀ y, FX E P kn [y.enc] (S (nf y))) {g0 : Nat} : ∀ (k : Nat) (x : Ex), x.wt < k → x.wt ≤ 1000000 → x.fine → WalkOk E P kn g0 nf x := by
  intro k
  induction k with
  | zero => intro x h; omega
  | succ k ih =>
    intro x hx hw hf l H hn hH
    refine B.walk _ _ _ _ ?_
    unfold F.expr_walk
    have h1 : 1 ≤ x.size := by cases x <;> simp [Ex.size]
    refine ⟨⟨193, [], _, rfl, _, look_spec B hnf (by omega) x hH, ?_⟩⟩
    rintro r H1 ⟨rfl, hH1⟩
    have hl1 : (l ++ nmL nf x).length ≤ l.length + 1 := by rw [List.length_append]; have := nmL_len nf x; omega
    have fin : x.raw nf = nmL nf x → SO g0 (l ++ x.raw nf) H1 := fun e => by rw [e]; exact hH1
    cases x with
    | k b => simp only [Ex.enc]; simp only [nd0, Y1n, Y1o, Y1p, Y1q, Y1w, Y1x, Y1y, Y1z, Y20, Y21, Y28, Y2a, AV.cells?, Nat.reduceAdd, Nat.reduceMul, asA, show (11 : Nat) = 10 ↔ False by decide, show (11 : Nat) = 9 ↔ False by decide, show (11 : Nat) = 8 ↔ False by decide]; exact ⟨trivial, fin rfl⟩
    | bit b => simp only [Ex.enc]; simp only [nd0, Y1n, Y1o, Y1p, Y1q, Y1w, Y1x, Y1y, Y1z, Y20, Y21, Y28, Y2a, AV.cells?, Nat.reduceAdd, Nat.reduceMul, asA, show (14 : Nat) = 10 ↔ False by decide, show (14 : Nat) = 9 ↔ False by decide, show (14 : Nat) = 8 ↔ False by decide]; exact ⟨trivial, fin rfl⟩
    | rise b => simp only [Ex.enc]; simp only [nd0, Y1n, Y1o, Y1p, Y1q, Y1w, Y1x, Y1y, Y1z, Y20, Y21, Y28, Y2a, AV.cells?, Nat.reduceAdd, Nat.reduceMul, asA, show (12 : Nat) = 10 ↔ False by decide, show (12 : Nat) = 9 ↔ False by decide, show (12 : Nat) = 8 ↔ False by decide]; exact ⟨trivial, fin rfl⟩
    | fall b => simp only [Ex.enc]; simp only [nd0, Y1n, Y1o, Y1p, Y1q, Y1w, Y1x, Y1y, Y1z, Y20, Y21, Y28, Y2a, AV.cells?, Nat.reduceAdd, Nat.reduceMul, asA, show (13 : Nat) = 10 ↔ False by decide, show (13 : Nat) = 9 ↔ False by decide, show (13 : Nat) = 8 ↔ False by decide]; exact ⟨trivial, fin rfl⟩
    | not y =>
      simp only [Ex.enc]
      simp only [Ex.wt] at hw hx
      simp only [Ex.size] at hn
      simp only [nd0, Y1n, Y1o, Y1p, Y1q, Y1w, Y1x, Y1y, Y1z, Y20, Y21, Y28, Y2a, AV.cells?, Nat.reduceAdd, Nat.reduceMul, asA, show (10 : Nat) = 10 ↔ True by decide]
      obtain ⟨x, tb, c, rfl, ht⟩ := hH1
      refine wNew.L (l := [nilE]) rfl ?_
      have hlast : ((Blk.cells g0 1 [x] :: tb) ++ [Blk.cells c 1 [nilE]])[(Blk.cells g0 1 [x] :: tb).length]? = some (.cells c 1 [nilE]) := by simp
      have hst : storeN 1 (.ptrL (Blk.cells g0 1 [x] :: tb).length 0 c) (.agg [y.enc]) ⟨(Blk.cells g0 1 [x] :: tb) ++ [Blk.cells c 1 [nilE]], c + 1⟩ = some ⟨(Blk.cells g0 1 [x] :: tb) ++ [Blk.cells c 1 [y.enc]], c + 1⟩ := by
        rw [storeN_L (n := 1) (xs := [y.enc]) rfl (by simp [Ex.enc_scalar]), hlast, blkDo_self]
        simp [putL]
      refine ⟨⟨_, hst, ?_⟩⟩
      refine wGet_some.2 ?_
      refine ⟨⟨y.enc, by simp [load1, AH.cells], ?_⟩⟩
      refine ⟨_, ACalls.args (ghost_drop _) (ih y (by omega) (by omega) hf _ ⟨Blk.cells g0 1 [x] :: tb, c + 1⟩ (by omega) ⟨x, tb, c + 1, rfl, ht⟩), ?_⟩
      rintro r H2 ⟨rfl, hH2⟩
      refine ⟨trivial, ?_⟩
      simp only [Ex.raw]
      rw [← List.append_assoc]; exact hH2
    | and xs =>
      simp only [Ex.enc]
      simp only [Ex.wt] at hw hx
      simp only [Ex.size] at hn
      have hll := Ex.len_wtL hf.2
      simp only [nd0, Y1n, Y1o, Y1p, Y1q, Y1w, Y1x, Y1y, Y1z, Y20, Y21, Y28, Y2a, AV.cells?, Nat.reduceAdd, Nat.reduceMul, asA, show (9 : Nat) = 10 ↔ False by decide, show (9 : Nat) = 9 ↔ True by decide]
      refine walkSL_spec (R := fun r H' => True ∧ SO g0 (l ++ (Ex.and xs).raw nf) H') xs (fun y hy => ih y (by have := Ex.wt_mem hy; omega) (by have := Ex.wt_mem hy; omega) (Ex.fine_mem hf.2 hy)) (by omega) _ (by omega) hH1 fun H2 hH2 => ⟨trivial, ?_⟩
      simp only [Ex.raw]
      rw [← List.append_assoc]; exact hH2
    | or xs =>
      simp only [Ex.enc]
      simp only [Ex.wt] at hw hx
      simp only [Ex.size] at hn
      have hll := Ex.len_wtL hf.2
      simp only [nd0, Y1n, Y1o, Y1p, Y1q, Y1w, Y1x, Y1y, Y1z, Y20, Y21, Y28, Y2a, AV.cells?, Nat.reduceAdd, Nat.reduceMul, asA, show (8 : Nat) = 10 ↔ False by decide, show (8 : Nat) = 9 ↔ False by decide, show (8 : Nat) = 8 ↔ True by decide]
      refine walkSL_spec (R := fun r H' => True ∧ SO g0 (l ++ (Ex.or xs).raw nf) H') xs (fun y hy => ih y (by have := Ex.wt_mem hy; omega) (by have := Ex.wt_mem hy; omega) (Ex.fine_mem hf.2 hy)) (by omega) _ (by omega) hH1 fun H2 hH2 => ⟨trivial, ?_⟩
      simp only [Ex.raw]
      rw [← List.append_assoc]; exact hH2
/-- sorted, each once -/
def onceS (l : List Str) : List Str := packS (sortS l)
theorem onceS_mem {l : List Str} {x : Str} : x ∈ onceS l ↔ x ∈ l := packS_mem.trans sortS_mem
theorem onceS_length (l : List Str) : (onceS l).length ≤ l.length := by
  have := packS_length (sortS l)
  rw [sortS_length] at this
  exact this
theorem sorted_spec (B : SortedBodies E P) {kn : Nat} {nf : Ex → Str} (hnf : ∀ y, FX E P kn [y.enc] (S (nf y))) (x : Ex) (hw : x.wt ≤ 1000000) (hf : x.fine) : FX E P 190 [x.enc, .fn kn [] []] (Lm S (onceS (x.raw nf))) := by
  refine FX.of ⟨Ex.enc_closed x, ⟨trivial, trivial⟩, trivial⟩ (closed_S _) fun n R hR => B.sorted _ _ _ _ ?_
  unfold F.expr_sorted
  rw [cells?_scalar (show (AV.fn kn [] []).scalar = true from rfl)]
  refine wNew.F' rfl ?_
  refine wNew.L (l := [nilS]) rfl ?_
  have hsz := Ex.size_wt x hf
  have hrl := Ex.raw_len nf x
  refine ⟨_, walkS_spec B hnf (x.wt + 1) x (by omega) hw hf [] _ (by simp; omega) ⟨nilS, [], _, rfl, .inl ⟨rfl, rfl, rfl⟩⟩, ?_⟩
  rintro r H1 ⟨rfl, y, tb, c, rfl, ht⟩
  rw [List.nil_append] at ht
  simp only [nd0, Y1n, Y1o, Y1p, Y1q, Y1w, Y1x, Y1y, Y1z, Y20, Y21, Y28, Y2a, AV.cells?, Nat.reduceAdd, Nat.reduceMul]
  rcases ht with ⟨rfl, hz, rfl⟩ | ⟨g1, rfl, rfl⟩
  · refine wCall.fx B.sortN fun n2 => ?_
    simp only [nd0, Y1n, Y1o, Y1p, Y1q, Y1w, Y1x, Y1y, Y1z, Y20, Y21, Y28, Y2a, AV.cells?, Nat.reduceAdd, Nat.reduceMul]
    refine wCall.fx B.compN fun n3 => ?_
    refine hR _ _ ?_
    rw [hz]
    have h0 : onceS [] = [] := List.eq_nil_of_length_eq_zero (by have := onceS_length []; simpa using this)
    rw [h0]
    exact .sub .nil
  · refine ⟨_, B.sortC (H := ⟨[.cells n 1 [.slL 1 0 (x.raw nf).length g1], .cells g1 1 ((x.raw nf).map fun s => S s)], c⟩) (b := 1) (by omega) rfl, ?_⟩
    rintro r H2 ⟨rfl, rfl⟩
    simp only [nd0, Y1n, Y1o, Y1p, Y1q, Y1w, Y1x, Y1y, Y1z, Y20, Y21, Y28, Y2a, AV.cells?, Nat.reduceAdd, Nat.reduceMul]
    have hlen := sortS_length (x.raw nf)
    rw [← hlen]
    refine ⟨_, B.compC (H := ⟨[.cells n 1 [.slL 1 0 (sortS (x.raw nf)).length g1], .cells g1 1 ((sortS (x.raw nf)).map fun s => S s)], c⟩) (b := 1) (by omega) rfl, ?_⟩
    rintro r H3 ⟨rfl, rfl⟩
    simp only [nd0, Y1n, Y1o, Y1p, Y1q, Y1w, Y1x, Y1y, Y1z, Y20, Y21, Y28, Y2a, AV.cells?, Nat.reduceAdd, Nat.reduceMul]
    refine hR _ _ ?_
    refine Fk.then (Fk.slF (H := ⟨[.cells n 1 [.slL 1 0 (sortS (x.raw nf)).length g1], .cells g1 1 ((packS (sortS (x.raw nf)) ++ List.replicate ((sortS (x.raw nf)).length - (packS (sortS (x.raw nf))).length) []).map fun s => S s)], c⟩) (b := 1) (ys := (onceS (x.raw nf)).map fun s => S s) (onceS (x.raw nf)).length rfl rfl ?_) .F'
    rw [List.drop_zero, List.map_append, List.take_append_of_le_length (by simp [onceS]), List.take_of_length_le (by simp [onceS])]
    exact FkL.same _
/-- its name, if it has one -/
def nf1 : Ex → Str
  | .bit s => s
  | .rise s => s
  | .fall s => s
  | _ => []
def nf2 : Ex → Str
  | .rise s => s
  | .fall s => s
  | _ => []
theorem names1_spec (B : SortedBodies E P) (y : Ex) : FX E P 189 [y.enc] (S (nf1 y)) := by
  refine FX.of' ⟨Ex.enc_closed y, trivial⟩ trivial fun n R hR => B.names1 _ _ _ ?_
  unfold F.expr_Names_c1
  cases y with
  | k b => simp only [Ex.enc]; simp only [nd0, Y1n, Y1o, Y1p, Y1q, Y1w, Y1x, Y1y, Y1z, Y20, Y21, Y28, Y2a, AV.cells?, Nat.reduceAdd, Nat.reduceMul, asA, show (11 : Nat) = 14 ↔ False by decide, show (11 : Nat) = 12 ↔ False by decide, show (11 : Nat) = 13 ↔ False by decide]; exact hR _ _ rfl
  | bit b => simp only [Ex.enc]; simp only [nd0, Y1n, Y1o, Y1p, Y1q, Y1w, Y1x, Y1y, Y1z, Y20, Y21, Y28, Y2a, AV.cells?, Nat.reduceAdd, Nat.reduceMul, asA, show (14 : Nat) = 14 ↔ True by decide]; exact hR _ _ rfl
  | rise b => simp only [Ex.enc]; simp only [nd0, Y1n, Y1o, Y1p, Y1q, Y1w, Y1x, Y1y, Y1z, Y20, Y21, Y28, Y2a, AV.cells?, Nat.reduceAdd, Nat.reduceMul, asA, show (12 : Nat) = 14 ↔ False by decide, show (12 : Nat) = 12 ↔ True by decide]; exact hR _ _ rfl
  | fall b => simp only [Ex.enc]; simp only [nd0, Y1n, Y1o, Y1p, Y1q, Y1w, Y1x, Y1y, Y1z, Y20, Y21, Y28, Y2a, AV.cells?, Nat.reduceAdd, Nat.reduceMul, asA, show (13 : Nat) = 14 ↔ False by decide, show (13 : Nat) = 12 ↔ False by decide, show (13 : Nat) = 13 ↔ True by decide]; exact hR _ _ rfl
  | not b => simp only [Ex.enc]; simp only [nd0, Y1n, Y1o, Y1p, Y1q, Y1w, Y1x, Y1y, Y1z, Y20, Y21, Y28, Y2a, AV.cells?, Nat.reduceAdd, Nat.reduceMul, asA, show (10 : Nat) = 14 ↔ False by decide, show (10 : Nat) = 12 ↔ False by decide, show (10 : Nat) = 13 ↔ False by decide]; exact hR _ _ rfl
  | and b => simp only [Ex.enc]; simp only [nd0, Y1n, Y1o, Y1p, Y1q, Y1w, Y1x, Y1y, Y1z, Y20, Y21, Y28, Y2a, AV.cells?, Nat.reduceAdd, Nat.reduceMul, asA, show (9 : Nat) = 14 ↔ False by decide, show (9 : Nat) = 12 ↔ False by decide, show (9 : Nat) = 13 ↔ False by decide]; exact hR _ _ rfl
  | or b => simp only [Ex.enc]; simp only [nd0, Y1n, Y1o, Y1p, Y1q, Y1w, Y1x, Y1y, Y1z, Y20, Y21, Y28, Y2a, AV.cells?, Nat.reduceAdd, Nat.reduceMul, asA, show (8 : Nat) = 14 ↔ False by decide, show (8 : Nat) = 12 ↔ False by decide, show (8 : Nat) = 13 ↔ False by decide]; exact hR _ _ rfl
theorem edges1_spec (B : SortedBodies E P) (y : Ex) : FX E P 192 [y.enc] (S (nf2 y)) := by
  refine FX.of' ⟨Ex.enc_closed y, trivial⟩ trivial fun n R hR => B.edges1 _ _ _ ?_
  unfold F.expr_Edges_c1
  cases y with
  | k b => simp only [Ex.enc]; simp only [nd0, Y1n, Y1o, Y1p, Y1q, Y1w, Y1x, Y1y, Y1z, Y20, Y21, Y28, Y2a, AV.cells?, Nat.reduceAdd, Nat.reduceMul, asA, show (11 : Nat) = 12 ↔ False by decide, show (11 : Nat) = 13 ↔ False by decide]; exact hR _ _ rfl
  | bit b => simp only [Ex.enc]; simp only [nd0, Y1n, Y1o, Y1p, Y1q, Y1w, Y1x, Y1y, Y1z, Y20, Y21, Y28, Y2a, AV.cells?, Nat.reduceAdd, Nat.reduceMul, asA, show (14 : Nat) = 12 ↔ False by decide, show (14 : Nat) = 13 ↔ False by decide]; exact hR _ _ rfl
  | rise b => simp only [Ex.enc]; simp only [nd0, Y1n, Y1o, Y1p, Y1q, Y1w, Y1x, Y1y, Y1z, Y20, Y21, Y28, Y2a, AV.cells?, Nat.reduceAdd, Nat.reduceMul, asA, show (12 : Nat) = 12 ↔ True by decide]; exact hR _ _ rfl
  | fall b => simp only [Ex.enc]; simp only [nd0, Y1n, Y1o, Y1p, Y1q, Y1w, Y1x, Y1y, Y1z, Y20, Y21, Y28, Y2a, AV.cells?, Nat.reduceAdd, Nat.reduceMul, asA, show (13 : Nat) = 12 ↔ False by decide, show (13 : Nat) = 13 ↔ True by decide]; exact hR _ _ rfl
  | not b => simp only [Ex.enc]; simp only [nd0, Y1n, Y1o, Y1p, Y1q, Y1w, Y1x, Y1y, Y1z, Y20, Y21, Y28, Y2a, AV.cells?, Nat.reduceAdd, Nat.reduceMul, asA, show (10 : Nat) = 12 ↔ False by decide, show (10 : Nat) = 13 ↔ False by decide]; exact hR _ _ rfl
  | and b => simp only [Ex.enc]; simp only [nd0, Y1n, Y1o, Y1p, Y1q, Y1w, Y1x, Y1y, Y1z, Y20, Y21, Y28, Y2a, AV.cells?, Nat.reduceAdd, Nat.reduceMul, asA, show (9 : Nat) = 12 ↔ False by decide, show (9 : Nat) = 13 ↔ False by decide]; exact hR _ _ rfl
  | or b => simp only [Ex.enc]; simp only [nd0, Y1n, Y1o, Y1p, Y1q, Y1w, Y1x, Y1y, Y1z, Y20, Y21, Y28, Y2a, AV.cells?, Nat.reduceAdd, Nat.reduceMul, asA, show (8 : Nat) = 12 ↔ False by decide, show (8 : Nat) = 13 ↔ False by decide]; exact hR _ _ rfl
def Ex.names (x : Ex) : List Str := onceS (x.raw nf1)
def Ex.edges (x : Ex) : List Str := onceS (x.raw nf2)
theorem Names_spec (B : SortedBodies E P) (x : Ex) (hw : x.wt ≤ 1000000) (hf : x.fine) : FX E P 181 [x.enc] (Lm S x.names) := by
  refine FX.of' ⟨Ex.enc_closed x, trivial⟩ (closed_S _) fun n R hR => B.names _ _ _ ?_
  unfold F.expr_Names
  exact wCall.fx (sorted_spec B (names1_spec B) x hw hf) fun n => hR _ _ rfl
theorem Edges_spec (B : SortedBodies E P) (x : Ex) (hw : x.wt ≤ 1000000) (hf : x.fine) : FX E P 184 [x.enc] (Lm S x.edges) := by
  refine FX.of' ⟨Ex.enc_closed x, trivial⟩ (closed_S _) fun n R hR => B.edges _ _ _ ?_
  unfold F.expr_Edges
  exact wCall.fx (sorted_spec B (edges1_spec B) x hw hf) fun n => hR _ _ rfl
end
end Go.Sc
namespace Go.Sc
open Go
set_option linter.unusedSimpArgs false
set_option linter.unusedVariables false
theorem str_lt_le {a b : Str} (h : a < b) : a ≤ b := fun h2 => List.lt_irrefl a (List.lt_trans h h2)
theorem str_ne_lt {a b : Str} (h : a ≤ b) (hn : a ≠ b) : a < b := by
  cases Classical.em (a < b) with
  | inl h1 => exact h1
  | inr h1 => exact absurd (List.le_antisymm h h1) hn
theorem str_lt_of_le_lt {a b c : Str} (h : a ≤ b) (h2 : b < c) : a < c := by
  by_cases e : a = b
  · exact e ▸ h2
  · exact List.lt_trans (str_ne_lt h e) h2
theorem strict_ext : ∀ {l m : List Str}, l.Pairwise (· < ·) → m.Pairwise (· < ·) → (∀ x, x ∈ l ↔ x ∈ m) → l = m
  | [], [], _, _, _ => rfl
  | [], b :: m, _, _, h => absurd ((h b).2 (by simp)) (by simp)
  | a :: l, [], _, _, h => absurd ((h a).1 (by simp)) (by simp)
  | a :: l, b :: m, hl, hm, h => by
    rw [List.pairwise_cons] at hl hm
    have hab : a = b := by
      rcases List.mem_cons.1 ((h a).1 (by simp)) with e | h1
      · exact e
      · rcases List.mem_cons.1 ((h b).2 (by simp)) with e | h2
        · exact e.symm
        · exact absurd (List.lt_trans (hm.1 a h1) (hl.1 b h2)) (List.lt_irrefl b)
    subst hab
    congr 1
    refine strict_ext hl.2 hm.2 fun x => ⟨fun hx => ?_, fun hx => ?_⟩
    · rcases List.mem_cons.1 ((h x).1 (List.mem_cons_of_mem _ hx)) with e | h1
      · exact absurd (e ▸ hl.1 x hx) (List.lt_irrefl _)
      · exact h1
    · rcases List.mem_cons.1 ((h x).2 (List.mem_cons_of_mem _ hx)) with e | h1
      · exact absurd (e ▸ hm.1 x hx) (List.lt_irrefl _)
      · exact h1
theorem compact_strict {d : Array Str} (hs : ∀ i j, i < j → j < d.size → d[i]! ≤ d[j]!) : ∀ m, m ≤ d.size → (Lib.compactUpTo d m).Pairwise (· < ·) ∧ (0 < m → ∀ x ∈ Lib.compactUpTo d m, x ≤ d[m - 1]!)
  | 0, _ => by simp [Lib.compactUpTo]
  | m + 1, hm => by
    obtain ⟨h1, h2⟩ := compact_strict hs m (by omega)
    rw [Lib.compactUpTo_succ]
    have hle : 0 < m → d[m - 1]! ≤ d[m]! := fun h => hs _ _ (by omega) (by omega)
    by_cases hk : Lib.keeps d m = true
    · rw [if_pos hk]
      have hlt : ∀ x ∈ Lib.compactUpTo d m, x < d[m]! := fun x hx => by
        by_cases h0 : m = 0
        · subst h0; simp [Lib.compactUpTo] at hx
        · have hne : d[m]! ≠ d[m - 1]! := by simpa [Lib.keeps, h0] using hk
          exact str_lt_of_le_lt (h2 (by omega) x hx) (str_ne_lt (hle (by omega)) (Ne.symm hne))
      refine ⟨List.pairwise_append.2 ⟨h1, by simp, fun a ha b hb => ?_⟩, fun _ x hx => ?_⟩
      · simp at hb; subst hb; exact hlt a ha
      · rcases List.mem_append.1 hx with hx | hx
        · exact str_lt_le (hlt x hx)
        · simp at hx; subst hx; exact List.le_refl _
    · rw [if_neg hk, List.append_nil]
      refine ⟨h1, fun _ x hx => ?_⟩
      have h0 : 0 < m := by
        rcases Nat.eq_zero_or_pos m with h | h
        · subst h; simp [Lib.keeps] at hk
        · exact h
      exact List.le_trans (h2 h0 x hx) (hle h0)
theorem sortS_sorted (l : List Str) : (sortS l).Pairwise (· ≤ ·) := by
  have := List.pairwise_mergeSort (le := fun x y : Str => decide (x ≤ y)) (fun a b c h1 h2 => by simp only [decide_eq_true_eq] at *; exact List.le_trans h1 h2) (fun a b => by simp only [Bool.or_eq_true, decide_eq_true_eq]; exact List.le_total a b) l
  simpa [sortS] using this
theorem onceS_strict (l : List Str) : (onceS l).Pairwise (· < ·) := by
  unfold onceS packS Lib.compact
  have := sortS_sorted l
  generalize sortS l = m at this
  refine (compact_strict (d := m.toArray) (fun i j hij hj => ?_) m.length (by simp)).1
  have hj' : j < m.length := by simpa using hj
  have := List.pairwise_iff_getElem.1 this i j (by omega) hj' hij
  simpa [getElem!_pos, hj', show i < m.length by omega] using this
/-- put in its place, unless it is there -/
def insA (s : Str) : List Str → Nat
  | [] => 0
  | x :: l => if x < s then insA s l + 1 else 0
def insN (l : List Str) (s : Str) : List Str := if l[insA s l]? = some s then l else l.take (insA s l) ++ s :: l.drop (insA s l)
theorem insN_cons (x : Str) (l : List Str) (s : Str) : insN (x :: l) s = if x < s then x :: insN l s else if x = s then x :: l else s :: x :: l := by
  by_cases h : x < s
  · have e : insA s (x :: l) = insA s l + 1 := by simp [insA, h]
    simp only [insN, e, List.getElem?_cons_succ, if_pos h, List.take_succ_cons, List.drop_succ_cons]
    split <;> rfl
  · have e : insA s (x :: l) = 0 := by simp [insA, h]
    simp [insN, e, h]
theorem insN_mem {s x : Str} : ∀ {l : List Str}, x ∈ insN l s ↔ x ∈ l ∨ x = s
  | [] => by simp [insN, insA]
  | y :: l => by
    rw [insN_cons]
    split
    · rw [List.mem_cons, insN_mem (l := l), List.mem_cons, or_assoc]
    · split
      · rename_i h; subst h; simp only [List.mem_cons]; exact ⟨.inl, fun h => h.elim id .inl⟩
      · simp only [List.mem_cons]; constructor <;> (intro h; rcases h with h | h | h <;> simp_all)
theorem insN_strict {s : Str} : ∀ {l : List Str}, l.Pairwise (· < ·) → (insN l s).Pairwise (· < ·)
  | [], _ => by simp [insN, insA]
  | y :: l, h => by
    rw [List.pairwise_cons] at h
    rw [insN_cons]
    split
    · rename_i hys
      rw [List.pairwise_cons]
      refine ⟨fun x hx => ?_, insN_strict h.2⟩
      rcases insN_mem.1 hx with hx | rfl
      · exact h.1 x hx
      · exact hys
    · rename_i hn
      split
      · rw [List.pairwise_cons]; exact h
      · rename_i hne
        have hsy : s < y := str_ne_lt hn (fun e => hne e.symm)
        rw [List.pairwise_cons, List.pairwise_cons]
        refine ⟨fun x hx => ?_, h⟩
        rcases List.mem_cons.1 hx with rfl | hx
        · exact hsy
        · exact List.lt_trans hsy (h.1 x hx)
def insAll (l : List Str) (m : List Str) : List Str := m.foldl insN l
theorem insAll_mem {x : Str} : ∀ {m l : List Str}, x ∈ insAll l m ↔ x ∈ l ∨ x ∈ m
  | [], l => by simp [insAll]
  | s :: m, l => by
    show x ∈ insAll (insN l s) m ↔ _
    rw [insAll_mem, insN_mem, List.mem_cons, or_assoc]
theorem insAll_strict : ∀ {m l : List Str}, l.Pairwise (· < ·) → (insAll l m).Pairwise (· < ·)
  | [], l, h => h
  | s :: m, l, h => insAll_strict (l := insN l s) (m := m) (insN_strict h)
theorem insAll_once (m : List Str) : insAll [] m = onceS m :=
  strict_ext (insAll_strict .nil) (onceS_strict m) fun x => by rw [insAll_mem, onceS_mem]; simp
end Go.Sc
namespace Go.Sc
open Go
set_option linter.unusedSimpArgs false
set_option linter.unusedVariables false
def Ex.other : Ex → Ex
  | .not x => x
  | x => .not x
def hasT (l : List Ex) (t : Str) : Bool := l.any fun z => decide (z.wr 0 = t)
def addP (l : List Ex) (y : Ex) : Option (List Ex) := if hasT l (y.wr 0) = true then some l else if hasT l (y.other.wr 0) = true then none else some (l ++ [y])
def addAll : List Ex → List Ex → Option (List Ex)
  | l, [] => some l
  | l, y :: ys => match addP l y with
    | none => none
    | some l' => addAll l' ys
def pieces (mode : Bool) : Ex → Option (List Ex)
  | .k b => if b = mode then some [] else none
  | .and l => some (if mode then l else [.and l])
  | .or l => some (if mode then [.or l] else l)
  | x => some [x]
def packT (mode : Bool) : Option (List Ex) → Ex
  | none => .k (!mode)
  | some [] => .k mode
  | some [x] => x
  | some l => if mode then .and l else .or l
def notT : Ex → Ex
  | .k b => .k !b
  | .not y => y
  | y => .not y
mutual
def Ex.tidy : Ex → Ex
  | .not x => notT x.tidy
  | .and l => packT true (Ex.tidyL true l [])
  | .or l => packT false (Ex.tidyL false l [])
  | x => x
def Ex.tidyL (mode : Bool) : List Ex → List Ex → Option (List Ex)
  | [], acc => some acc
  | x :: l, acc => match pieces mode x.tidy with
    | none => none
    | some ps => match addAll acc ps with
      | none => none
      | some acc' => Ex.tidyL mode l acc'
end
/-! ### what is kept -/
/-! ### it says the same -/
section
variable {p q : Str → Bool}
end
end Go.Sc
namespace Go.Sc
open Go
set_option linter.unusedSimpArgs false
set_option linter.unusedVariables false
set_option linter.unnecessarySimpa false
section
variable {E : Env} {P : Program}
theorem nameOk_ne {s : Str} (h : nameOk s = true) : s ≠ [] := by rintro rfl; simp [nameOk] at h
end
end Go.Sc
namespace Go.Sc
open Go
set_option linter.unusedSimpArgs false
set_option linter.unusedVariables false
set_option linter.unnecessarySimpa false
mutual
/-- of its names: those that it asks what they are, those that it asks what they were -/
def Ex.on (Q Q' : Str → Prop) : Ex → Prop
  | .k _ => True
  | .bit s => Q s
  | .rise s => Q s ∧ Q' s
  | .fall s => Q s ∧ Q' s
  | .not x => x.on Q Q'
  | .and l => Ex.onL Q Q' l
  | .or l => Ex.onL Q Q' l
def Ex.onL (Q Q' : Str → Prop) : List Ex → Prop
  | [] => True
  | x :: l => x.on Q Q' ∧ Ex.onL Q Q' l
end
theorem Ex.on_mem {Q Q' : Str → Prop} {x : Ex} : ∀ {l : List Ex}, Ex.onL Q Q' l → x ∈ l → x.on Q Q'
  | y :: l, h, hx => by
    rcases List.mem_cons.1 hx with rfl | hx
    · exact h.1
    · exact Ex.on_mem h.2 hx
mutual
theorem Ex.on_of {Q Q' : Str → Prop} : ∀ x : Ex, x.fine → (∀ s ∈ x.raw nf1, Q s) → (∀ s ∈ x.raw nf2, Q' s) → x.on Q Q'
  | .k _, _, _, _ => trivial
  | .bit s, hf, h1, _ => h1 s (by simp [Ex.raw, nmL, nf1, nameOk_ne hf])
  | .rise s, hf, h1, h2 => ⟨h1 s (by simp [Ex.raw, nmL, nf1, nameOk_ne hf]), h2 s (by simp [Ex.raw, nmL, nf2, nameOk_ne hf])⟩
  | .fall s, hf, h1, h2 => ⟨h1 s (by simp [Ex.raw, nmL, nf1, nameOk_ne hf]), h2 s (by simp [Ex.raw, nmL, nf2, nameOk_ne hf])⟩
  | .not x, hf, h1, h2 => Ex.on_of x hf (fun s hs => h1 s (by simp [Ex.raw, hs])) (fun s hs => h2 s (by simp [Ex.raw, hs]))
  | .and l, hf, h1, h2 => Ex.onL_of l hf.2 (fun s hs => h1 s (by simp [Ex.raw, hs])) (fun s hs => h2 s (by simp [Ex.raw, hs]))
  | .or l, hf, h1, h2 => Ex.onL_of l hf.2 (fun s hs => h1 s (by simp [Ex.raw, hs])) (fun s hs => h2 s (by simp [Ex.raw, hs]))
theorem Ex.onL_of {Q Q' : Str → Prop} : ∀ l : List Ex, Ex.fineL l → (∀ s ∈ Ex.rawL nf1 l, Q s) → (∀ s ∈ Ex.rawL nf2 l, Q' s) → Ex.onL Q Q' l
  | [], _, _, _ => trivial
  | x :: l, hf, h1, h2 => ⟨Ex.on_of x hf.1 (fun s hs => h1 s (by simp [Ex.rawL, hs])) (fun s hs => h2 s (by simp [Ex.rawL, hs])), Ex.onL_of l hf.2 (fun s hs => h1 s (by simp [Ex.rawL, hs])) (fun s hs => h2 s (by simp [Ex.rawL, hs]))⟩
end
/-- a question of names, answered for some -/
structure AsksOn (E : Env) (P : Program) (f : AV) (p : Str → Bool) (Q : Str → Prop) : Prop where
  ok : ∃ k cc, f = .fn k [] cc ∧ AV.closedL cc ∧ ∀ s, Q s → FX E P k ([S s] ++ cc) (Bo (p s))
theorem AsksOn.closed {E : Env} {P : Program} {f : AV} {p : Str → Bool} {Q : Str → Prop} (h : AsksOn E P f p Q) : f.closed := by
  obtain ⟨k, cc, rfl, h, _⟩ := h.ok
  exact ⟨trivial, h⟩
theorem AsksOn.scalar {E : Env} {P : Program} {f : AV} {p : Str → Bool} {Q : Str → Prop} (h : AsksOn E P f p Q) : f.scalar = true := by
  obtain ⟨k, cc, rfl, h, _⟩ := h.ok
  rfl
theorem AsksOn.call {E : Env} {P : Program} {f : AV} {p : Str → Bool} {Q : Str → Prop} (h : AsksOn E P f p Q) (s : Str) (hs : Q s) {H : AH} {K : Kt} (hK : ∀ n, K (Bo (p s)) ⟨H.bs, n⟩) : wCallV E P f [S s] H K := by
  obtain ⟨k, cc, rfl, _, h⟩ := h.ok
  exact wCallV.fx (fs := []) (h s hs) hK
section
variable {E : Env} {P : Program}
theorem Eval_spec1 (B : EvalBodies0 E P) {f g : AV} {p q : Str → Bool} {Q Q' : Str → Prop} (hf : AsksOn E P f p Q) (hg : AsksOn E P g q Q') : ∀ (n : Nat) (x : Ex), x.wt < n → x.wt ≤ 1000000 → x.fine → x.on Q Q' → FX E P 158 [x.enc, f, g] (Bo (x.says p q)) := by
  intro n
  induction n with
  | zero => intro x hx; omega
  | succ n ih =>
    intro x hx hw hfi ho
    refine FX.of' ⟨Ex.enc_closed x, hf.closed, hg.closed, trivial⟩ trivial fun c R hR => B.eval _ _ _ _ _ ?_
    unfold F.expr_Eval
    rw [cells?_scalar hf.scalar]
    refine wNew.F' rfl ?_
    rw [cells?_scalar hg.scalar]
    refine wNew.F' rfl ?_
    have hbox : ∀ l : List Ex, AV.closedL [AV.ptrF [f] 0, .ptrF [g] 0] := fun _ => ⟨⟨hf.closed, trivial⟩, ⟨hg.closed, trivial⟩, trivial⟩
    cases x with
    | k b =>
      simp only [Ex.enc]
      simp only [nd0, Y1n, Y1o, Y1p, Y1q, Y1w, Y1x, Y1y, Y1z, Y20, Y21, Y28, Y2a, AV.cells?, Nat.reduceAdd, Nat.reduceMul, asA, if_pos rfl]
      exact hR _ _ rfl
    | bit s =>
      simp only [Ex.enc]
      simp only [nd0, Y1n, Y1o, Y1p, Y1q, Y1w, Y1x, Y1y, Y1z, Y20, Y21, Y28, Y2a, AV.cells?, Nat.reduceAdd, Nat.reduceMul, asA, show (14 : Nat) = 11 ↔ False by decide, show (14 : Nat) = 14 ↔ True by decide]
      refine hf.call s ho fun n => ?_
      exact hR _ _ rfl
    | rise s =>
      simp only [Ex.enc]
      simp only [nd0, Y1n, Y1o, Y1p, Y1q, Y1w, Y1x, Y1y, Y1z, Y20, Y21, Y28, Y2a, AV.cells?, Nat.reduceAdd, Nat.reduceMul, asA, show (12 : Nat) = 11 ↔ False by decide, show (12 : Nat) = 14 ↔ False by decide, show (12 : Nat) = 12 ↔ True by decide]
      refine hf.call s ho.1 fun n => ?_
      cases hp : p s with
      | false => simp only [nd0, Y1n, Y1o, Y1p, Y1q, Y1w, Y1x, Y1y, Y1z, Y20, Y21, Y28, Y2a, AV.cells?, Nat.reduceAdd, Nat.reduceMul]; exact hR _ _ (by simp [Ex.says, hp])
      | true =>
        simp only [nd0, Y1n, Y1o, Y1p, Y1q, Y1w, Y1x, Y1y, Y1z, Y20, Y21, Y28, Y2a, AV.cells?, Nat.reduceAdd, Nat.reduceMul]
        refine hg.call s ho.2 fun n => ?_
        simp only [nd0, Y1n, Y1o, Y1p, Y1q, Y1w, Y1x, Y1y, Y1z, Y20, Y21, Y28, Y2a, AV.cells?, Nat.reduceAdd, Nat.reduceMul]
        exact hR _ _ (by simp [Ex.says, hp])
    | fall s =>
      simp only [Ex.enc]
      simp only [nd0, Y1n, Y1o, Y1p, Y1q, Y1w, Y1x, Y1y, Y1z, Y20, Y21, Y28, Y2a, AV.cells?, Nat.reduceAdd, Nat.reduceMul, asA, show (13 : Nat) = 11 ↔ False by decide, show (13 : Nat) = 14 ↔ False by decide, show (13 : Nat) = 12 ↔ False by decide, show (13 : Nat) = 13 ↔ True by decide]
      refine hf.call s ho.1 fun n => ?_
      cases hp : p s with
      | true => simp only [nd0, Y1n, Y1o, Y1p, Y1q, Y1w, Y1x, Y1y, Y1z, Y20, Y21, Y28, Y2a, AV.cells?, Nat.reduceAdd, Nat.reduceMul]; exact hR _ _ (by simp [Ex.says, hp])
      | false =>
        simp only [nd0, Y1n, Y1o, Y1p, Y1q, Y1w, Y1x, Y1y, Y1z, Y20, Y21, Y28, Y2a, AV.cells?, Nat.reduceAdd, Nat.reduceMul]
        refine hg.call s ho.2 fun n => ?_
        simp only [nd0, Y1n, Y1o, Y1p, Y1q, Y1w, Y1x, Y1y, Y1z, Y20, Y21, Y28, Y2a, AV.cells?, Nat.reduceAdd, Nat.reduceMul]
        exact hR _ _ (by simp [Ex.says, hp])
    | not x =>
      simp only [Ex.enc]
      simp only [Ex.wt] at hw hx
      simp only [nd0, Y1n, Y1o, Y1p, Y1q, Y1w, Y1x, Y1y, Y1z, Y20, Y21, Y28, Y2a, AV.cells?, Nat.reduceAdd, Nat.reduceMul, asA, show (10 : Nat) = 11 ↔ False by decide, show (10 : Nat) = 14 ↔ False by decide, show (10 : Nat) = 12 ↔ False by decide, show (10 : Nat) = 13 ↔ False by decide, show (10 : Nat) = 10 ↔ True by decide]
      refine wNew.L (l := [nilE]) rfl ?_
      simp only [nd0, Y1n, Y1o, Y1p, Y1q, Y1w, Y1x, Y1y, Y1z, Y20, Y21, Y28, Y2a, AV.cells?, Nat.reduceAdd, Nat.reduceMul]
      rw [storeN_L (n := 1) (xs := [x.enc]) rfl (by simp [Ex.enc_scalar])]
      simp only [nd0, Y1n, Y1o, Y1p, Y1q, Y1w, Y1x, Y1y, Y1z, Y20, Y21, Y28, Y2a, AV.cells?, Nat.reduceAdd, Nat.reduceMul, show putL [nilE] 0 [x.enc] = some [x.enc] from rfl]
      refine wCall.fx (ih x (by omega) (by omega) hfi ho) fun n2 => ?_
      simp only [nd0, Y1n, Y1o, Y1p, Y1q, Y1w, Y1x, Y1y, Y1z, Y20, Y21, Y28, Y2a, AV.cells?, Nat.reduceAdd, Nat.reduceMul]
      exact hR _ _ rfl
    | and l =>
      simp only [Ex.enc]
      simp only [Ex.wt] at hw hx
      have hll := Ex.len_wtL hfi.2
      simp only [nd0, Y1n, Y1o, Y1p, Y1q, Y1w, Y1x, Y1y, Y1z, Y20, Y21, Y28, Y2a, AV.cells?, Nat.reduceAdd, Nat.reduceMul, asA, show (9 : Nat) = 11 ↔ False by decide, show (9 : Nat) = 14 ↔ False by decide, show (9 : Nat) = 12 ↔ False by decide, show (9 : Nat) = 13 ↔ False by decide, show (9 : Nat) = 10 ↔ False by decide, show (9 : Nat) = 9 ↔ True by decide]
      refine wCall.fx (conA_spec B (p := fun x => !x.says p q) l (by omega) (hbox l) fun y hy => ?_) fun n2 => ?_
      · refine FX.of' ⟨Ex.enc_closed y, hbox l⟩ trivial fun c R hR => B.eval1 _ _ _ _ _ ?_
        unfold F.expr_Eval_c1
        simp only [nd0, Y1n, Y1o, Y1p, Y1q, Y1w, Y1x, Y1y, Y1z, Y20, Y21, Y28, Y2a, AV.cells?, Nat.reduceAdd, Nat.reduceMul]
        have := Ex.wt_mem hy
        refine wCall.fx (ih y (by omega) (by omega) (Ex.fine_mem hfi.2 hy) (Ex.on_mem ho hy)) fun n2 => ?_
        simp only [nd0, Y1n, Y1o, Y1p, Y1q, Y1w, Y1x, Y1y, Y1z, Y20, Y21, Y28, Y2a, AV.cells?, Nat.reduceAdd, Nat.reduceMul]
        exact hR _ _ rfl
      · simp only [nd0, Y1n, Y1o, Y1p, Y1q, Y1w, Y1x, Y1y, Y1z, Y20, Y21, Y28, Y2a, AV.cells?, Nat.reduceAdd, Nat.reduceMul]
        exact hR _ _ (by rw [all_any, Ex.says, Ex.allL_eq])
    | or l =>
      simp only [Ex.enc]
      simp only [Ex.wt] at hw hx
      have hll := Ex.len_wtL hfi.2
      simp only [nd0, Y1n, Y1o, Y1p, Y1q, Y1w, Y1x, Y1y, Y1z, Y20, Y21, Y28, Y2a, AV.cells?, Nat.reduceAdd, Nat.reduceMul, asA, show (8 : Nat) = 11 ↔ False by decide, show (8 : Nat) = 14 ↔ False by decide, show (8 : Nat) = 12 ↔ False by decide, show (8 : Nat) = 13 ↔ False by decide, show (8 : Nat) = 10 ↔ False by decide, show (8 : Nat) = 9 ↔ False by decide, show (8 : Nat) = 8 ↔ True by decide]
      refine wCall.fx (conO_spec B (p := fun x => x.says p q) l (by omega) (hbox l) fun y hy => ?_) fun n2 => ?_
      · refine FX.of' ⟨Ex.enc_closed y, hbox l⟩ trivial fun c R hR => B.eval2 _ _ _ _ _ ?_
        unfold F.expr_Eval_c2
        simp only [nd0, Y1n, Y1o, Y1p, Y1q, Y1w, Y1x, Y1y, Y1z, Y20, Y21, Y28, Y2a, AV.cells?, Nat.reduceAdd, Nat.reduceMul]
        have := Ex.wt_mem hy
        refine wCall.fx (ih y (by omega) (by omega) (Ex.fine_mem hfi.2 hy) (Ex.on_mem ho hy)) fun n2 => ?_
        exact hR _ _ rfl
      · exact hR _ _ (by rw [Ex.says, Ex.anyL_eq])
end
end Go.Sc
namespace Go.Sc
open Go
set_option linter.unusedSimpArgs false
set_option linter.unusedVariables false
set_option linter.unnecessarySimpa false
section
variable {E : Env} {P : Program}
theorem parseA_ok {s : Str} (h : s.length ≤ 2000) : (∃ e p, parseA s = .tup [nilE, At e p]) ∨ ∃ x j, parseR s = .ok x j ∧ parseA s = .tup [x.enc, nilE] := by
  unfold parseA
  rw [if_neg (by omega)]
  cases hp : parseR s with
  | no e p => exact .inl ⟨e, p, rfl⟩
  | ok x j => exact .inr ⟨x, j, rfl, rfl⟩
end
end Go.Sc
namespace Go.Sc
open Go
set_option linter.unusedSimpArgs false
set_option linter.unusedVariables false
set_option linter.unnecessarySimpa false
section
variable {p p' q q' : Str → Bool}
theorem fine_ne {s : Str} (h : nameOk s = true) : s ≠ [] := by rintro rfl; simp [nameOk] at h
mutual
theorem Ex.says_hang : ∀ x : Ex, x.fine → (∀ s ∈ x.raw nf1, p s = p' s) → (∀ s ∈ x.raw nf2, q s = q' s) → x.says p q = x.says p' q'
  | .k _, _, _, _ => rfl
  | .bit s, hf, h1, _ => by
    have := h1 s (by simp [Ex.raw, nmL, nf1, fine_ne hf])
    simp [Ex.says, this]
  | .rise s, hf, h1, h2 => by
    have a := h1 s (by simp [Ex.raw, nmL, nf1, fine_ne hf])
    have b := h2 s (by simp [Ex.raw, nmL, nf2, fine_ne hf])
    simp [Ex.says, a, b]
  | .fall s, hf, h1, h2 => by
    have a := h1 s (by simp [Ex.raw, nmL, nf1, fine_ne hf])
    have b := h2 s (by simp [Ex.raw, nmL, nf2, fine_ne hf])
    simp [Ex.says, a, b]
  | .not y, hf, h1, h2 => by
    simp only [Ex.says]
    rw [Ex.says_hang y hf (fun s hs => h1 s (by simp [Ex.raw, hs])) (fun s hs => h2 s (by simp [Ex.raw, hs]))]
  | .and l, hf, h1, h2 => by
    simp only [Ex.says]
    exact (Ex.saysL_hang l hf.2 (fun s hs => h1 s (by simp [Ex.raw, hs])) (fun s hs => h2 s (by simp [Ex.raw, hs]))).1
  | .or l, hf, h1, h2 => by
    simp only [Ex.says]
    exact (Ex.saysL_hang l hf.2 (fun s hs => h1 s (by simp [Ex.raw, hs])) (fun s hs => h2 s (by simp [Ex.raw, hs]))).2
theorem Ex.saysL_hang : ∀ l : List Ex, Ex.fineL l → (∀ s ∈ Ex.rawL nf1 l, p s = p' s) → (∀ s ∈ Ex.rawL nf2 l, q s = q' s) → Ex.allL p q l = Ex.allL p' q' l ∧ Ex.anyL p q l = Ex.anyL p' q' l
  | [], _, _, _ => ⟨rfl, rfl⟩
  | x :: l, hf, h1, h2 => by
    have a := Ex.says_hang x hf.1 (fun s hs => h1 s (by simp [Ex.rawL, hs])) (fun s hs => h2 s (by simp [Ex.rawL, hs]))
    have b := Ex.saysL_hang l hf.2 (fun s hs => h1 s (by simp [Ex.rawL, hs])) (fun s hs => h2 s (by simp [Ex.rawL, hs]))
    simp only [Ex.allL, Ex.anyL, a, b.1, b.2, and_self]
end
end
theorem nm12 (x : Ex) (s : Str) (h : s ∈ nmL nf2 x) : s ∈ nmL nf1 x := by
  cases x <;> first | exact h | (simp [nmL, nf2] at h)
mutual
theorem Ex.edge_name : ∀ (x : Ex) (s : Str), s ∈ x.raw nf2 → s ∈ x.raw nf1
  | .k _, s, h => nm12 _ s h
  | .bit _, s, h => nm12 _ s h
  | .rise _, s, h => nm12 _ s h
  | .fall _, s, h => nm12 _ s h
  | .not y, s, h => by
    simp only [Ex.raw, List.mem_append] at h ⊢
    exact h.imp (nm12 _ s) (Ex.edge_name y s)
  | .and l, s, h => by
    simp only [Ex.raw, List.mem_append] at h ⊢
    exact h.imp (nm12 _ s) (Ex.edgeL_name l s)
  | .or l, s, h => by
    simp only [Ex.raw, List.mem_append] at h ⊢
    exact h.imp (nm12 _ s) (Ex.edgeL_name l s)
theorem Ex.edgeL_name : ∀ (l : List Ex) (s : Str), s ∈ Ex.rawL nf2 l → s ∈ Ex.rawL nf1 l
  | [], s, h => h
  | x :: l, s, h => by
    simp only [Ex.rawL, List.mem_append] at h ⊢
    exact h.imp (Ex.edge_name x s) (Ex.edgeL_name l s)
end
section
variable {E : Env} {P : Program}
/-- those of a list that are not among others -/
def out (r l : List Str) : List Str := r.filter fun s => !decide (s ∈ l)
end
end Go.Sc
namespace Go.Sc
open Go
set_option linter.unusedSimpArgs false
set_option linter.unusedVariables false
set_option linter.unnecessarySimpa false
/-- lists are numbered as they come: those that are seen, and the numbers -/
def numStep (s : List (List Int) × List Int) (l : List Int) : List (List Int) × List Int :=
  match s.1.findIdx? (fun x => decide (x = l)) with
  | some k => (s.1, s.2 ++ [(k : Int)])
  | none => (s.1 ++ [l], s.2 ++ [(s.1.length : Int)])
def numAll (t : List (List Int)) : List (List Int) × List Int := t.foldl numStep ([], [])
def number (t : List (List Int)) : List Int := (numAll t).2
structure Table where
  next : List (List Int)
  tells : List (List Int)
def cell (l : List Int) (i : Nat) : Int := l[i]?.getD 0
def row (t : List (List Int)) (i : Nat) : List Int := t[i]?.getD []
/-- what is told of a state: its block, and by each input what it tells, and the block to which it leads -/
def lineTo (t : Table) (now : List Int) (s i : Nat) : List Int := cell now s :: ((List.range i).map fun j => [cell (row t.tells s) j, cell now (cell (row t.next s) j).toNat]).flatten
def line (t : Table) (now : List Int) (s : Nat) : List Int := lineTo t now s (row t.next s).length
def stepR (t : Table) (now : List Int) : List Int := number ((List.range t.next.length).map (line t now))
def iter (t : Table) : Nat → List Int
  | 0 => List.replicate t.next.length 0
  | k + 1 => stepR t (iter t k)
/-- does input 'i' part two states 'k' rounds before the end? -/
def parts (t : Table) (k : Nat) (a b i : Nat) : Bool :=
  (decide (k = 1) && decide (cell (row t.tells a) i ≠ cell (row t.tells b) i)) || (decide (k > 1) && decide (cell (iter t (k - 1)) (cell (row t.next a) i).toNat ≠ cell (iter t (k - 1)) (cell (row t.next b) i).toNat))
def t0 : Table := ⟨[[1], [0], [0]], [[5], [5], [6]]⟩
end Go.Sc
namespace Go.Sc
open Go
set_option linter.unnecessarySimpa false
set_option linter.unusedSimpArgs false
/-! ### numbers as they come -/
/-! ### rounds -/
/-- pairs that are alike -/
def alike (u : List Int) (n : Nat) : Nat := (((List.range n).map fun i => (List.range n).map fun j => (i, j)).flatten).countP fun p => decide (u[p.1]? = u[p.2]?)
/-! ### the table of blocks -/
end Go.Sc
