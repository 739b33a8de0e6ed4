/- CONTRACTS: package expr: what an expression says, and how great it is. WHAT AN EXPRESSION's TEXT TELLS IS THAT EXPRESSION AGAIN: plain. CONTRACTS: package expr: how great an expression is; the keep's fact of it. CONTRACTS OUT OF THE KIT's SHELF: strings.Join, strings.IndexByte. CONTRACTS OUT OF THE KIT's SHELF: what writes a row of texts of the caller's: slices.Sort, slices.Compact. CONTRACTS: package expr: names and edges, sorted, each once. PLAIN LAW: a list that is sorted, each once, is told by what is in it; what is put in place by place is sorted, each once. EXPRESSIONS MADE TIDY: plain. WHAT IS TIDY STAYS AS IT IS: plain. CONTRACTS: package signalboxref: how expressions are written. CONTRACTS: package signalboxref: an expression is made tidy. CONTRACTS: package signalboxref: what an expression says, how great it is, its names and edges. CONTRACTS: package signalboxref: names and edges of an expression, put in place by place. (of the seat YtldomhanfhfonaaGreatDoor) -/
import Derived.Test.YtldomhanfhfonaaGreatDoorCore7
import Derived.Lib.Join
import Derived.Lib.Bytealg
import Derived.Sort.Row
import Derived.Sort.EncStr
import Derived.Sort.Grow
import Derived.Lib.SlicesCompact
import Derived.Lib.IndexMore
namespace Go.Sc
open Go
set_option linter.unusedSimpArgs false
set_option linter.unusedVariables false
set_option linter.unnecessarySimpa false
/-! ### what it says -/
mutual
def Ex.says (p q : Str → Bool) : Ex → Bool
  | .k b => b
  | .bit s => p s
  | .rise s => p s && !q s
  | .fall s => !p s && q s
  | .not x => !x.says p q
  | .and l => Ex.allL p q l
  | .or l => Ex.anyL p q l
def Ex.allL (p q : Str → Bool) : List Ex → Bool
  | [] => true
  | x :: l => x.says p q && Ex.allL p q l
def Ex.anyL (p q : Str → Bool) : List Ex → Bool
  | [] => false
  | x :: l => x.says p q || Ex.anyL p q l
end
theorem Ex.allL_eq (p q : Str → Bool) : ∀ l : List Ex, Ex.allL p q l = l.all fun x => x.says p q
  | [] => rfl
  | x :: l => by simp [Ex.allL, Ex.allL_eq p q l]
theorem Ex.anyL_eq (p q : Str → Bool) : ∀ l : List Ex, Ex.anyL p q l = l.any fun x => x.says p q
  | [] => rfl
  | x :: l => by simp [Ex.anyL, Ex.anyL_eq p q l]
mutual
def Ex.size : Ex → Nat
  | .not x => x.size + 1
  | .and l => Ex.sizeL l + 1
  | .or l => Ex.sizeL l + 1
  | _ => 1
def Ex.sizeL : List Ex → Nat
  | [] => 0
  | x :: l => x.size + Ex.sizeL l
end
mutual
theorem Ex.size_wt : ∀ x : Ex, x.fine → x.size ≤ x.wt
  | .k _, _ => by simp [Ex.size, Ex.wt]
  | .bit s, h => by
    cases s with
    | nil => simp [Ex.fine, nameOk] at h
    | cons a b => simp [Ex.size, Ex.wt]
  | .rise _, _ => by simp [Ex.size, Ex.wt]
  | .fall _, _ => by simp [Ex.size, Ex.wt]
  | .not x, h => by have := Ex.size_wt x h; simp only [Ex.size, Ex.wt]; omega
  | .and l, h => by have := Ex.sizeL_wt l h.2; simp only [Ex.size, Ex.wt]; omega
  | .or l, h => by have := Ex.sizeL_wt l h.2; simp only [Ex.size, Ex.wt]; omega
theorem Ex.sizeL_wt : ∀ l : List Ex, Ex.fineL l → Ex.sizeL l ≤ Ex.wtL l
  | [], _ => by simp [Ex.sizeL, Ex.wtL]
  | x :: l, h => by have h1 := Ex.size_wt x h.1; have h2 := Ex.sizeL_wt l h.2; simp only [Ex.sizeL, Ex.wtL]; omega
end
/-- a question of names -/
structure Asks (E : Env) (P : Program) (f : AV) (p : Str → Bool) : Prop where
  ok : ∃ k cc, f = .fn k [] cc ∧ AV.closedL cc ∧ ∀ s, FX E P k ([S s] ++ cc) (Bo (p s))
theorem Asks.closed {E : Env} {P : Program} {f : AV} {p : Str → Bool} (h : Asks E P f p) : f.closed := by
  obtain ⟨k, cc, rfl, h, _⟩ := h.ok
  exact ⟨trivial, h⟩
theorem Asks.scalar {E : Env} {P : Program} {f : AV} {p : Str → Bool} (h : Asks E P f p) : f.scalar = true := by
  obtain ⟨k, cc, rfl, h, _⟩ := h.ok
  rfl
theorem Asks.call {E : Env} {P : Program} {f : AV} {p : Str → Bool} (h : Asks E P f p) (s : Str) {H : AH} {K : Kt} (hK : ∀ n, K (Bo (p s)) ⟨H.bs, n⟩) : wCallV E P f [S s] H K := by
  obtain ⟨k, cc, rfl, _, h⟩ := h.ok
  exact wCallV.fx (fs := []) (h s) hK
/-- a list of texts, or nil -/
def TXL (a : AV) (l : List Str) : Prop := (a = nilS ∧ l = []) ∨ a = Lm S l
theorem TXL.closed {a : AV} {l : List Str} (h : TXL a l) : a.closed := by
  rcases h with ⟨rfl, _⟩ | rfl
  · trivial
  · exact closed_S l
theorem TXL.scalar {a : AV} {l : List Str} (h : TXL a l) : a.scalar = true := by
  rcases h with ⟨rfl, _⟩ | rfl <;> rfl
theorem TXL.len {a : AV} {l : List Str} (h : TXL a l) : lenA a = some (Z l.length) := by
  rcases h with ⟨rfl, rfl⟩ | rfl <;> rfl
structure EvalBodies0 (E : Env) (P : Program) : Prop where
  eval : Body3 E P 158 F.expr_Eval
  eval1 : Body3 E P 162 F.expr_Eval_c1
  eval2 : Body3 E P 164 F.expr_Eval_c2
  conA : Body2 E P 163 F.slices_ContainsFunc_expr_And_expr_Expr
  conO : Body2 E P 165 F.slices_ContainsFunc_expr_Or_expr_Expr
  ixA : Body2 E P 167 F.slices_IndexFunc_expr_And_expr_Expr
  ixO : Body2 E P 168 F.slices_IndexFunc_expr_Or_expr_Expr
section
variable {E : Env} {P : Program}
theorem ixF_spec {G : Env → Program → AV → AV → AH → Kt → Prop} {kk : Nat} (hG : G = F.slices_IndexFunc_expr_And_expr_Expr ∨ G = F.slices_IndexFunc_expr_Or_expr_Expr) (hB : Body2 E P kk G) {k : Nat} {cs : List AV} {p : Ex → Bool} (l : List Ex) (hl : l.length < 4611686018427387904) (hcs : AV.closedL cs)
    (hp : ∀ a ∈ l, FX E P k ([a.enc] ++ cs) (Bo (p a))) : FX E P kk [.slN (Ex.encL l) l.length, .fn k [] cs] (Z (idxO (l.findIdx? p))) := by
  refine FX.of' ⟨Ex.encL_closed l, ⟨trivial, hcs⟩, trivial⟩ (by simp [AV.closed]) fun n R hR => hB _ _ _ _ ?_
  have main : wLoop 1 (fun I1 => I1 (Z 0) ⟨[], n⟩) fun I1 t8 H =>
      wGet (binA .lss t8 (Z l.length)) H fun t9 H =>
      wIf t9 (
        wGet (iaddr 1 (.slN (Ex.encL l) l.length) t8) H fun t14 H =>
        wGet (load1 t14 H) H fun t15 H =>
        wCallV E P (.fn k [] cs) [t15] H fun t16 H =>
        wIf t16 (
          R t8 H) (
          wGet (binA .add t8 (.val (.int .i64 1))) H fun t18 H =>
          I1 t18 H)) (
        R (.val (.int .i64 (-1))) H) := by
    refine wLoop.one (fun m i H => ∃ pre rest, l = pre ++ rest ∧ i = Z pre.length ∧ m = rest.length ∧ ∀ a ∈ pre, p a = false) l.length (gh1.mk ⟨[], l, rfl, rfl, rfl, by simp⟩) ?_
    rintro m i H ⟨pre, rest, rfl, rfl, rfl, hpre⟩
    cases rest with
    | nil =>
      simp only [nd0, Y1n, Y1o, Y1p, Y1q, Y1w, Y1x, Y1y, Y1z, Y20, Y21, Y28, Y2a, AV.cells?, Nat.reduceAdd, Nat.reduceMul, List.append_nil, Int.lt_irrefl]
      refine hR _ _ ?_
      rw [List.append_nil, List.findIdx?_eq_none_iff.2 hpre]
      rfl
    | cons x rest =>
      simp only [nd0, Y1n, Y1o, Y1p, Y1q, Y1w, Y1x, Y1y, Y1z, Y20, Y21, Y28, Y2a, AV.cells?, Nat.reduceAdd, Nat.reduceMul, decide_eq_true (show (pre.length : Int) < ((pre ++ x :: rest).length : Int) by simp; omega)]
      rw [iaddr_Nn lt_mid]
      simp only [nd0, Y1n, Y1o, Y1p, Y1q, Y1w, Y1x, Y1y, Y1z, Y20, Y21, Y28, Y2a, AV.cells?, Nat.reduceAdd, Nat.reduceMul, show (Ex.encL (pre ++ x :: rest))[pre.length]? = some x.enc by rw [Ex.encL_map]; simp]
      refine wCallV.fx (hp x (by simp)) fun n1 => ?_
      refine wIf.bool (fun h => ?_) fun h => ?_
      · refine hR _ _ ?_
        have : (pre ++ x :: rest).findIdx? p = some pre.length := by
          rw [List.findIdx?_append, List.findIdx?_eq_none_iff.2 hpre]
          simp [List.findIdx?_cons, h]
        rw [this]; rfl
      · rw [binA_succ (by simp at hl; omega)]
        simp only [nd0, Y1n, Y1o, Y1p, Y1q, Y1w, Y1x, Y1y, Y1z, Y20, Y21, Y28, Y2a, AV.cells?, Nat.reduceAdd, Nat.reduceMul]
        refine back1.mk rest.length (by simp) ⟨pre ++ [x], rest, by simp, by simp, rfl, fun a ha => ?_⟩
        rcases List.mem_append.1 ha with ha | ha
        · exact hpre a ha
        · simp at ha; subst ha; exact h
  rcases hG with rfl | rfl
  · unfold F.slices_IndexFunc_expr_And_expr_Expr
    simp only [nd0, Y1n, Y1o, Y1p, Y1q, Y1w, Y1x, Y1y, Y1z, Y20, Y21, Y28, Y2a, AV.cells?, Nat.reduceAdd, Nat.reduceMul]
    exact main
  · unfold F.slices_IndexFunc_expr_Or_expr_Expr
    simp only [nd0, Y1n, Y1o, Y1p, Y1q, Y1w, Y1x, Y1y, Y1z, Y20, Y21, Y28, Y2a, AV.cells?, Nat.reduceAdd, Nat.reduceMul]
    exact main
theorem any_idx {α : Type} {l : List α} {p : α → Bool} : decide ((0 : Int) ≤ idxO (l.findIdx? p)) = l.any p := by
  cases hf : l.findIdx? p with
  | none =>
    rw [List.findIdx?_eq_none_iff] at hf
    have : l.any p = false := by rw [List.any_eq_false]; intro x hx; simp [hf x hx]
    rw [this]; rfl
  | some i =>
    rw [List.findIdx?_eq_some_iff_getElem] at hf
    obtain ⟨h1, h2, _⟩ := hf
    have : l.any p = true := by rw [List.any_eq_true]; exact ⟨_, List.getElem_mem h1, h2⟩
    rw [this]
    have : (0 : Int) ≤ idxO (some i) := by simp [idxO]
    rw [decide_eq_true this]
theorem conA_spec (B : EvalBodies0 E P) {k : Nat} {cs : List AV} {p : Ex → Bool} (l : List Ex) (hl : l.length < 4611686018427387904) (hcs : AV.closedL cs) (hp : ∀ a ∈ l, FX E P k ([a.enc] ++ cs) (Bo (p a))) :
    FX E P 163 [.slN (Ex.encL l) l.length, .fn k [] cs] (Bo (l.any p)) := by
  refine FX.of' ⟨Ex.encL_closed l, ⟨trivial, hcs⟩, trivial⟩ trivial fun n R hR => B.conA _ _ _ _ ?_
  unfold F.slices_ContainsFunc_expr_And_expr_Expr
  refine wCall.fx (ixF_spec (.inl rfl) B.ixA l hl hcs hp) fun n => ?_
  simp only [nd0, Y1n, Y1o, Y1p, Y1q, Y1w, Y1x, Y1y, Y1z, Y20, Y21, Y28, Y2a, AV.cells?, Nat.reduceAdd, Nat.reduceMul]
  exact hR _ _ (by rw [any_idx])
theorem conO_spec (B : EvalBodies0 E P) {k : Nat} {cs : List AV} {p : Ex → Bool} (l : List Ex) (hl : l.length < 4611686018427387904) (hcs : AV.closedL cs) (hp : ∀ a ∈ l, FX E P k ([a.enc] ++ cs) (Bo (p a))) :
    FX E P 165 [.slN (Ex.encL l) l.length, .fn k [] cs] (Bo (l.any p)) := by
  refine FX.of' ⟨Ex.encL_closed l, ⟨trivial, hcs⟩, trivial⟩ trivial fun n R hR => B.conO _ _ _ _ ?_
  unfold F.slices_ContainsFunc_expr_Or_expr_Expr
  refine wCall.fx (ixF_spec (.inr rfl) B.ixO l hl hcs hp) fun n => ?_
  simp only [nd0, Y1n, Y1o, Y1p, Y1q, Y1w, Y1x, Y1y, Y1z, Y20, Y21, Y28, Y2a, AV.cells?, Nat.reduceAdd, Nat.reduceMul]
  exact hR _ _ (by rw [any_idx])
theorem all_any {l : List Ex} {p : Ex → Bool} : (!(l.any fun x => !p x)) = l.all p := by
  rw [Bool.eq_iff_iff]; simp
end
end Go.Sc
namespace Go.Sc
open Go
set_option linter.unusedSimpArgs false
set_option linter.unusedVariables false
/-! ### how deep -/
/-! ### what stands behind -/
def T9 (r : Str) : Prop := r = [] ∨ ∃ c r', r = c :: r' ∧ (c = 32 ∨ c = 41)
def fnb (r : Str) : Option UInt8 := (r.dropWhile (· == 32)).head?
def TO (r : Str) : Prop := T9 r ∧ fnb r ≠ some 38 ∧ fnb r ≠ some 124
/-! ### names -/
/-! ### blanks ahead count for nothing -/
end Go.Sc
namespace Go.Sc
set_option linter.unusedSimpArgs false
open Go Go.RowKit
section
variable {E : Env} {P : Program}
theorem indexByte_idx (c : UInt8) : ∀ s : Str, Lib.indexByte s c = idx s c
  | [] => by simp [Lib.indexByte, idx]
  | x :: s => by
    have ih := indexByte_idx c s
    unfold Lib.indexByte
    by_cases h : x = c
    · subst h; simp [idx]
    · have h' : ¬ c = x := fun e => h e.symm
      have hb : (x == c) = false := by simpa using h
      by_cases hm : c ∈ s
      · simp [idx, hm, h, h', ih, List.idxOf_cons, hb] <;> omega
      · simp [idx, hm, h, h', ih]
theorem FX.indexByte {k : Nat} {fn : Func} (hf : P.funcs[E.fn k]? = some fn) (hn : (fn.name == "runtime.NumGoroutine") = false) (hb : fn.body.isNone = false)
    (h : ∀ (s : ByteArray) (c : Int) (w : World), Calls P (E.fn k) #[.string s, .int .u8 c] w fun e w' => e = .returned (.int .i64 (Lib.indexByte s.data.toList c.toNat.toUInt8)) ∧ w' = w) (s : Str) (c : UInt8) : FX E P k [S s, By c] (Z (idx s c)) := by
  refine FX.ofCalls hf hn hb (by simp [AV.closedL, AV.closed]) (by simp [AV.flat]) (by simp [AV.closed]) fun cx vs _ _ hv => ?_
  simp only [LRel, VRel] at hv
  obtain ⟨v0, _, rfl, rfl, v1, _, rfl, rfl, rfl⟩ := hv
  refine (h ⟨s.toArray⟩ c.toNat cx.w).mono ?_
  rintro e w' ⟨rfl, rfl⟩
  refine ⟨_, rfl, Below.refl _ _, ?_⟩
  have e1 : (((c.toNat : Nat) : Int).toNat).toUInt8 = c := by simp
  rw [e1, indexByte_idx]
  simp [VRel]
end
end Go.Sc
namespace Go.Sc
open Go Go.RowKit Go.Sort Go.Proofs
set_option linter.unusedSimpArgs false
set_option linter.unusedVariables false
section
variable {E : Env} {P : Program} {c : Cx} {H : AH}
theorem HRel.more (h : HRel E c H) (os : Array Obj) : HRel E { c with w := grow c.w os } H ∧ Later c { c with w := grow c.w os } := by
  have hsame : ∀ k, k < c.w.heap.size → (grow c.w os).heap[k]? = c.w.heap[k]? := fun k hk => by
    show (c.w.heap ++ os)[k]? = _
    rw [Array.getElem?_append_left hk]
  have hsz : c.w.heap.size ≤ (grow c.w os).heap.size := by show c.w.heap.size ≤ (c.w.heap ++ os).size; simp
  have hL : Later c { c with w := grow c.w os } := {
    le := ⟨Nat.le_refl _, fun b hb => ⟨hb, hsame b (h.fzlt b hb)⟩, fun k j hk => ⟨.inr hk, cell_of_heap (hsame k (h.fclt k j hk)) _ _⟩, fun b g _ e => ⟨e, rfl, rfl, rfl, rfl⟩, fun _ _ _ _ _ hj => hj⟩
    os := rfl
    tape := rfl
    output := rfl
    size := hsz
    keep := fun k hk _ => hsame k hk
    own := fun b hb => .inl ⟨b, hb, rfl⟩
    fz := fun k hk => .inl hk
    fc := fun k j hk => .inl hk }
  exact ⟨⟨h.ctr, h.out, fun b x e => (h.blk b x e).mono hL.le rfl rfl rfl rfl rfl (fun hd => hsame _ (h.lt b (h.live' e hd))), h.apart, h.solid, h.inj, fun b hb => Nat.lt_of_lt_of_le (h.lt b hb) hsz, fun b hb => Nat.lt_of_lt_of_le (h.fzlt b hb) hsz, fun b j hb => Nat.lt_of_lt_of_le (h.fclt b j hb) hsz, h.globLe hL.le⟩, hL⟩
theorem rel_texts : ∀ {l : List Str} {vs : List Value}, LRel E c (l.map fun s => S s) vs → vs = l.map encStr
  | [], vs, h => by simpa [LRel] using h
  | s :: l, vs, h => by
    simp only [List.map_cons, LRel] at h
    obtain ⟨u, us, rfl, hu, h⟩ := h
    simp only [VRel] at hu
    rw [rel_texts h, hu]
    rfl
theorem texts_rel : ∀ {l : List Str}, LRel E c (l.map fun s => S s) (l.map encStr)
  | [] => by simp [LRel]
  | s :: l => by simp only [List.map_cons, LRel]; exact ⟨_, _, rfl, by simp only [VRel], texts_rel⟩
/-- where a row of texts lies -/
theorem HRel.row (h : HRel E c H) {b g : Nat} {l : List Str} (hb : H.bs[b]? = some (.cells g 1 (l.map fun s => S s))) : ∃ p0 rest e, c.w.heap[c.al b]? = some (.cells (p0 ++ l.map encStr ++ rest).toArray e (0, 0)) ∧ p0.length = c.base b ∧ c.gen b = some g ∧ c.sz b = 1 ∧ c.csz b = (p0 ++ l.map encStr ++ rest).length := by
  have hB := h.blk b _ hb
  simp only [BRel] at hB
  obtain ⟨h1, h2, h3, arr, e, h4, h5, p0, pre, rest, rfl, h7, h8⟩ := hB
  have := rel_texts h8
  subst this
  exact ⟨p0, rest, e, h4, h7, h2, h3, h5⟩
theorem HRel.holds (h : HRel E c H) {b g : Nat} {l : List Str} (hb : H.bs[b]? = some (.cells g 1 (l.map fun s => S s))) : Holds encStr c.w (c.al b) (c.base b) l.toArray := by
  obtain ⟨p0, rest, e, h4, h7, -⟩ := h.row hb
  intro j hj
  simp at hj
  rw [← h7]
  refine ⟨?_, ?_⟩
  · simp only [World.cell?, h4]
    simp [List.getElem?_append_right, List.getElem?_append_left, hj]
  · simp [World.frozen?, h4]
theorem HRel.putTexts (h : HRel E c H) {b g : Nat} {l l' : List Str} (hl : l'.length = l.length) (hb : H.bs[b]? = some (.cells g 1 (l.map fun s => S s))) (q : Nat) (os : Array Obj) :
    HRel E { c with w := grow (putRow encStr (Sort.ahead c.w q) (c.al b) (c.base b) l'.toArray) os } ⟨H.bs.set b (.cells g 1 (l'.map fun s => S s)), H.ctr⟩ ∧ Later c { c with w := grow (putRow encStr (Sort.ahead c.w q) (c.al b) (c.base b) l'.toArray) os } := by
  obtain ⟨p0, rest, e, h4, h7, -⟩ := h.row hb
  have hlt := h.lt (b := b) (h.live' hb)
  have hheap : (putRow encStr (Sort.ahead c.w q) (c.al b) (c.base b) l'.toArray).heap = c.w.heap.setIfInBounds (c.al b) (.cells (p0 ++ l'.map encStr ++ rest).toArray e (0, 0)) := by
    have hput : putCells encStr (c.base b) l'.toArray (p0 ++ l.map encStr ++ rest).toArray = (p0 ++ l'.map encStr ++ rest).toArray := by
      apply Array.ext_getElem?
      intro k
      unfold putCells
      simp only [Array.getElem?_mapIdx, List.size_toArray, List.getElem?_toArray, ← h7]
      by_cases h1 : k < p0.length
      · rw [List.append_assoc, List.append_assoc, List.getElem?_append_left h1, List.getElem?_append_left h1]
        have : ¬ (p0.length ≤ k ∧ k < p0.length + l'.length) := by omega
        simp only [if_neg this]
        cases p0[k]? <;> rfl
      · by_cases h2 : k < p0.length + l'.length
        · have e1 : (p0 ++ l'.map encStr ++ rest)[k]? = some (encStr (l'[k - p0.length]'(by omega))) := by
            rw [List.getElem?_append_left (by simp; omega), List.getElem?_append_right (by omega), List.getElem?_map, List.getElem?_eq_getElem (by omega)]; rfl
          have e2 : ∃ v, (p0 ++ l.map encStr ++ rest)[k]? = some v := ⟨_, List.getElem?_eq_getElem (by simp; omega)⟩
          obtain ⟨v, e2⟩ := e2
          rw [e1, e2]
          have : (p0.length ≤ k ∧ k < p0.length + l'.length) := by omega
          simp only [Option.map_some, if_pos this]
          congr 2
          simp [getElem!_pos, show k - p0.length < l'.length by omega]
        · have : ¬ (p0.length ≤ k ∧ k < p0.length + l'.length) := by omega
          simp only [if_neg this]
          rw [List.getElem?_append_right (by simp; omega), List.getElem?_append_right (by simp; omega)]
          simp only [List.length_append, List.length_map, hl]
          cases rest[k - (p0.length + l.length)]? <;> rfl
    apply Array.ext_getElem?
    intro k
    unfold putRow mapBlock
    show (c.w.heap.modify (c.al b) _)[k]? = _
    rw [Array.getElem?_modify, Array.getElem?_setIfInBounds]
    by_cases hk : c.al b = k
    · subst hk
      rw [if_pos rfl, if_pos rfl, h4, if_pos hlt]
      simp only [Option.map_some, onCells, hput]
    · rw [if_neg hk, if_neg hk]
  obtain ⟨k1, k2⟩ := h.setRow (w' := putRow encStr (Sort.ahead c.w q) (c.al b) (c.base b) l'.toArray) hb h4 h7 (pre' := l'.map encStr) (by simp [hl]) texts_rel hheap rfl rfl rfl
  obtain ⟨k3, k4⟩ := k1.more os
  exact ⟨k3, k2.trans k4⟩
/-- a walk of the kit's, as a call of ours -/
theorem ACalls.ofWalk {k : Nat} {fn : Func} {args : List AV} {R : Kt} (hf : P.funcs[E.fn k]? = some fn) (hn : (fn.name == "runtime.NumGoroutine") = false) (hb : fn.body.isNone = false)
    (h : ∀ (c : Cx) (vs : List Value), HRel E c H → LRel E c args vs → Calls P (E.fn k) vs.toArray c.w fun e w' => ∃ v r c' H', e = .returned v ∧ c'.w = w' ∧ R r H' ∧ HRel E c' H' ∧ VRel E c' r v ∧ Later c c') : ACalls E P k args H R := by
  intro c vs hH hv o a next Q hnext
  have hrun : (callFunc (E.fn k) vs.toArray).run P c.w = .ok (.enter (E.fn k) vs.toArray) c.w := by
    have hn' : ¬ ((fn.name == "runtime.NumGoroutine") = true) := by rw [hn]; simp
    have hb' : ¬ (fn.body.isNone = true) := by rw [hb]; simp
    simp only [callFunc, Sem.run_bind, run_program, Result.andThen_ok, hf, if_neg hn', if_neg hb', Sem.run_pure]
  rw [hrun]
  simp only [Oper.upon]
  refine (h c vs hH hv).mono ?_
  rintro e w' ⟨v, r, c', H', rfl, h1, h2, h3, h4, h5⟩
  exact hnext v w' ⟨r, c', H', h1, h2, h3, h4, h5⟩
def sortS (l : List Str) : List Str := l.mergeSort fun x y => decide (x ≤ y)
theorem sortS_length (l : List Str) : (sortS l).length = l.length := by simp [sortS]
/-- slices.Sort of texts -/
theorem sort_calls {k : Nat} {fn : Func} (hf : P.funcs[E.fn k]? = some fn) (hn : (fn.name == "runtime.NumGoroutine") = false) (hbd : fn.body.isNone = false)
    (h0 : ∀ (p : Option Addr) (cap : Nat) (w : World), Calls P (E.fn k) #[.slice p 0 cap] w fun e w' => e = .returned (.tuple #[]) ∧ w' = w)
    (h1 : ∀ (blk off cap : Nat) (ss : List (List UInt8)) (w : World), Holds encStr w blk off ss.toArray → blk < w.heap.size → ss.length < 4611686018427387904 → Calls P (E.fn k) #[.slice (some ⟨blk, off, none⟩) ss.length cap] w fun e w' =>
      e = .returned (.tuple #[]) ∧ ∃ n os, w' = grow (putRow encStr (Sort.ahead w n) blk off (ss.mergeSort fun x y => decide (x ≤ y)).toArray) os)
    {b g : Nat} {l : List Str} (hl : l.length < 4611686018427387904) (hb : H.bs[b]? = some (.cells g 1 (l.map fun s => S s))) : ACalls E P k [.slL b 0 l.length g] H fun r H' => r = .tup [] ∧ H' = ⟨H.bs.set b (.cells g 1 ((sortS l).map fun s => S s)), H.ctr⟩ := by
  refine ACalls.ofWalk hf hn hbd fun c vs hH hv => ?_
  obtain ⟨v, rfl, hr⟩ := hv.one'
  simp only [VRel] at hr
  obtain ⟨_, p, cap, rfl, hcap, hp⟩ := hr
  obtain ⟨p0, rest, e, h4, h7, hg, _⟩ := hH.row hb
  rcases hp hg with hz | ⟨rfl, _⟩
  · subst hz
    have hl0 : l = [] := List.eq_nil_of_length_eq_zero (by omega)
    subst hl0
    refine (h0 (some p) 0 c.w).mono ?_
    rintro e w' ⟨rfl, rfl⟩
    obtain ⟨k1, k2⟩ := hH.more #[]
    refine ⟨_, .tup [], c, H, rfl, rfl, ⟨rfl, ?_⟩, hH, by simp [VRel, LRel], Later.refl c⟩
    have : sortS [] = [] := by simp [sortS]
    rw [this]
    have hlt := lt_of_get hb
    have : H.bs[b] = .cells g 1 (([] : List Str).map fun s => S s) := by rw [List.getElem?_eq_getElem hlt] at hb; injection hb
    rw [← this, List.set_getElem_self]
  · refine (h1 (c.al b) (c.base b) cap l c.w (hH.holds hb) (hH.lt b (hH.live' hb)) hl).mono ?_
    rintro e w' ⟨rfl, n, os, rfl⟩
    obtain ⟨k1, k2⟩ := hH.putTexts (l' := sortS l) (sortS_length l) hb n os
    exact ⟨_, .tup [], _, _, rfl, rfl, ⟨rfl, rfl⟩, k1, by simp [VRel, LRel], k2⟩
def packS (l : List Str) : List Str := Lib.compact l
theorem packS_length (l : List Str) : (packS l).length ≤ l.length := by
  have h := List.length_filter_le (Lib.keeps l.toArray) (List.range l.length)
  simp only [packS, Lib.compact, Lib.compactUpTo, List.length_map]
  simpa using h
theorem packS_mem {l : List Str} {x : Str} : x ∈ packS l ↔ x ∈ l := by
  simp only [packS, Lib.compact, Lib.compactUpTo, List.mem_map, List.mem_filter, List.mem_range]
  constructor
  · rintro ⟨j, ⟨hj, _⟩, rfl⟩
    have : (l.toArray)[j]! = l[j] := by simp [getElem!_pos, hj]
    rw [this]; exact List.getElem_mem hj
  · intro hx
    obtain ⟨j, hj, rfl⟩ := List.getElem_of_mem hx
    induction j with
    | zero => exact ⟨0, ⟨hj, by simp [Lib.keeps]⟩, by simp [getElem!_pos, hj]⟩
    | succ j ih =>
      by_cases hk : Lib.keeps l.toArray (j + 1) = true
      · exact ⟨j + 1, ⟨hj, hk⟩, by simp [getElem!_pos, hj]⟩
      · have heq : (l.toArray)[j + 1]! = (l.toArray)[j]! := by
          simp only [Lib.keeps] at hk
          simpa using hk
        have h1 : (l.toArray)[j + 1]! = l[j + 1] := by simp [getElem!_pos, hj]
        have h2 : (l.toArray)[j]! = l[j] := by simp [getElem!_pos, show j < l.length by omega]
        obtain ⟨i, hi, he⟩ := ih (by omega) (List.getElem_mem (by omega))
        exact ⟨i, hi, by rw [he, ← h2, ← heq, h1]⟩
theorem sortS_mem {l : List Str} {x : Str} : x ∈ sortS l ↔ x ∈ l := by simp [sortS]
/-- slices.Compact of texts -/
theorem compact_calls {k : Nat} {fn : Func} (hf : P.funcs[E.fn k]? = some fn) (hn : (fn.name == "runtime.NumGoroutine") = false) (hbd : fn.body.isNone = false)
    (h0 : ∀ (a : Option Addr) (cap : Nat) (w : World), Calls P (E.fn k) #[.slice a 0 cap] w fun e w' => e = .returned (.slice a 0 cap) ∧ w' = w)
    (h1 : ∀ (blk off cap : Nat) (zs : List (List UInt8)) (w : World), Holds encStr w blk off zs.toArray → zs.length ≤ 9223372036854775807 → zs.length ≤ cap → Calls P (E.fn k) #[.slice (some ⟨blk, off, none⟩) zs.length cap] w fun e w' =>
      e = .returned (.slice (some ⟨blk, off, none⟩) (Lib.compact zs).length cap) ∧ ∃ q, w' = putRow encStr (Sort.ahead w q) blk off (Lib.compact zs ++ List.replicate (zs.length - (Lib.compact zs).length) []).toArray)
    {b g : Nat} {l : List Str} (hl : l.length < 4611686018427387904) (hb : H.bs[b]? = some (.cells g 1 (l.map fun s => S s))) : ACalls E P k [.slL b 0 l.length g] H fun r H' => r = .slL b 0 (packS l).length g ∧ H' = ⟨H.bs.set b (.cells g 1 ((packS l ++ List.replicate (l.length - (packS l).length) []).map fun s => S s)), H.ctr⟩ := by
  refine ACalls.ofWalk hf hn hbd fun c vs hH hv => ?_
  obtain ⟨v, rfl, hr⟩ := hv.one'
  simp only [VRel] at hr
  obtain ⟨hgl, p, cap, rfl, hcap, hp⟩ := hr
  obtain ⟨p0, rest, e, h4, h7, hg, _⟩ := hH.row hb
  have hpl := packS_length l
  rcases hp hg with hz | ⟨rfl, hroom⟩
  · subst hz
    have hl0 : l = [] := List.eq_nil_of_length_eq_zero (by omega)
    subst hl0
    have hp0 : packS [] = [] := List.eq_nil_of_length_eq_zero (by simpa using hpl)
    refine (h0 (some p) 0 c.w).mono ?_
    rintro e w' ⟨rfl, rfl⟩
    refine ⟨_, .slL b 0 (packS []).length g, c, H, rfl, rfl, ⟨rfl, ?_⟩, hH, ?_, Later.refl c⟩
    · rw [hp0]
      have hlt := lt_of_get hb
      have : H.bs[b] = .cells g 1 (([] : List Str).map fun s => S s) := by rw [List.getElem?_eq_getElem hlt] at hb; injection hb
      simp only [List.length_nil, Nat.sub_self, List.replicate_zero, List.append_nil]
      rw [← this, List.set_getElem_self]
    · simp only [VRel]
      exact ⟨hgl, p, 0, by rw [hp0]; rfl, by rw [hp0]; exact Nat.le_refl _, fun _ => .inl rfl⟩
  · refine (h1 (c.al b) (c.base b) cap l c.w (hH.holds hb) (by omega) hcap).mono ?_
    rintro e w' ⟨rfl, q, rfl⟩
    obtain ⟨k1, k2⟩ := hH.putTexts (l' := packS l ++ List.replicate (l.length - (packS l).length) []) (by simp; omega) hb q #[]
    rw [grow_empty] at k1 k2
    refine ⟨_, .slL b 0 (packS l).length g, _, _, rfl, rfl, ⟨rfl, rfl⟩, k1, ?_, k2⟩
    simp only [VRel]
    exact ⟨hgl, _, cap, rfl, Nat.le_trans hpl hcap, fun _ => .inr ⟨rfl, hroom⟩⟩
theorem FX.sortNil {k : Nat} {fn : Func} (hf : P.funcs[E.fn k]? = some fn) (hn : (fn.name == "runtime.NumGoroutine") = false) (hbd : fn.body.isNone = false)
    (h0 : ∀ (p : Option Addr) (cap : Nat) (w : World), Calls P (E.fn k) #[.slice p 0 cap] w fun e w' => e = .returned (.tuple #[]) ∧ w' = w) : FX E P k [nilS] (.tup []) := by
  refine FX.ofCalls hf hn hbd ⟨trivial, trivial⟩ trivial trivial fun c vs _ _ hv => ?_
  obtain ⟨v, rfl, hr⟩ := hv.one'
  simp only [VRel] at hr
  subst hr
  refine (h0 none 0 c.w).mono ?_
  rintro e w' ⟨rfl, rfl⟩
  exact ⟨_, rfl, Below.refl _ _, by simp [VRel, LRel]⟩
theorem FX.compactNil {k : Nat} {fn : Func} (hf : P.funcs[E.fn k]? = some fn) (hn : (fn.name == "runtime.NumGoroutine") = false) (hbd : fn.body.isNone = false)
    (h0 : ∀ (a : Option Addr) (cap : Nat) (w : World), Calls P (E.fn k) #[.slice a 0 cap] w fun e w' => e = .returned (.slice a 0 cap) ∧ w' = w) : FX E P k [nilS] nilS := by
  refine FX.ofCalls hf hn hbd ⟨trivial, trivial⟩ trivial trivial fun c vs _ _ hv => ?_
  obtain ⟨v, rfl, hr⟩ := hv.one'
  simp only [VRel] at hr
  subst hr
  refine (h0 none 0 c.w).mono ?_
  rintro e w' ⟨rfl, rfl⟩
  exact ⟨_, rfl, Below.refl _ _, by simp [VRel]⟩
end
end Go.Sc
namespace Go.Sc.F
open Go Go.Sc
set_option linter.unusedVariables false
/-- (*signalbox/signalboxref.Expr).Eval -/
def pref_Expr_Eval (E : Env) (P : Program) (a0 a1 a2 : AV) (H : AH) (R : Kt) : Prop :=
  wGet (nilA a0) H fun t11 H =>
  wGet (faddr 0 t11) H fun t12 H =>
  wGet (load1 t12 H) H fun t13 H =>
  wGet (binA .eql t13 (.val (.string ⟨#[49]⟩))) H fun t15 H =>
  wIf t15 (
    R (.val (.bool true)) H) (
    wGet (binA .eql t13 (.val (.string ⟨#[98, 105, 116]⟩))) H fun t17 H =>
    wIf t17 (
      wGet (nilA a0) H fun t20 H =>
      wGet (faddr 1 t20) H fun t21 H =>
      wGet (load1 t21 H) H fun t22 H =>
      wCallV E P a1 [t22] H fun t23 H =>
      R t23 H) (
      wGet (binA .eql t13 (.val (.string ⟨#[94]⟩))) H fun t25 H =>
      wIf t25 (
        wGet (nilA a0) H fun t28 H =>
        wGet (faddr 1 t28) H fun t29 H =>
        wGet (load1 t29 H) H fun t30 H =>
        wCallV E P a1 [t30] H fun t31 H =>
        wGuard t31 true H (fun k => k a2 H) fun t33 H =>
        wGuard t31 true H (fun k => k a0 H) fun t34 H =>
        wGuard t31 true H (fun k => wGet (nilA t34) H k) fun t35 H =>
        wGuard t31 true H (fun k => wGet (faddr 1 t35) H k) fun t36 H =>
        wGuard t31 true H (fun k => wGet (load1 t36 H) H k) fun t37 H =>
        wGuard t31 true H (fun k => wCallV E P t33 [t37] H k) fun t38 H =>
        wGuard t31 true H (fun k => wGet (unA .not t38) H k) fun t39 H =>
        wGet (pickA t31 t39 (.val (.bool false))) H fun t40 H =>
        R t40 H) (
        wGet (binA .eql t13 (.val (.string ⟨#[126]⟩))) H fun t42 H =>
        wIf t42 (
          wGet (nilA a0) H fun t45 H =>
          wGet (faddr 1 t45) H fun t46 H =>
          wGet (load1 t46 H) H fun t47 H =>
          wCallV E P a2 [t47] H fun t48 H =>
          wGuard t48 true H (fun k => k a1 H) fun t50 H =>
          wGuard t48 true H (fun k => k a0 H) fun t51 H =>
          wGuard t48 true H (fun k => wGet (nilA t51) H k) fun t52 H =>
          wGuard t48 true H (fun k => wGet (faddr 1 t52) H k) fun t53 H =>
          wGuard t48 true H (fun k => wGet (load1 t53 H) H k) fun t54 H =>
          wGuard t48 true H (fun k => wCallV E P t50 [t54] H k) fun t55 H =>
          wGuard t48 true H (fun k => wGet (unA .not t55) H k) fun t56 H =>
          wGet (pickA t48 t56 (.val (.bool false))) H fun t57 H =>
          R t57 H) (
          wGet (binA .eql t13 (.val (.string ⟨#[33]⟩))) H fun t59 H =>
          wIf t59 (
            wGet (nilA a0) H fun t61 H =>
            wGet (faddr 2 t61) H fun t62 H =>
            wGet (load1 t62 H) H fun t63 H =>
            wGet (iaddr 1 t63 (.val (.int .i64 0))) H fun t64 H =>
            wGet (load1 t64 H) H fun t65 H =>
            wCall E P 180 [t65, a1, a2] H fun t68 H =>
            wGet (unA .not t68) H fun t69 H =>
            R t69 H) (
            wJoin 1 (fun J1 =>
              wGet (binA .eql t13 (.val (.string ⟨#[38]⟩))) H fun t71 H =>
              wIf t71 (
                J1 t71 H) (
                wGet (binA .eql t13 (.val (.string ⟨#[124]⟩))) H fun t72 H =>
                J1 t72 H)) fun t70 H =>
              wIf t70 (
                wGet (nilA a0) H fun t74 H =>
                wGet (faddr 2 t74) H fun t75 H =>
                wGet (load1 t75 H) H fun t76 H =>
                wGet (lenA t76) H fun t77 H =>
                wLoop 2 (fun I2 => I2 (.val (.int .i64 0)) (.val (.int .i64 0)) H) fun I2 t7 t78 H =>
                  wGet (binA .lss t78 t77) H fun t79 H =>
                  wIf t79 (
                    wJoin 1 (fun J3 =>
                      wGet (iaddr 1 t76 t78) H fun t80 H =>
                      wGet (load1 t80 H) H fun t81 H =>
                      wCall E P 180 [t81, a1, a2] H fun t85 H =>
                      wIf t85 (
                        wGet (binA .add t7 (.val (.int .i64 1))) H fun t87 H =>
                        J3 t87 H) (
                        J3 t7 H)) fun t7_1 H =>
                      wGet (binA .add t78 (.val (.int .i64 1))) H fun t88 H =>
                      I2 t7_1 t88 H) (
                    wGet (nilA a0) H fun t90 H =>
                    wGet (faddr 0 t90) H fun t91 H =>
                    wGet (load1 t91 H) H fun t92 H =>
                    wGet (binA .eql t92 (.val (.string ⟨#[124]⟩))) H fun t93 H =>
                    wGuard t93 true H (fun k => k t7 H) fun t95 H =>
                    wGuard t93 true H (fun k => wGet (binA .gtr t95 (.val (.int .i64 0))) H k) fun t96 H =>
                    wGet (pickA t93 t96 (.val (.bool false))) H fun t97 H =>
                    wGuard t97 false H (fun k => k t7 H) fun t99 H =>
                    wGuard t97 false H (fun k => k a0 H) fun t100 H =>
                    wGuard t97 false H (fun k => wGet (nilA t100) H k) fun t101 H =>
                    wGuard t97 false H (fun k => wGet (faddr 2 t101) H k) fun t102 H =>
                    wGuard t97 false H (fun k => wGet (load1 t102 H) H k) fun t103 H =>
                    wGuard t97 false H (fun k => wGet (lenA t103) H k) fun t104 H =>
                    wGuard t97 false H (fun k => wGet (binA .eql t99 t104) H k) fun t105 H =>
                    wGet (pickA t97 (.val (.bool true)) t105) H fun t106 H =>
                    R t106 H)) (
                R (.val (.bool false)) H))))))

/-- signalbox/expr.Names -/
def expr_Names (E : Env) (P : Program) (a0 : AV) (H : AH) (R : Kt) : Prop :=
  wCall E P 190 [a0, (.fn 189 [] [])] H fun t4 H =>
  R t4 H

/-- (*signalbox/signalboxref.Expr).Names -/
def pref_Expr_Names (E : Env) (P : Program) (a0 : AV) (H : AH) (R : Kt) : Prop :=
  wCall E P 191 [a0, (.val (.string ⟨#[98, 105, 116, 94, 126]⟩))] H fun t4 H =>
  R t4 H

/-- signalbox/expr.Edges -/
def expr_Edges (E : Env) (P : Program) (a0 : AV) (H : AH) (R : Kt) : Prop :=
  wCall E P 190 [a0, (.fn 192 [] [])] H fun t4 H =>
  R t4 H

/-- (*signalbox/signalboxref.Expr).Edges -/
def pref_Expr_Edges (E : Env) (P : Program) (a0 : AV) (H : AH) (R : Kt) : Prop :=
  wCall E P 191 [a0, (.val (.string ⟨#[94, 126]⟩))] H fun t4 H =>
  R t4 H

/-- signalbox/expr.sorted -/
def expr_sorted (E : Env) (P : Program) (a0 a1 : AV) (H : AH) (R : Kt) : Prop :=
  wNew 1 (AV.cells? a1) H fun t3 H =>
  wNew 1 (some [(.val (.slice none 0 0))]) H fun t5 H =>
  wCall E P 161 [a0, (.fn 193 [] [t3, t5])] H fun t8 H =>
  wGet (load1 t5 H) H fun t9 H =>
  wCall E P 194 [t9] H fun t10 H =>
  wGet (load1 t5 H) H fun t11 H =>
  wCall E P 195 [t11] H fun t12 H =>
  R t12 H

/-- signalbox/expr.Names$1 -/
def expr_Names_c1 (E : Env) (P : Program) (a0 : AV) (H : AH) (R : Kt) : Prop :=
  wGet (assertA 14 (.val (.string ⟨#[]⟩)) a0) H fun t7 H =>
  wGet (extractA t7 1) H fun t8 H =>
  wGet (extractA t7 0) H fun t9 H =>
  wIf t8 (
    R t9 H) (
    wGet (assertA 12 (.val (.string ⟨#[]⟩)) a0) H fun t11 H =>
    wGet (extractA t11 1) H fun t12 H =>
    wGet (extractA t11 0) H fun t13 H =>
    wIf t12 (
      R t13 H) (
      wGet (assertA 13 (.val (.string ⟨#[]⟩)) a0) H fun t15 H =>
      wGet (extractA t15 1) H fun t16 H =>
      wGet (extractA t15 0) H fun t17 H =>
      wIf t16 (
        R t17 H) (
        R (.val (.string ⟨#[]⟩)) H)))

/-- (*signalbox/signalboxref.Expr).named -/
def pref_Expr_named (E : Env) (P : Program) (a0 a1 : AV) (H : AH) (R : Kt) : Prop :=
  wNew 1 (AV.cells? a1) H fun t3 H =>
  wNew 1 (some [(.val (.slice none 0 0))]) H fun t5 H =>
  wNew 1 (some [(.val (.nilFunc))]) H fun t6 H =>
  wPut (store1 t6 (.fn 196 [] [t3, t5, t6]) H) fun _u H =>
  wGet (load1 t6 H) H fun t8 H =>
  wCallV E P t8 [a0] H fun t10 H =>
  wGet (load1 t5 H) H fun t11 H =>
  R t11 H

/-- signalbox/expr.Edges$1 -/
def expr_Edges_c1 (E : Env) (P : Program) (a0 : AV) (H : AH) (R : Kt) : Prop :=
  wGet (assertA 12 (.val (.string ⟨#[]⟩)) a0) H fun t6 H =>
  wGet (extractA t6 1) H fun t7 H =>
  wGet (extractA t6 0) H fun t8 H =>
  wIf t7 (
    R t8 H) (
    wGet (assertA 13 (.val (.string ⟨#[]⟩)) a0) H fun t10 H =>
    wGet (extractA t10 1) H fun t11 H =>
    wGet (extractA t10 0) H fun t12 H =>
    wIf t11 (
      R t12 H) (
      R (.val (.string ⟨#[]⟩)) H))

/-- signalbox/expr.sorted$1 -/
def expr_sorted_c1 (E : Env) (P : Program) (a0 a1 a2 : AV) (H : AH) (R : Kt) : Prop :=
  wGet (load1 a1 H) H fun t5 H =>
  wCallV E P t5 [a0] H fun t7 H =>
  wGet (binA .neq t7 (.val (.string ⟨#[]⟩))) H fun t9 H =>
  wIf t9 (
    wGet (load1 a2 H) H fun t10 H =>
    wNewS 1 1 (fillA (List.replicate 1 [(.val (.string ⟨#[]⟩))]).flatten [(0, 1, t7)]) H fun t12 H =>
    wApp 1 16 t10 t12 H fun t13 H =>
    wPut (store1 a2 t13 H) fun _u H =>
    R (.tup []) H) (
    R (.tup []) H)

/-- (*signalbox/signalboxref.Expr).named$1 -/
def pref_Expr_named_c1 (E : Env) (P : Program) (a0 a1 a2 a3 : AV) (H : AH) (R : Kt) : Prop :=
  wJoin 0 (fun J1 =>
    wGet (nilA a0) H fun t9 H =>
    wGet (faddr 1 t9) H fun t10 H =>
    wGet (load1 t10 H) H fun t11 H =>
    wGet (binA .neq t11 (.val (.string ⟨#[]⟩))) H fun t12 H =>
    wGuard t12 true H (fun k => wGet (load1 a1 H) H k) fun t14 H =>
    wGuard t12 true H (fun k => k a0 H) fun t15 H =>
    wGuard t12 true H (fun k => wGet (nilA t15) H k) fun t16 H =>
    wGuard t12 true H (fun k => wGet (faddr 0 t16) H k) fun t17 H =>
    wGuard t12 true H (fun k => wGet (load1 t17 H) H k) fun t18 H =>
    wGuard t12 true H (fun k => wCall E P 199 [t14, t18] H k) fun t19 H =>
    wGet (pickA t12 t19 (.val (.bool false))) H fun t20 H =>
    wIf t20 (
      wLoop 1 (fun I2 => I2 (.val (.int .i64 0)) H) fun I2 t5 H =>
        wGet (load1 a2 H) H fun t22 H =>
        wGet (lenA t22) H fun t23 H =>
        wGet (binA .lss t5 t23) H fun t24 H =>
        wGuard t24 true H (fun k => wGet (load1 a2 H) H k) fun t26 H =>
        wGuard t24 true H (fun k => k t5 H) fun t27 H =>
        wGuard t24 true H (fun k => wGet (iaddr 1 t26 t27) H k) fun t28 H =>
        wGuard t24 true H (fun k => wGet (load1 t28 H) H k) fun t29 H =>
        wGuard t24 true H (fun k => k a0 H) fun t30 H =>
        wGuard t24 true H (fun k => wGet (nilA t30) H k) fun t31 H =>
        wGuard t24 true H (fun k => wGet (faddr 1 t31) H k) fun t32 H =>
        wGuard t24 true H (fun k => wGet (load1 t32 H) H k) fun t33 H =>
        wGuard t24 true H (fun k => wGet (binA .lss t29 t33) H k) fun t34 H =>
        wGet (pickA t24 t34 (.val (.bool false))) H fun t35 H =>
        wIf t35 (
          wGet (binA .add t5 (.val (.int .i64 1))) H fun t37 H =>
          I2 t37 H) (
          wGet (load1 a2 H) H fun t39 H =>
          wGet (lenA t39) H fun t40 H =>
          wGet (binA .eql t5 t40) H fun t41 H =>
          wGuard t41 false H (fun k => wGet (load1 a2 H) H k) fun t43 H =>
          wGuard t41 false H (fun k => k t5 H) fun t44 H =>
          wGuard t41 false H (fun k => wGet (iaddr 1 t43 t44) H k) fun t45 H =>
          wGuard t41 false H (fun k => wGet (load1 t45 H) H k) fun t46 H =>
          wGuard t41 false H (fun k => k a0 H) fun t47 H =>
          wGuard t41 false H (fun k => wGet (nilA t47) H k) fun t48 H =>
          wGuard t41 false H (fun k => wGet (faddr 1 t48) H k) fun t49 H =>
          wGuard t41 false H (fun k => wGet (load1 t49 H) H k) fun t50 H =>
          wGuard t41 false H (fun k => wGet (binA .neq t46 t50) H k) fun t51 H =>
          wGet (pickA t41 (.val (.bool true)) t51) H fun t52 H =>
          wIf t52 (
            wGet (load1 a2 H) H fun t53 H =>
            wNewS 1 1 (fillA (List.replicate 1 [(.val (.string ⟨#[]⟩))]).flatten [(0, 1, (.val (.string ⟨#[]⟩)))]) H fun t54 H =>
            wApp 1 16 t53 t54 H fun t55 H =>
            wPut (store1 a2 t55 H) fun _u H =>
            wGet (load1 a2 H) H fun t56 H =>
            wGet (binA .add t5 (.val (.int .i64 1))) H fun t58 H =>
            wGet (sliceA 1 t56 (some t58) none H) H fun t59 H =>
            wGet (load1 a2 H) H fun t60 H =>
            wGet (sliceA 1 t60 (some t5) none H) H fun t62 H =>
            wDo (copyA 1 t59 t62 H) fun t63 H =>
            wGet (load1 a2 H) H fun t64 H =>
            wGet (nilA a0) H fun t67 H =>
            wGet (faddr 1 t67) H fun t68 H =>
            wGet (load1 t68 H) H fun t69 H =>
            wGet (iaddr 1 t64 t5) H fun t70 H =>
            wPut (store1 t70 t69 H) fun _u H =>
            J1 H) (
            J1 H))) (
      J1 H)) fun H =>
    wGet (nilA a0) H fun t72 H =>
    wGet (faddr 2 t72) H fun t73 H =>
    wGet (load1 t73 H) H fun t74 H =>
    wGet (lenA t74) H fun t75 H =>
    wLoop 1 (fun I3 => I3 (.val (.int .i64 0)) H) fun I3 t76 H =>
      wGet (binA .lss t76 t75) H fun t77 H =>
      wIf t77 (
        wGet (iaddr 1 t74 t76) H fun t78 H =>
        wGet (load1 t78 H) H fun t79 H =>
        wGet (load1 a3 H) H fun t80 H =>
        wCallV E P t80 [t79] H fun t82 H =>
        wGet (binA .add t76 (.val (.int .i64 1))) H fun t83 H =>
        I3 t83 H) (
        R (.tup []) H)

end Go.Sc.F
namespace Go.Sc
open Go
set_option linter.unusedSimpArgs false
set_option linter.unusedVariables false
set_option linter.unnecessarySimpa false
def nmL (nf : Ex → Str) (x : Ex) : List Str := if nf x = [] then [] else [nf x]
mutual
/-- what is found in it, one after the other -/
def Ex.raw (nf : Ex → Str) : Ex → List Str
  | .not y => nmL nf (.not y) ++ y.raw nf
  | .and l => nmL nf (.and l) ++ Ex.rawL nf l
  | .or l => nmL nf (.or l) ++ Ex.rawL nf l
  | x => nmL nf x
def Ex.rawL (nf : Ex → Str) : List Ex → List Str
  | [] => []
  | x :: l => x.raw nf ++ Ex.rawL nf l
end
theorem Ex.rawL_append (nf : Ex → Str) : ∀ l m : List Ex, Ex.rawL nf (l ++ m) = Ex.rawL nf l ++ Ex.rawL nf m
  | [], m => by simp [Ex.rawL]
  | x :: l, m => by simp only [List.cons_append, Ex.rawL, Ex.rawL_append nf l m, List.append_assoc]
theorem nmL_len (nf : Ex → Str) (x : Ex) : (nmL nf x).length ≤ 1 := by unfold nmL; split <;> simp
mutual
theorem Ex.raw_len (nf : Ex → Str) : ∀ x : Ex, (x.raw nf).length ≤ x.size
  | .k _ => nmL_len nf _
  | .bit _ => nmL_len nf _
  | .rise _ => nmL_len nf _
  | .fall _ => nmL_len nf _
  | .not y => by have h1 := nmL_len nf (.not y); have h2 := Ex.raw_len nf y; simp only [Ex.raw, Ex.size, List.length_append]; omega
  | .and l => by have h1 := nmL_len nf (.and l); have h2 := Ex.rawL_len nf l; simp only [Ex.raw, Ex.size, List.length_append]; omega
  | .or l => by have h1 := nmL_len nf (.or l); have h2 := Ex.rawL_len nf l; simp only [Ex.raw, Ex.size, List.length_append]; omega
theorem Ex.rawL_len (nf : Ex → Str) : ∀ l : List Ex, (Ex.rawL nf l).length ≤ Ex.sizeL l
  | [] => by simp [Ex.rawL]
  | x :: l => by have h1 := Ex.raw_len nf x; have h2 := Ex.rawL_len nf l; simp only [Ex.rawL, Ex.sizeL, List.length_append]; omega
end
/-- what has been found so far -/
def SO (g0 : Nat) (l : List Str) (H : AH) : Prop := ∃ x tb c, H = ⟨.cells g0 1 [x] :: tb, c⟩ ∧ ((x = nilS ∧ l = [] ∧ tb = []) ∨ ∃ g1, x = .slL 1 0 l.length g1 ∧ tb = [.cells g1 1 (l.map fun s => S s)])
theorem ghost_drop {bs : List Blk} {n : Nat} {xs : List AV} (e : Blk) : Ghost xs ⟨bs ++ [e], n⟩ xs ⟨bs, n⟩ := by
  refine ghost_kill (H := ⟨bs ++ [e], n⟩) (H' := ⟨bs, n⟩) (S := fun i => decide (bs.length ≤ i)) rfl ?_ (FkL.same xs)
  have : ∀ (l : List Blk) (i : Nat), i + l.length = bs.length → KBL ⟨bs ++ [e], n⟩ (fun i => decide (bs.length ≤ i)) i (l ++ [e]) l := by
    intro l
    induction l with
    | nil =>
      intro i hi
      refine .cut fun j x hx => ?_
      cases j with
      | zero => exact .inl (by simp at hi ⊢; omega)
      | succ j => simp at hx
    | cons x l ih =>
      intro i hi
      simp only [List.length_cons] at hi
      exact .keep (by simp; omega) (KB.same x) (ih _ (by omega))
  exact this bs 0 (by omega)
structure SortedBodies (E : Env) (P : Program) : Prop where
  walk : Body2 E P 161 F.expr_walk
  sorted : Body2 E P 190 F.expr_sorted
  sorted1 : Body3 E P 193 F.expr_sorted_c1
  names : Body1 E P 181 F.expr_Names
  names1 : Body1 E P 189 F.expr_Names_c1
  edges : Body1 E P 184 F.expr_Edges
  edges1 : Body1 E P 192 F.expr_Edges_c1
  sortN : FX E P 194 [nilS] (.tup [])
  sortC : ∀ {H : AH} {b g : Nat} {l : List Str}, l.length < 4611686018427387904 → H.bs[b]? = some (.cells g 1 (l.map fun s => S s)) → ACalls E P 194 [.slL b 0 l.length g] H fun r H' => r = .tup [] ∧ H' = ⟨H.bs.set b (.cells g 1 ((sortS l).map fun s => S s)), H.ctr⟩
  compN : FX E P 195 [nilS] nilS
  compC : ∀ {H : AH} {b g : Nat} {l : List Str}, l.length < 4611686018427387904 → H.bs[b]? = some (.cells g 1 (l.map fun s => S s)) → ACalls E P 195 [.slL b 0 l.length g] H fun r H' => r = .slL b 0 (packS l).length g ∧ H' = ⟨H.bs.set b (.cells g 1 ((packS l ++ List.replicate (l.length - (packS l).length) []).map fun s => S s)), H.ctr⟩
section
variable {E : Env} {P : Program}
theorem look_spec (B : SortedBodies E P) {kn : Nat} {nf : Ex → Str} (hnf : ∀ y, FX E P kn [y.enc] (S (nf y))) {g0 : Nat} {l : List Str} (hl : l.length < 10000000) (y : Ex) {H : AH} (hH : SO g0 l H) :
    ACalls E P 193 [y.enc, .ptrF [.fn kn [] []] 0, .ptrL 0 0 g0] H fun r H' => r = .tup [] ∧ SO g0 (l ++ nmL nf y) H' := by
  obtain ⟨x, tb, c, rfl, ht⟩ := hH
  refine B.sorted1 _ _ _ _ _ ?_
  unfold F.expr_sorted_c1
  simp only [nd0, Y1n, Y1o, Y1p, Y1q, Y1w, Y1x, Y1y, Y1z, Y20, Y21, Y28, Y2a, AV.cells?, Nat.reduceAdd, Nat.reduceMul]
  refine wCallV.fx (fs := []) (cs := []) (hnf y) fun n1 => ?_
  simp only [nd0, Y1n, Y1o, Y1p, Y1q, Y1w, Y1x, Y1y, Y1z, Y20, Y21, Y28, Y2a, AV.cells?, Nat.reduceAdd, Nat.reduceMul, show (AV.val (.string ⟨#[]⟩)) = S [] from rfl]
  by_cases hn : nf y = []
  · simp only [nd0, Y1n, Y1o, Y1p, Y1q, Y1w, Y1x, Y1y, Y1z, Y20, Y21, Y28, Y2a, AV.cells?, Nat.reduceAdd, Nat.reduceMul, decide_eq_true hn]
    unfold nmL
    rw [if_pos hn, List.append_nil]
    exact ⟨trivial, x, tb, n1, rfl, ht⟩
  · simp only [nd0, Y1n, Y1o, Y1p, Y1q, Y1w, Y1x, Y1y, Y1z, Y20, Y21, Y28, Y2a, AV.cells?, Nat.reduceAdd, Nat.reduceMul, decide_eq_false hn]
    unfold nmL
    rw [if_neg hn]
    refine wNewS.F' (l := [S (nf y)]) rfl rfl ?_
    rcases ht with ⟨rfl, rfl, rfl⟩ | ⟨g1, rfl, rfl⟩
    · refine ⟨_, _, .old (r := .slL 1 0 1 n1) (H' := ⟨[.cells g0 1 [nilS], .cells n1 1 [S (nf y)]], n1 + 1⟩) rfl, ?_⟩
      rw [store1_L rfl]
      simp only [nd0, Y1n, Y1o, Y1p, Y1q, Y1w, Y1x, Y1y, Y1z, Y20, Y21, Y28, Y2a, AV.cells?, Nat.reduceAdd, Nat.reduceMul, Nat.reduceLT]
      exact ⟨trivial, .slL 1 0 1 n1, _, _, rfl, .inr ⟨n1, rfl, rfl⟩⟩
    · have happ : appendA 1 16 (.slL 1 0 l.length g1) (.slN [S (nf y)] 1) ⟨[.cells g0 1 [.slL 1 0 l.length g1], .cells g1 1 (l.map fun s => S s)], n1⟩
          = some (.slL 1 0 (l.length + 1) n1, ⟨[.cells g0 1 [.slL 1 0 l.length g1], .cells n1 1 ((l ++ [nf y]).map fun s => S s)], n1 + 1⟩) := by
        have hb : (l.length + 1) * 16 ≤ mostBytes ∧ l.length + 1 ≤ mostBytes := by simp [mostBytes]; omega
        simp [appendA, cellsOfA, subL, AH.cells, AH.esz, hb, AV.scalar]
      refine ⟨_, _, .old happ, ?_⟩
      rw [store1_L rfl]
      simp only [nd0, Y1n, Y1o, Y1p, Y1q, Y1w, Y1x, Y1y, Y1z, Y20, Y21, Y28, Y2a, AV.cells?, Nat.reduceAdd, Nat.reduceMul, Nat.reduceLT]
      exact ⟨trivial, .slL 1 0 (l.length + 1) n1, _, _, rfl, .inr ⟨n1, by simp, rfl⟩⟩
def WalkOk (E : Env) (P : Program) (kn g0 : Nat) (nf : Ex → Str) (x : Ex) : Prop := ∀ (l : List Str) (H : AH), l.length + x.size < 10000000 → SO g0 l H → ACalls E P 161 [x.enc, .fn 193 [] [.ptrF [.fn kn [] []] 0, .ptrL 0 0 g0]] H fun r H' => r = .tup [] ∧ SO g0 (l ++ x.raw nf) H'
theorem sizeL_app : ∀ a b : List Ex, Ex.sizeL (a ++ b) = Ex.sizeL a + Ex.sizeL b
  | [], b => by simp [Ex.sizeL]
  | x :: a, b => by simp only [List.cons_append, Ex.sizeL, sizeL_app a b]; omega
theorem walkSL_spec {kn g0 : Nat} {nf : Ex → Str} (xs : List Ex) (hx : ∀ x ∈ xs, WalkOk E P kn g0 nf x) (hlen : xs.length < 10000000) (l : List Str) (hn : l.length + Ex.sizeL xs < 10000000) {H0 : AH} (hH0 : SO g0 l H0) {R : Kt} (hR : ∀ H, SO g0 (l ++ Ex.rawL nf xs) H → R (.tup []) H) :
    wLoop 1 (fun I1 => I1 (Z 0) H0) fun I1 t27 H =>
      wGet (binA .lss t27 (Z xs.length)) H fun t28 H =>
      wIf t28 (
        wGet (iaddr 1 (.slN (Ex.encL xs) xs.length) t27) H fun t29 H =>
        wGet (load1 t29 H) H fun t30 H =>
        wCall E P 161 [t30, .fn 193 [] [.ptrF [.fn kn [] []] 0, .ptrL 0 0 g0]] H fun t33 H =>
        wGet (binA .add t27 (.val (.int .i64 1))) H fun t34 H =>
        I1 t34 H) (
        R (.tup []) H) := by
  refine wLoop.one (fun m i H => ∃ pre r, xs = pre ++ r ∧ i = Z pre.length ∧ m = r.length ∧ SO g0 (l ++ Ex.rawL nf pre) H) xs.length (gh1.mk ⟨[], xs, rfl, rfl, rfl, by simpa [Ex.rawL] using hH0⟩) ?_
  rintro m i H ⟨pre, r, rfl, rfl, rfl, hH⟩
  cases r with
  | nil =>
    rw [List.append_nil] at hR ⊢
    simp only [nd0, Y1n, Y1o, Y1p, Y1q, Y1w, Y1x, Y1y, Y1z, Y20, Y21, Y28, Y2a, AV.cells?, Nat.reduceAdd, Nat.reduceMul, Int.lt_irrefl]
    exact hR _ hH
  | cons x r =>
    rw [sizeL_app] at hn
    simp only [Ex.sizeL] at hn
    simp only [nd0, Y1n, Y1o, Y1p, Y1q, Y1w, Y1x, Y1y, Y1z, Y20, Y21, Y28, Y2a, AV.cells?, Nat.reduceAdd, Nat.reduceMul, decide_eq_true (show (pre.length : Int) < ((pre ++ x :: r).length : Int) by simp; omega)]
    rw [iaddr_Nn lt_mid]
    simp only [nd0, Y1n, Y1o, Y1p, Y1q, Y1w, Y1x, Y1y, Y1z, Y20, Y21, Y28, Y2a, AV.cells?, Nat.reduceAdd, Nat.reduceMul, show (Ex.encL (pre ++ x :: r))[pre.length]? = some x.enc by rw [Ex.encL_map]; simp]
    have hrl := Ex.rawL_len nf pre
    refine ⟨_, hx x (by simp) _ _ (by rw [List.length_append]; omega) hH, ?_⟩
    rintro rr H' ⟨rfl, hH'⟩
    rw [binA_succ (by simp at hlen; omega)]
    simp only [nd0, Y1n, Y1o, Y1p, Y1q, Y1w, Y1x, Y1y, Y1z, Y20, Y21, Y28, Y2a, AV.cells?, Nat.reduceAdd, Nat.reduceMul]
    refine back1.mk r.length (by simp) ⟨pre ++ [x], r, by simp, by simp, rfl, ?_⟩
    rw [Ex.rawL_append]
    simpa [Ex.rawL, List.append_assoc] using hH'
theorem walkS_spec (B : SortedBodies E P) {kn : Nat} {nf : Ex → Str} (hnf : ∀ y, FX E P kn [y.enc] (S (nf y))) {g0 : Nat} : ∀ (k : Nat) (x : Ex), x.wt < k → x.wt ≤ 1000000 → x.fine → WalkOk E P kn g0 nf x := by
  intro k
  induction k with
  | zero => intro x h; omega
  | succ k ih =>
    intro x hx hw hf l H hn hH
    refine B.walk _ _ _ _ ?_
    unfold F.expr_walk
    have h1 : 1 ≤ x.size := by cases x <;> simp [Ex.size]
    refine ⟨⟨193, [], _, rfl, _, look_spec B hnf (by omega) x hH, ?_⟩⟩
    rintro r H1 ⟨rfl, hH1⟩
    have hl1 : (l ++ nmL nf x).length ≤ l.length + 1 := by rw [List.length_append]; have := nmL_len nf x; omega
    have fin : x.raw nf = nmL nf x → SO g0 (l ++ x.raw nf) H1 := fun e => by rw [e]; exact hH1
    cases x with
    | k b => simp only [Ex.enc]; simp only [nd0, Y1n, Y1o, Y1p, Y1q, Y1w, Y1x, Y1y, Y1z, Y20, Y21, Y28, Y2a, AV.cells?, Nat.reduceAdd, Nat.reduceMul, asA, show (11 : Nat) = 10 ↔ False by decide, show (11 : Nat) = 9 ↔ False by decide, show (11 : Nat) = 8 ↔ False by decide]; exact ⟨trivial, fin rfl⟩
    | bit b => simp only [Ex.enc]; simp only [nd0, Y1n, Y1o, Y1p, Y1q, Y1w, Y1x, Y1y, Y1z, Y20, Y21, Y28, Y2a, AV.cells?, Nat.reduceAdd, Nat.reduceMul, asA, show (14 : Nat) = 10 ↔ False by decide, show (14 : Nat) = 9 ↔ False by decide, show (14 : Nat) = 8 ↔ False by decide]; exact ⟨trivial, fin rfl⟩
    | rise b => simp only [Ex.enc]; simp only [nd0, Y1n, Y1o, Y1p, Y1q, Y1w, Y1x, Y1y, Y1z, Y20, Y21, Y28, Y2a, AV.cells?, Nat.reduceAdd, Nat.reduceMul, asA, show (12 : Nat) = 10 ↔ False by decide, show (12 : Nat) = 9 ↔ False by decide, show (12 : Nat) = 8 ↔ False by decide]; exact ⟨trivial, fin rfl⟩
    | fall b => simp only [Ex.enc]; simp only [nd0, Y1n, Y1o, Y1p, Y1q, Y1w, Y1x, Y1y, Y1z, Y20, Y21, Y28, Y2a, AV.cells?, Nat.reduceAdd, Nat.reduceMul, asA, show (13 : Nat) = 10 ↔ False by decide, show (13 : Nat) = 9 ↔ False by decide, show (13 : Nat) = 8 ↔ False by decide]; exact ⟨trivial, fin rfl⟩
    | not y =>
      simp only [Ex.enc]
      simp only [Ex.wt] at hw hx
      simp only [Ex.size] at hn
      simp only [nd0, Y1n, Y1o, Y1p, Y1q, Y1w, Y1x, Y1y, Y1z, Y20, Y21, Y28, Y2a, AV.cells?, Nat.reduceAdd, Nat.reduceMul, asA, show (10 : Nat) = 10 ↔ True by decide]
      obtain ⟨x, tb, c, rfl, ht⟩ := hH1
      refine wNew.L (l := [nilE]) rfl ?_
      have hlast : ((Blk.cells g0 1 [x] :: tb) ++ [Blk.cells c 1 [nilE]])[(Blk.cells g0 1 [x] :: tb).length]? = some (.cells c 1 [nilE]) := by simp
      have hst : storeN 1 (.ptrL (Blk.cells g0 1 [x] :: tb).length 0 c) (.agg [y.enc]) ⟨(Blk.cells g0 1 [x] :: tb) ++ [Blk.cells c 1 [nilE]], c + 1⟩ = some ⟨(Blk.cells g0 1 [x] :: tb) ++ [Blk.cells c 1 [y.enc]], c + 1⟩ := by
        rw [storeN_L (n := 1) (xs := [y.enc]) rfl (by simp [Ex.enc_scalar]), hlast, blkDo_self]
        simp [putL]
      refine ⟨⟨_, hst, ?_⟩⟩
      refine wGet_some.2 ?_
      refine ⟨⟨y.enc, by simp [load1, AH.cells], ?_⟩⟩
      refine ⟨_, ACalls.args (ghost_drop _) (ih y (by omega) (by omega) hf _ ⟨Blk.cells g0 1 [x] :: tb, c + 1⟩ (by omega) ⟨x, tb, c + 1, rfl, ht⟩), ?_⟩
      rintro r H2 ⟨rfl, hH2⟩
      refine ⟨trivial, ?_⟩
      simp only [Ex.raw]
      rw [← List.append_assoc]; exact hH2
    | and xs =>
      simp only [Ex.enc]
      simp only [Ex.wt] at hw hx
      simp only [Ex.size] at hn
      have hll := Ex.len_wtL hf.2
      simp only [nd0, Y1n, Y1o, Y1p, Y1q, Y1w, Y1x, Y1y, Y1z, Y20, Y21, Y28, Y2a, AV.cells?, Nat.reduceAdd, Nat.reduceMul, asA, show (9 : Nat) = 10 ↔ False by decide, show (9 : Nat) = 9 ↔ True by decide]
      refine walkSL_spec (R := fun r H' => True ∧ SO g0 (l ++ (Ex.and xs).raw nf) H') xs (fun y hy => ih y (by have := Ex.wt_mem hy; omega) (by have := Ex.wt_mem hy; omega) (Ex.fine_mem hf.2 hy)) (by omega) _ (by omega) hH1 fun H2 hH2 => ⟨trivial, ?_⟩
      simp only [Ex.raw]
      rw [← List.append_assoc]; exact hH2
    | or xs =>
      simp only [Ex.enc]
      simp only [Ex.wt] at hw hx
      simp only [Ex.size] at hn
      have hll := Ex.len_wtL hf.2
      simp only [nd0, Y1n, Y1o, Y1p, Y1q, Y1w, Y1x, Y1y, Y1z, Y20, Y21, Y28, Y2a, AV.cells?, Nat.reduceAdd, Nat.reduceMul, asA, show (8 : Nat) = 10 ↔ False by decide, show (8 : Nat) = 9 ↔ False by decide, show (8 : Nat) = 8 ↔ True by decide]
      refine walkSL_spec (R := fun r H' => True ∧ SO g0 (l ++ (Ex.or xs).raw nf) H') xs (fun y hy => ih y (by have := Ex.wt_mem hy; omega) (by have := Ex.wt_mem hy; omega) (Ex.fine_mem hf.2 hy)) (by omega) _ (by omega) hH1 fun H2 hH2 => ⟨trivial, ?_⟩
      simp only [Ex.raw]
      rw [← List.append_assoc]; exact hH2
/-- sorted, each once -/
def onceS (l : List Str) : List Str := packS (sortS l)
theorem onceS_mem {l : List Str} {x : Str} : x ∈ onceS l ↔ x ∈ l := packS_mem.trans sortS_mem
theorem onceS_length (l : List Str) : (onceS l).length ≤ l.length := by
  have := packS_length (sortS l)
  rw [sortS_length] at this
  exact this
theorem sorted_spec (B : SortedBodies E P) {kn : Nat} {nf : Ex → Str} (hnf : ∀ y, FX E P kn [y.enc] (S (nf y))) (x : Ex) (hw : x.wt ≤ 1000000) (hf : x.fine) : FX E P 190 [x.enc, .fn kn [] []] (Lm S (onceS (x.raw nf))) := by
  refine FX.of ⟨Ex.enc_closed x, ⟨trivial, trivial⟩, trivial⟩ (closed_S _) fun n R hR => B.sorted _ _ _ _ ?_
  unfold F.expr_sorted
  rw [cells?_scalar (show (AV.fn kn [] []).scalar = true from rfl)]
  refine wNew.F' rfl ?_
  refine wNew.L (l := [nilS]) rfl ?_
  have hsz := Ex.size_wt x hf
  have hrl := Ex.raw_len nf x
  refine ⟨_, walkS_spec B hnf (x.wt + 1) x (by omega) hw hf [] _ (by simp; omega) ⟨nilS, [], _, rfl, .inl ⟨rfl, rfl, rfl⟩⟩, ?_⟩
  rintro r H1 ⟨rfl, y, tb, c, rfl, ht⟩
  rw [List.nil_append] at ht
  simp only [nd0, Y1n, Y1o, Y1p, Y1q, Y1w, Y1x, Y1y, Y1z, Y20, Y21, Y28, Y2a, AV.cells?, Nat.reduceAdd, Nat.reduceMul]
  rcases ht with ⟨rfl, hz, rfl⟩ | ⟨g1, rfl, rfl⟩
  · refine wCall.fx B.sortN fun n2 => ?_
    simp only [nd0, Y1n, Y1o, Y1p, Y1q, Y1w, Y1x, Y1y, Y1z, Y20, Y21, Y28, Y2a, AV.cells?, Nat.reduceAdd, Nat.reduceMul]
    refine wCall.fx B.compN fun n3 => ?_
    refine hR _ _ ?_
    rw [hz]
    have h0 : onceS [] = [] := List.eq_nil_of_length_eq_zero (by have := onceS_length []; simpa using this)
    rw [h0]
    exact .sub .nil
  · refine ⟨_, B.sortC (H := ⟨[.cells n 1 [.slL 1 0 (x.raw nf).length g1], .cells g1 1 ((x.raw nf).map fun s => S s)], c⟩) (b := 1) (by omega) rfl, ?_⟩
    rintro r H2 ⟨rfl, rfl⟩
    simp only [nd0, Y1n, Y1o, Y1p, Y1q, Y1w, Y1x, Y1y, Y1z, Y20, Y21, Y28, Y2a, AV.cells?, Nat.reduceAdd, Nat.reduceMul]
    have hlen := sortS_length (x.raw nf)
    rw [← hlen]
    refine ⟨_, B.compC (H := ⟨[.cells n 1 [.slL 1 0 (sortS (x.raw nf)).length g1], .cells g1 1 ((sortS (x.raw nf)).map fun s => S s)], c⟩) (b := 1) (by omega) rfl, ?_⟩
    rintro r H3 ⟨rfl, rfl⟩
    simp only [nd0, Y1n, Y1o, Y1p, Y1q, Y1w, Y1x, Y1y, Y1z, Y20, Y21, Y28, Y2a, AV.cells?, Nat.reduceAdd, Nat.reduceMul]
    refine hR _ _ ?_
    refine Fk.then (Fk.slF (H := ⟨[.cells n 1 [.slL 1 0 (sortS (x.raw nf)).length g1], .cells g1 1 ((packS (sortS (x.raw nf)) ++ List.replicate ((sortS (x.raw nf)).length - (packS (sortS (x.raw nf))).length) []).map fun s => S s)], c⟩) (b := 1) (ys := (onceS (x.raw nf)).map fun s => S s) (onceS (x.raw nf)).length rfl rfl ?_) .F'
    rw [List.drop_zero, List.map_append, List.take_append_of_le_length (by simp [onceS]), List.take_of_length_le (by simp [onceS])]
    exact FkL.same _
/-- its name, if it has one -/
def nf1 : Ex → Str
  | .bit s => s
  | .rise s => s
  | .fall s => s
  | _ => []
def nf2 : Ex → Str
  | .rise s => s
  | .fall s => s
  | _ => []
theorem names1_spec (B : SortedBodies E P) (y : Ex) : FX E P 189 [y.enc] (S (nf1 y)) := by
  refine FX.of' ⟨Ex.enc_closed y, trivial⟩ trivial fun n R hR => B.names1 _ _ _ ?_
  unfold F.expr_Names_c1
  cases y with
  | k b => simp only [Ex.enc]; simp only [nd0, Y1n, Y1o, Y1p, Y1q, Y1w, Y1x, Y1y, Y1z, Y20, Y21, Y28, Y2a, AV.cells?, Nat.reduceAdd, Nat.reduceMul, asA, show (11 : Nat) = 14 ↔ False by decide, show (11 : Nat) = 12 ↔ False by decide, show (11 : Nat) = 13 ↔ False by decide]; exact hR _ _ rfl
  | bit b => simp only [Ex.enc]; simp only [nd0, Y1n, Y1o, Y1p, Y1q, Y1w, Y1x, Y1y, Y1z, Y20, Y21, Y28, Y2a, AV.cells?, Nat.reduceAdd, Nat.reduceMul, asA, show (14 : Nat) = 14 ↔ True by decide]; exact hR _ _ rfl
  | rise b => simp only [Ex.enc]; simp only [nd0, Y1n, Y1o, Y1p, Y1q, Y1w, Y1x, Y1y, Y1z, Y20, Y21, Y28, Y2a, AV.cells?, Nat.reduceAdd, Nat.reduceMul, asA, show (12 : Nat) = 14 ↔ False by decide, show (12 : Nat) = 12 ↔ True by decide]; exact hR _ _ rfl
  | fall b => simp only [Ex.enc]; simp only [nd0, Y1n, Y1o, Y1p, Y1q, Y1w, Y1x, Y1y, Y1z, Y20, Y21, Y28, Y2a, AV.cells?, Nat.reduceAdd, Nat.reduceMul, asA, show (13 : Nat) = 14 ↔ False by decide, show (13 : Nat) = 12 ↔ False by decide, show (13 : Nat) = 13 ↔ True by decide]; exact hR _ _ rfl
  | not b => simp only [Ex.enc]; simp only [nd0, Y1n, Y1o, Y1p, Y1q, Y1w, Y1x, Y1y, Y1z, Y20, Y21, Y28, Y2a, AV.cells?, Nat.reduceAdd, Nat.reduceMul, asA, show (10 : Nat) = 14 ↔ False by decide, show (10 : Nat) = 12 ↔ False by decide, show (10 : Nat) = 13 ↔ False by decide]; exact hR _ _ rfl
  | and b => simp only [Ex.enc]; simp only [nd0, Y1n, Y1o, Y1p, Y1q, Y1w, Y1x, Y1y, Y1z, Y20, Y21, Y28, Y2a, AV.cells?, Nat.reduceAdd, Nat.reduceMul, asA, show (9 : Nat) = 14 ↔ False by decide, show (9 : Nat) = 12 ↔ False by decide, show (9 : Nat) = 13 ↔ False by decide]; exact hR _ _ rfl
  | or b => simp only [Ex.enc]; simp only [nd0, Y1n, Y1o, Y1p, Y1q, Y1w, Y1x, Y1y, Y1z, Y20, Y21, Y28, Y2a, AV.cells?, Nat.reduceAdd, Nat.reduceMul, asA, show (8 : Nat) = 14 ↔ False by decide, show (8 : Nat) = 12 ↔ False by decide, show (8 : Nat) = 13 ↔ False by decide]; exact hR _ _ rfl
theorem edges1_spec (B : SortedBodies E P) (y : Ex) : FX E P 192 [y.enc] (S (nf2 y)) := by
  refine FX.of' ⟨Ex.enc_closed y, trivial⟩ trivial fun n R hR => B.edges1 _ _ _ ?_
  unfold F.expr_Edges_c1
  cases y with
  | k b => simp only [Ex.enc]; simp only [nd0, Y1n, Y1o, Y1p, Y1q, Y1w, Y1x, Y1y, Y1z, Y20, Y21, Y28, Y2a, AV.cells?, Nat.reduceAdd, Nat.reduceMul, asA, show (11 : Nat) = 12 ↔ False by decide, show (11 : Nat) = 13 ↔ False by decide]; exact hR _ _ rfl
  | bit b => simp only [Ex.enc]; simp only [nd0, Y1n, Y1o, Y1p, Y1q, Y1w, Y1x, Y1y, Y1z, Y20, Y21, Y28, Y2a, AV.cells?, Nat.reduceAdd, Nat.reduceMul, asA, show (14 : Nat) = 12 ↔ False by decide, show (14 : Nat) = 13 ↔ False by decide]; exact hR _ _ rfl
  | rise b => simp only [Ex.enc]; simp only [nd0, Y1n, Y1o, Y1p, Y1q, Y1w, Y1x, Y1y, Y1z, Y20, Y21, Y28, Y2a, AV.cells?, Nat.reduceAdd, Nat.reduceMul, asA, show (12 : Nat) = 12 ↔ True by decide]; exact hR _ _ rfl
  | fall b => simp only [Ex.enc]; simp only [nd0, Y1n, Y1o, Y1p, Y1q, Y1w, Y1x, Y1y, Y1z, Y20, Y21, Y28, Y2a, AV.cells?, Nat.reduceAdd, Nat.reduceMul, asA, show (13 : Nat) = 12 ↔ False by decide, show (13 : Nat) = 13 ↔ True by decide]; exact hR _ _ rfl
  | not b => simp only [Ex.enc]; simp only [nd0, Y1n, Y1o, Y1p, Y1q, Y1w, Y1x, Y1y, Y1z, Y20, Y21, Y28, Y2a, AV.cells?, Nat.reduceAdd, Nat.reduceMul, asA, show (10 : Nat) = 12 ↔ False by decide, show (10 : Nat) = 13 ↔ False by decide]; exact hR _ _ rfl
  | and b => simp only [Ex.enc]; simp only [nd0, Y1n, Y1o, Y1p, Y1q, Y1w, Y1x, Y1y, Y1z, Y20, Y21, Y28, Y2a, AV.cells?, Nat.reduceAdd, Nat.reduceMul, asA, show (9 : Nat) = 12 ↔ False by decide, show (9 : Nat) = 13 ↔ False by decide]; exact hR _ _ rfl
  | or b => simp only [Ex.enc]; simp only [nd0, Y1n, Y1o, Y1p, Y1q, Y1w, Y1x, Y1y, Y1z, Y20, Y21, Y28, Y2a, AV.cells?, Nat.reduceAdd, Nat.reduceMul, asA, show (8 : Nat) = 12 ↔ False by decide, show (8 : Nat) = 13 ↔ False by decide]; exact hR _ _ rfl
def Ex.names (x : Ex) : List Str := onceS (x.raw nf1)
def Ex.edges (x : Ex) : List Str := onceS (x.raw nf2)
theorem Names_spec (B : SortedBodies E P) (x : Ex) (hw : x.wt ≤ 1000000) (hf : x.fine) : FX E P 181 [x.enc] (Lm S x.names) := by
  refine FX.of' ⟨Ex.enc_closed x, trivial⟩ (closed_S _) fun n R hR => B.names _ _ _ ?_
  unfold F.expr_Names
  exact wCall.fx (sorted_spec B (names1_spec B) x hw hf) fun n => hR _ _ rfl
theorem Edges_spec (B : SortedBodies E P) (x : Ex) (hw : x.wt ≤ 1000000) (hf : x.fine) : FX E P 184 [x.enc] (Lm S x.edges) := by
  refine FX.of' ⟨Ex.enc_closed x, trivial⟩ (closed_S _) fun n R hR => B.edges _ _ _ ?_
  unfold F.expr_Edges
  exact wCall.fx (sorted_spec B (edges1_spec B) x hw hf) fun n => hR _ _ rfl
end
end Go.Sc
namespace Go.Sc
open Go
set_option linter.unusedSimpArgs false
set_option linter.unusedVariables false
theorem str_lt_le {a b : Str} (h : a < b) : a ≤ b := fun h2 => List.lt_irrefl a (List.lt_trans h h2)
theorem str_ne_lt {a b : Str} (h : a ≤ b) (hn : a ≠ b) : a < b := by
  cases Classical.em (a < b) with
  | inl h1 => exact h1
  | inr h1 => exact absurd (List.le_antisymm h h1) hn
theorem str_lt_of_le_lt {a b c : Str} (h : a ≤ b) (h2 : b < c) : a < c := by
  by_cases e : a = b
  · exact e ▸ h2
  · exact List.lt_trans (str_ne_lt h e) h2
theorem strict_ext : ∀ {l m : List Str}, l.Pairwise (· < ·) → m.Pairwise (· < ·) → (∀ x, x ∈ l ↔ x ∈ m) → l = m
  | [], [], _, _, _ => rfl
  | [], b :: m, _, _, h => absurd ((h b).2 (by simp)) (by simp)
  | a :: l, [], _, _, h => absurd ((h a).1 (by simp)) (by simp)
  | a :: l, b :: m, hl, hm, h => by
    rw [List.pairwise_cons] at hl hm
    have hab : a = b := by
      rcases List.mem_cons.1 ((h a).1 (by simp)) with e | h1
      · exact e
      · rcases List.mem_cons.1 ((h b).2 (by simp)) with e | h2
        · exact e.symm
        · exact absurd (List.lt_trans (hm.1 a h1) (hl.1 b h2)) (List.lt_irrefl b)
    subst hab
    congr 1
    refine strict_ext hl.2 hm.2 fun x => ⟨fun hx => ?_, fun hx => ?_⟩
    · rcases List.mem_cons.1 ((h x).1 (List.mem_cons_of_mem _ hx)) with e | h1
      · exact absurd (e ▸ hl.1 x hx) (List.lt_irrefl _)
      · exact h1
    · rcases List.mem_cons.1 ((h x).2 (List.mem_cons_of_mem _ hx)) with e | h1
      · exact absurd (e ▸ hm.1 x hx) (List.lt_irrefl _)
      · exact h1
theorem compact_strict {d : Array Str} (hs : ∀ i j, i < j → j < d.size → d[i]! ≤ d[j]!) : ∀ m, m ≤ d.size → (Lib.compactUpTo d m).Pairwise (· < ·) ∧ (0 < m → ∀ x ∈ Lib.compactUpTo d m, x ≤ d[m - 1]!)
  | 0, _ => by simp [Lib.compactUpTo]
  | m + 1, hm => by
    obtain ⟨h1, h2⟩ := compact_strict hs m (by omega)
    rw [Lib.compactUpTo_succ]
    have hle : 0 < m → d[m - 1]! ≤ d[m]! := fun h => hs _ _ (by omega) (by omega)
    by_cases hk : Lib.keeps d m = true
    · rw [if_pos hk]
      have hlt : ∀ x ∈ Lib.compactUpTo d m, x < d[m]! := fun x hx => by
        by_cases h0 : m = 0
        · subst h0; simp [Lib.compactUpTo] at hx
        · have hne : d[m]! ≠ d[m - 1]! := by simpa [Lib.keeps, h0] using hk
          exact str_lt_of_le_lt (h2 (by omega) x hx) (str_ne_lt (hle (by omega)) (Ne.symm hne))
      refine ⟨List.pairwise_append.2 ⟨h1, by simp, fun a ha b hb => ?_⟩, fun _ x hx => ?_⟩
      · simp at hb; subst hb; exact hlt a ha
      · rcases List.mem_append.1 hx with hx | hx
        · exact str_lt_le (hlt x hx)
        · simp at hx; subst hx; exact List.le_refl _
    · rw [if_neg hk, List.append_nil]
      refine ⟨h1, fun _ x hx => ?_⟩
      have h0 : 0 < m := by
        rcases Nat.eq_zero_or_pos m with h | h
        · subst h; simp [Lib.keeps] at hk
        · exact h
      exact List.le_trans (h2 h0 x hx) (hle h0)
theorem sortS_sorted (l : List Str) : (sortS l).Pairwise (· ≤ ·) := by
  have := List.pairwise_mergeSort (le := fun x y : Str => decide (x ≤ y)) (fun a b c h1 h2 => by simp only [decide_eq_true_eq] at *; exact List.le_trans h1 h2) (fun a b => by simp only [Bool.or_eq_true, decide_eq_true_eq]; exact List.le_total a b) l
  simpa [sortS] using this
theorem onceS_strict (l : List Str) : (onceS l).Pairwise (· < ·) := by
  unfold onceS packS Lib.compact
  have := sortS_sorted l
  generalize sortS l = m at this
  refine (compact_strict (d := m.toArray) (fun i j hij hj => ?_) m.length (by simp)).1
  have hj' : j < m.length := by simpa using hj
  have := List.pairwise_iff_getElem.1 this i j (by omega) hj' hij
  simpa [getElem!_pos, hj', show i < m.length by omega] using this
/-- put in its place, unless it is there -/
def insA (s : Str) : List Str → Nat
  | [] => 0
  | x :: l => if x < s then insA s l + 1 else 0
def insN (l : List Str) (s : Str) : List Str := if l[insA s l]? = some s then l else l.take (insA s l) ++ s :: l.drop (insA s l)
theorem insA_le (s : Str) : ∀ l, insA s l ≤ l.length
  | [] => by simp [insA]
  | x :: l => by have := insA_le s l; simp only [insA, List.length_cons]; split <;> omega
theorem insN_cons (x : Str) (l : List Str) (s : Str) : insN (x :: l) s = if x < s then x :: insN l s else if x = s then x :: l else s :: x :: l := by
  by_cases h : x < s
  · have e : insA s (x :: l) = insA s l + 1 := by simp [insA, h]
    simp only [insN, e, List.getElem?_cons_succ, if_pos h, List.take_succ_cons, List.drop_succ_cons]
    split <;> rfl
  · have e : insA s (x :: l) = 0 := by simp [insA, h]
    simp [insN, e, h]
theorem insN_mem {s x : Str} : ∀ {l : List Str}, x ∈ insN l s ↔ x ∈ l ∨ x = s
  | [] => by simp [insN, insA]
  | y :: l => by
    rw [insN_cons]
    split
    · rw [List.mem_cons, insN_mem (l := l), List.mem_cons, or_assoc]
    · split
      · rename_i h; subst h; simp only [List.mem_cons]; exact ⟨.inl, fun h => h.elim id .inl⟩
      · simp only [List.mem_cons]; constructor <;> (intro h; rcases h with h | h | h <;> simp_all)
theorem insN_strict {s : Str} : ∀ {l : List Str}, l.Pairwise (· < ·) → (insN l s).Pairwise (· < ·)
  | [], _ => by simp [insN, insA]
  | y :: l, h => by
    rw [List.pairwise_cons] at h
    rw [insN_cons]
    split
    · rename_i hys
      rw [List.pairwise_cons]
      refine ⟨fun x hx => ?_, insN_strict h.2⟩
      rcases insN_mem.1 hx with hx | rfl
      · exact h.1 x hx
      · exact hys
    · rename_i hn
      split
      · rw [List.pairwise_cons]; exact h
      · rename_i hne
        have hsy : s < y := str_ne_lt hn (fun e => hne e.symm)
        rw [List.pairwise_cons, List.pairwise_cons]
        refine ⟨fun x hx => ?_, h⟩
        rcases List.mem_cons.1 hx with rfl | hx
        · exact hsy
        · exact List.lt_trans hsy (h.1 x hx)
theorem insN_length (l : List Str) (s : Str) : (insN l s).length ≤ l.length + 1 := by
  have := insA_le s l
  unfold insN
  split
  · omega
  · simp; omega
def insAll (l : List Str) (m : List Str) : List Str := m.foldl insN l
theorem insAll_mem {x : Str} : ∀ {m l : List Str}, x ∈ insAll l m ↔ x ∈ l ∨ x ∈ m
  | [], l => by simp [insAll]
  | s :: m, l => by
    show x ∈ insAll (insN l s) m ↔ _
    rw [insAll_mem, insN_mem, List.mem_cons, or_assoc]
theorem insAll_strict : ∀ {m l : List Str}, l.Pairwise (· < ·) → (insAll l m).Pairwise (· < ·)
  | [], l, h => h
  | s :: m, l, h => insAll_strict (l := insN l s) (m := m) (insN_strict h)
theorem insAll_once (m : List Str) : insAll [] m = onceS m :=
  strict_ext (insAll_strict .nil) (onceS_strict m) fun x => by rw [insAll_mem, onceS_mem]; simp
theorem insAll_length : ∀ (m l : List Str), (insAll l m).length ≤ l.length + m.length
  | [], l => by simp [insAll]
  | s :: m, l => by
    have h1 := insAll_length m (insN l s)
    have h2 := insN_length l s
    show (insAll (insN l s) m).length ≤ _
    simp only [List.length_cons]; omega
theorem insAll_append (l a b : List Str) : insAll l (a ++ b) = insAll (insAll l a) b := List.foldl_append ..
theorem bytesLess_lt : ∀ (x y : Str), Op.bytesLess x y = decide (x < y)
  | [], [] => by simp [Op.bytesLess]
  | _ :: _, [] => by simp [Op.bytesLess]
  | [], _ :: _ => by simp [Op.bytesLess]
  | a :: x, b :: y => by
    rw [Op.bytesLess, bytesLess_lt x y]
    rw [Bool.eq_iff_iff]
    simp only [Bool.or_eq_true, Bool.and_eq_true, decide_eq_true_eq, beq_iff_eq, List.cons_lt_cons_iff]
theorem binA_slt {s t : Str} : binA .lss (S s) (S t) = some (Bo (decide (s < t))) := by
  simp only [binA, strBin, Option.map_some, toList_mk, bytesLess_lt]
end Go.Sc
namespace Go.Sc
open Go
set_option linter.unusedSimpArgs false
set_option linter.unusedVariables false
def Ex.other : Ex → Ex
  | .not x => x
  | x => .not x
def hasT (l : List Ex) (t : Str) : Bool := l.any fun z => decide (z.wr 0 = t)
def addP (l : List Ex) (y : Ex) : Option (List Ex) := if hasT l (y.wr 0) = true then some l else if hasT l (y.other.wr 0) = true then none else some (l ++ [y])
def addAll : List Ex → List Ex → Option (List Ex)
  | l, [] => some l
  | l, y :: ys => match addP l y with
    | none => none
    | some l' => addAll l' ys
def pieces (mode : Bool) : Ex → Option (List Ex)
  | .k b => if b = mode then some [] else none
  | .and l => some (if mode then l else [.and l])
  | .or l => some (if mode then [.or l] else l)
  | x => some [x]
def packT (mode : Bool) : Option (List Ex) → Ex
  | none => .k (!mode)
  | some [] => .k mode
  | some [x] => x
  | some l => if mode then .and l else .or l
def notT : Ex → Ex
  | .k b => .k !b
  | .not y => y
  | y => .not y
mutual
def Ex.tidy : Ex → Ex
  | .not x => notT x.tidy
  | .and l => packT true (Ex.tidyL true l [])
  | .or l => packT false (Ex.tidyL false l [])
  | x => x
def Ex.tidyL (mode : Bool) : List Ex → List Ex → Option (List Ex)
  | [], acc => some acc
  | x :: l, acc => match pieces mode x.tidy with
    | none => none
    | some ps => match addAll acc ps with
      | none => none
      | some acc' => Ex.tidyL mode l acc'
end
/-! ### what is kept -/
/-! ### it says the same -/
section
variable {p q : Str → Bool}
end
end Go.Sc
namespace Go.Sc
open Go
set_option linter.unusedSimpArgs false
set_option linter.unusedVariables false
set_option linter.unnecessarySimpa false
section
variable {E : Env} {P : Program}
theorem lit (a : Array UInt8) : (AV.val (.string ⟨a⟩)) = S a.toList := by simp
end
end Go.Sc
namespace Go.Sc.F
open Go Go.Sc
set_option linter.unusedVariables false
/-- signalbox/signalboxlaw.read -/
def law_read (E : Env) (P : Program) (a0 : AV) (H : AH) (R : Kt) : Prop :=
  wGet (lenS a0) H fun t10 H =>
  wGet (binA .gtr t10 (.val (.int .i64 1000))) H fun t11 H =>
  wIf t11 (
    R (.tup [(.val (.nilIface)), (.val (.pointer none)), (.val (.bool false))]) H) (
    wCall E P 125 [a0] H fun t14 H =>
    wGet (extractA t14 0) H fun t15 H =>
    wGet (extractA t14 1) H fun t16 H =>
    wNew 2 (some [(.val (.int .i64 0)), (.val (.int .i64 0))]) H fun t6 H =>
    wPut (storeN 2 t6 t16 H) fun _u H =>
    wGet (faddr 0 t6) H fun t17 H =>
    wGet (load1 t17 H) H fun t18 H =>
    wGet (binA .neq t18 (.val (.int .i64 0))) H fun t19 H =>
    wIf t19 (
      R (.tup [(.val (.nilIface)), (.val (.pointer none)), (.val (.bool false))]) H) (
      wCall E P 126 [a0] H fun t22 H =>
      wGet (extractA t22 0) H fun t23 H =>
      wGet (extractA t22 1) H fun t24 H =>
      wBool (eqA .iface t24 (.val (.nilIface))) H true fun t26 H =>
      wIf t26 (
        R (.tup [(.val (.nilIface)), t15, (.val (.bool true))]) H) (
        R (.tup [t23, t15, (.val (.bool true))]) H)))

end Go.Sc.F
namespace Go.Sc
open Go
set_option linter.unusedSimpArgs false
set_option linter.unusedVariables false
set_option linter.unnecessarySimpa false
def kS (b : Bool) : Str := if b then [49] else [48]
theorem k_ref (b : Bool) : (Ex.k b).ref = .ptrF [S (kS b), S [], nilS] 0 := rfl
section
variable {E : Env} {P : Program}
end
end Go.Sc
namespace Go.Sc
open Go
set_option linter.unusedSimpArgs false
set_option linter.unusedVariables false
set_option linter.unnecessarySimpa false
structure RefSaysBodies0 (E : Env) (P : Program) : Prop where
  names : Body1 E P 182 F.pref_Expr_Names
  edges : Body1 E P 185 F.pref_Expr_Edges
  named : Body2 E P 191 F.pref_Expr_named
  named1 : Body4 E P 196 F.pref_Expr_named_c1
  con : ∀ s t : Str, s.length ≤ 1000 → FX E P 199 [S s, S t] (Bo (Lib.contains s t))
structure RefSaysBodies (E : Env) (P : Program) : Prop extends RefSaysBodies0 E P where
  eval : Body3 E P 180 F.pref_Expr_Eval
section
variable {E : Env} {P : Program}
theorem countL (p : Ex → Bool) : ∀ l : List Ex, (l.filter p).length ≤ l.length := fun l => List.length_filter_le p l
theorem of_length {x : Ex} {l : List Ex} (h : x.of = .slN (Ex.refL l) l.length ∨ (x.of = nilS ∧ l = [])) : lenA x.of = some (Z l.length) := by
  rcases h with h | ⟨h, rfl⟩ <;> rw [h] <;> rfl
end
end Go.Sc
namespace Go.Sc
open Go
set_option linter.unusedSimpArgs false
set_option linter.unusedVariables false
set_option linter.unnecessarySimpa false
section
variable {E : Env} {P : Program}
/-- the walk's own value: it knows the kinds, the list, and itself -/
def wkF (kinds : Str) (g0 g1 : Nat) : AV := .fn 196 [] [.ptrF [S kinds] 0, .ptrL 0 0 g0, .ptrL 1 0 g1]
def SN (kinds : Str) (g0 g1 : Nat) (l : List Str) (H : AH) : Prop := ∃ x tb c, H = ⟨.cells g0 1 [x] :: .cells g1 1 [wkF kinds g0 g1] :: tb, c⟩ ∧ ((x = nilS ∧ l = [] ∧ tb = []) ∨ ∃ g2, x = .slL 2 0 l.length g2 ∧ tb = [.cells g2 1 (l.map fun s => S s)])
theorem insA_lt {s : Str} : ∀ {l : List Str} {i : Nat}, i < insA s l → ∃ x, l[i]? = some x ∧ x < s
  | [], i, h => by simp [insA] at h
  | y :: l, i, h => by
    simp only [insA] at h
    split at h
    · rename_i hy
      cases i with
      | zero => exact ⟨y, rfl, hy⟩
      | succ i => obtain ⟨x, h1, h2⟩ := insA_lt (s := s) (l := l) (i := i) (by omega); exact ⟨x, by simpa using h1, h2⟩
    · omega
theorem insA_stop {s x : Str} : ∀ {l : List Str}, l[insA s l]? = some x → ¬ x < s
  | [], h => by simp at h
  | y :: l, h => by
    by_cases hy : y < s
    · have e : insA s (y :: l) = insA s l + 1 := by simp [insA, hy]
      rw [e, List.getElem?_cons_succ] at h
      exact insA_stop h
    · have e : insA s (y :: l) = 0 := by simp [insA, hy]
      rw [e] at h
      simp at h; subst h; exact hy
theorem sliceL {b n g lo : Nat} {k : IntKind} {H : AH} {cs : List AV} (hb : H.bs[b]? = some (.cells g 1 cs)) (h : lo ≤ n) : sliceA 1 (.slL b 0 n g) (some (.val (.int k lo))) none H = some (.slL b lo (n - lo) g) := by
  simp [sliceA, bnd, AH.esz, hb]; omega
set_option maxHeartbeats 4000000 in
theorem put_spec (B : RefSaysBodies0 E P) {kinds : Str} (hks : kinds.length ≤ 1000) {g0 g1 : Nat} (x : Ex) {l : List Str} (hl : l.length < 10000000) {H : AH} (hH : SN kinds g0 g1 l H) (b : Bool) (hb : b = (decide (x.nm ≠ []) && Lib.contains kinds x.kind)) (k : KN 0)
    (hk : ∀ H, SN kinds g0 g1 (if b then insN l x.nm else l) H → k H) :
  wJoin 0 (fun J1 =>
    wGet (nilA x.ref) H fun t9 H =>
    wGet (faddr 1 t9) H fun t10 H =>
    wGet (load1 t10 H) H fun t11 H =>
    wGet (binA .neq t11 (.val (.string ⟨#[]⟩))) H fun t12 H =>
    wGuard t12 true H (fun k => wGet (load1 (.ptrF [S kinds] 0) H) H k) fun t14 H =>
    wGuard t12 true H (fun k => k x.ref H) fun t15 H =>
    wGuard t12 true H (fun k => wGet (nilA t15) H k) fun t16 H =>
    wGuard t12 true H (fun k => wGet (faddr 0 t16) H k) fun t17 H =>
    wGuard t12 true H (fun k => wGet (load1 t17 H) H k) fun t18 H =>
    wGuard t12 true H (fun k => wCall E P 199 [t14, t18] H k) fun t19 H =>
    wGet (pickA t12 t19 (.val (.bool false))) H fun t20 H =>
    wIf t20 (
      wLoop 1 (fun I2 => I2 (.val (.int .i64 0)) H) fun I2 t5 H =>
        wGet (load1 (.ptrL 0 0 g0) H) H fun t22 H =>
        wGet (lenA t22) H fun t23 H =>
        wGet (binA .lss t5 t23) H fun t24 H =>
        wGuard t24 true H (fun k => wGet (load1 (.ptrL 0 0 g0) H) H k) fun t26 H =>
        wGuard t24 true H (fun k => k t5 H) fun t27 H =>
        wGuard t24 true H (fun k => wGet (iaddr 1 t26 t27) H k) fun t28 H =>
        wGuard t24 true H (fun k => wGet (load1 t28 H) H k) fun t29 H =>
        wGuard t24 true H (fun k => k x.ref H) fun t30 H =>
        wGuard t24 true H (fun k => wGet (nilA t30) H k) fun t31 H =>
        wGuard t24 true H (fun k => wGet (faddr 1 t31) H k) fun t32 H =>
        wGuard t24 true H (fun k => wGet (load1 t32 H) H k) fun t33 H =>
        wGuard t24 true H (fun k => wGet (binA .lss t29 t33) H k) fun t34 H =>
        wGet (pickA t24 t34 (.val (.bool false))) H fun t35 H =>
        wIf t35 (
          wGet (binA .add t5 (.val (.int .i64 1))) H fun t37 H =>
          I2 t37 H) (
          wGet (load1 (.ptrL 0 0 g0) H) H fun t39 H =>
          wGet (lenA t39) H fun t40 H =>
          wGet (binA .eql t5 t40) H fun t41 H =>
          wGuard t41 false H (fun k => wGet (load1 (.ptrL 0 0 g0) H) H k) fun t43 H =>
          wGuard t41 false H (fun k => k t5 H) fun t44 H =>
          wGuard t41 false H (fun k => wGet (iaddr 1 t43 t44) H k) fun t45 H =>
          wGuard t41 false H (fun k => wGet (load1 t45 H) H k) fun t46 H =>
          wGuard t41 false H (fun k => k x.ref H) fun t47 H =>
          wGuard t41 false H (fun k => wGet (nilA t47) H k) fun t48 H =>
          wGuard t41 false H (fun k => wGet (faddr 1 t48) H k) fun t49 H =>
          wGuard t41 false H (fun k => wGet (load1 t49 H) H k) fun t50 H =>
          wGuard t41 false H (fun k => wGet (binA .neq t46 t50) H k) fun t51 H =>
          wGet (pickA t41 (.val (.bool true)) t51) H fun t52 H =>
          wIf t52 (
            wGet (load1 (.ptrL 0 0 g0) H) H fun t53 H =>
            wNewS 1 1 (fillA (List.replicate 1 [(.val (.string ⟨#[]⟩))]).flatten [(0, 1, (.val (.string ⟨#[]⟩)))]) H fun t54 H =>
            wApp 1 16 t53 t54 H fun t55 H =>
            wPut (store1 (.ptrL 0 0 g0) t55 H) fun _u H =>
            wGet (load1 (.ptrL 0 0 g0) H) H fun t56 H =>
            wGet (binA .add t5 (.val (.int .i64 1))) H fun t58 H =>
            wGet (sliceA 1 t56 (some t58) none H) H fun t59 H =>
            wGet (load1 (.ptrL 0 0 g0) H) H fun t60 H =>
            wGet (sliceA 1 t60 (some t5) none H) H fun t62 H =>
            wDo (copyA 1 t59 t62 H) fun t63 H =>
            wGet (load1 (.ptrL 0 0 g0) H) H fun t64 H =>
            wGet (nilA x.ref) H fun t67 H =>
            wGet (faddr 1 t67) H fun t68 H =>
            wGet (load1 t68 H) H fun t69 H =>
            wGet (iaddr 1 t64 t5) H fun t70 H =>
            wPut (store1 t70 t69 H) fun _u H =>
            J1 H) (
            J1 H))) (
      J1 H)) k := by
  refine wJoin.zero (SN kinds g0 g1 (if b then insN l x.nm else l)) ?_ hk
  obtain ⟨y, tb, c, rfl, ht⟩ := hH
  rw [Ex.ref_eq]
  simp only [nd0, Y1n, Y1o, Y1p, Y1q, Y1w, Y1x, Y1y, Y1z, Y20, Y21, Y28, Y2a, AV.cells?, Nat.reduceAdd, Nat.reduceMul, show (AV.val (.string ⟨#[]⟩)) = S [] from rfl]
  by_cases hn : x.nm = []
  · simp only [nd0, Y1n, Y1o, Y1p, Y1q, Y1w, Y1x, Y1y, Y1z, Y20, Y21, Y28, Y2a, AV.cells?, Nat.reduceAdd, Nat.reduceMul, decide_eq_true hn]
    refine gh0.mk ?_
    rw [show b = false by rw [hb]; simp [hn]]
    exact ⟨y, tb, c, rfl, ht⟩
  simp only [nd0, Y1n, Y1o, Y1p, Y1q, Y1w, Y1x, Y1y, Y1z, Y20, Y21, Y28, Y2a, AV.cells?, Nat.reduceAdd, Nat.reduceMul, decide_eq_false hn]
  refine wCall.fx (B.con kinds x.kind hks) fun n1 => ?_
  simp only [nd0, Y1n, Y1o, Y1p, Y1q, Y1w, Y1x, Y1y, Y1z, Y20, Y21, Y28, Y2a, AV.cells?, Nat.reduceAdd, Nat.reduceMul]
  cases hc : Lib.contains kinds x.kind with
  | false =>
    simp only [nd0, Y1n, Y1o, Y1p, Y1q, Y1w, Y1x, Y1y, Y1z, Y20, Y21, Y28, Y2a, AV.cells?, Nat.reduceAdd, Nat.reduceMul]
    refine gh0.mk ?_
    rw [show b = false by rw [hb]; simp [hn, hc]]
    exact ⟨y, tb, n1, rfl, ht⟩
  | true =>
    rw [show b = true by rw [hb]; simp [hn, hc], if_pos rfl]
    generalize hnm : x.nm = nm at hn
    have hlen : lenA y = some (Z l.length) := by rcases ht with ⟨rfl, rfl, _⟩ | ⟨g2, rfl, _⟩ <;> rfl
    have hal := insA_le nm l
    simp only [nd0, Y1n, Y1o, Y1p, Y1q, Y1w, Y1x, Y1y, Y1z, Y20, Y21, Y28, Y2a, AV.cells?, Nat.reduceAdd, Nat.reduceMul]
    refine wLoop.one (fun m i H => ∃ a : Nat, i = Z a ∧ a ≤ insA nm l ∧ m = insA nm l - a ∧ H = ⟨.cells g0 1 [y] :: .cells g1 1 [wkF kinds g0 g1] :: tb, n1⟩) (insA nm l) (gh1.mk ⟨0, rfl, by omega, by omega, rfl⟩) ?_
    rintro m i H ⟨a, rfl, ha, rfl, rfl⟩
    simp only [nd0, Y1n, Y1o, Y1p, Y1q, Y1w, Y1x, Y1y, Y1z, Y20, Y21, Y28, Y2a, AV.cells?, Nat.reduceAdd, Nat.reduceMul, hlen]
    have hread : ∀ a < l.length, ∃ g2, y = .slL 2 0 l.length g2 ∧ tb = [.cells g2 1 (l.map fun s => S s)] := fun a h => by
      rcases ht with ⟨_, rfl, _⟩ | h'
      · simp at h
      · exact h'
    rcases Nat.lt_or_ge a (insA nm l) with hlt | hge
    · obtain ⟨z, hz1, hz2⟩ := insA_lt hlt
      have hal2 : a < l.length := by omega
      obtain ⟨g2, rfl, rfl⟩ := hread a hal2
      simp only [nd0, Y1n, Y1o, Y1p, Y1q, Y1w, Y1x, Y1y, Y1z, Y20, Y21, Y28, Y2a, AV.cells?, Nat.reduceAdd, Nat.reduceMul, decide_eq_true (show (a : Int) < (l.length : Int) by omega)]
      rw [iaddr_Ln hal2]
      simp only [nd0, Y1n, Y1o, Y1p, Y1q, Y1w, Y1x, Y1y, Y1z, Y20, Y21, Y28, Y2a, AV.cells?, Nat.reduceAdd, Nat.reduceMul, show (l.map fun s => S s)[a]? = some (S z) by rw [List.getElem?_map, hz1]; rfl, binA_slt, decide_eq_true hz2]
      rw [binA_succ (by omega)]
      simp only [nd0, Y1n, Y1o, Y1p, Y1q, Y1w, Y1x, Y1y, Y1z, Y20, Y21, Y28, Y2a, AV.cells?, Nat.reduceAdd, Nat.reduceMul]
      exact back1.mk _ (by omega) ⟨a + 1, rfl, by omega, rfl, rfl⟩
    · have hae : a = insA nm l := by omega
      -- the place is found
      have hplace : ∀ (K1 K2 : Prop), (l[a]? = some nm → K2) → (l[a]? ≠ some nm → K1) → (if l[a]? = some nm then K2 else K1) := fun K1 K2 h2 h1 => by split <;> simp_all
      by_cases hend : a = l.length
      · -- at the end
        simp only [nd0, Y1n, Y1o, Y1p, Y1q, Y1w, Y1x, Y1y, Y1z, Y20, Y21, Y28, Y2a, AV.cells?, Nat.reduceAdd, Nat.reduceMul, decide_eq_false (show ¬ (a : Int) < (l.length : Int) by omega), hlen, decide_eq_true (show (a : Int) = (l.length : Int) by omega)]
        have hins : insN l nm = l ++ [nm] := by
          unfold insN
          rw [← hae, hend]; simp
        refine wNewS.F' (l := [S []]) rfl rfl ?_
        rcases ht with ⟨rfl, rfl, rfl⟩ | ⟨g2, rfl, rfl⟩
        · have : a = 0 := by simpa using hend
          subst this
          refine ⟨_, _, .old (r := .slL 2 0 1 n1) (H' := ⟨[.cells g0 1 [nilS], .cells g1 1 [wkF kinds g0 g1], .cells n1 1 [S []]], n1 + 1⟩) rfl, ?_⟩
          rw [store1_L rfl]
          simp only [nd0, Y1n, Y1o, Y1p, Y1q, Y1w, Y1x, Y1y, Y1z, Y20, Y21, Y28, Y2a, AV.cells?, Nat.reduceAdd, Nat.reduceMul, Nat.reduceLT]
          rw [show (((0 : Nat) : Int)) = 0 from rfl, binA_add (by omega)]
          simp only [nd0, Y1n, Y1o, Y1p, Y1q, Y1w, Y1x, Y1y, Y1z, Y20, Y21, Y28, Y2a, AV.cells?, Nat.reduceAdd, Nat.reduceMul]
          rw [show sliceA 1 (.slL 2 0 1 n1) (some (Z (0 + 1))) none ⟨[.cells g0 1 [.slL 2 0 1 n1], .cells g1 1 [wkF kinds g0 g1], .cells n1 1 [S []]], n1 + 1⟩ = some (.slL 2 1 0 n1) by simp [sliceA, bnd, AH.esz]]
          simp only [nd0, Y1n, Y1o, Y1p, Y1q, Y1w, Y1x, Y1y, Y1z, Y20, Y21, Y28, Y2a, AV.cells?, Nat.reduceAdd, Nat.reduceMul]
          rw [show sliceA 1 (.slL 2 0 1 n1) (some (Z 0)) none ⟨[.cells g0 1 [.slL 2 0 1 n1], .cells g1 1 [wkF kinds g0 g1], .cells n1 1 [S []]], n1 + 1⟩ = some (.slL 2 0 1 n1) by simp [sliceA, bnd, AH.esz]]
          simp only [nd0, Y1n, Y1o, Y1p, Y1q, Y1w, Y1x, Y1y, Y1z, Y20, Y21, Y28, Y2a, AV.cells?, Nat.reduceAdd, Nat.reduceMul]
          rw [show copyA 1 (.slL 2 1 0 n1) (.slL 2 0 1 n1) ⟨[.cells g0 1 [.slL 2 0 1 n1], .cells g1 1 [wkF kinds g0 g1], .cells n1 1 [S []]], n1 + 1⟩ = some (Z 0, ⟨[.cells g0 1 [.slL 2 0 1 n1], .cells g1 1 [wkF kinds g0 g1], .cells n1 1 [S []]], n1 + 1⟩) by simp [copyA, lenA, shortA, cellsOfA, AH.cells, subL]]
          simp only [nd0, Y1n, Y1o, Y1p, Y1q, Y1w, Y1x, Y1y, Y1z, Y20, Y21, Y28, Y2a, AV.cells?, Nat.reduceAdd, Nat.reduceMul]
          rw [show iaddr 1 (.slL 2 0 1 n1) (Z 0) = some (.ptrL 2 0 n1) by simp [iaddr]]
          simp only [nd0, Y1n, Y1o, Y1p, Y1q, Y1w, Y1x, Y1y, Y1z, Y20, Y21, Y28, Y2a, AV.cells?, Nat.reduceAdd, Nat.reduceMul]
          rw [store1_L rfl]
          simp only [nd0, Y1n, Y1o, Y1p, Y1q, Y1w, Y1x, Y1y, Y1z, Y20, Y21, Y28, Y2a, AV.cells?, Nat.reduceAdd, Nat.reduceMul, Nat.reduceLT]
          refine gh0.mk ⟨.slL 2 0 1 n1, _, _, rfl, .inr ⟨n1, ?_, ?_⟩⟩
          · rw [hins]; rfl
          · rw [hins]; rfl
        · have happ : appendA 1 16 (.slL 2 0 l.length g2) (.slN [S []] 1) ⟨[.cells g0 1 [.slL 2 0 l.length g2], .cells g1 1 [wkF kinds g0 g1], .cells g2 1 (l.map fun s => S s)], n1⟩
              = some (.slL 2 0 (l.length + 1) n1, ⟨[.cells g0 1 [.slL 2 0 l.length g2], .cells g1 1 [wkF kinds g0 g1], .cells n1 1 ((l ++ [[]]).map fun s => S s)], n1 + 1⟩) := by
            have hb : (l.length + 1) * 16 ≤ mostBytes ∧ l.length + 1 ≤ mostBytes := by simp [mostBytes]; omega
            simp [appendA, cellsOfA, subL, AH.cells, AH.esz, hb, AV.scalar]
          refine ⟨_, _, .old happ, ?_⟩
          rw [store1_L rfl]
          simp only [nd0, Y1n, Y1o, Y1p, Y1q, Y1w, Y1x, Y1y, Y1z, Y20, Y21, Y28, Y2a, AV.cells?, Nat.reduceAdd, Nat.reduceMul, Nat.reduceLT]
          rw [binA_succ (by omega)]
          simp only [nd0, Y1n, Y1o, Y1p, Y1q, Y1w, Y1x, Y1y, Y1z, Y20, Y21, Y28, Y2a, AV.cells?, Nat.reduceAdd, Nat.reduceMul]
          rw [sliceL (cs := (l ++ [[]]).map fun s => S s) rfl (by omega)]
          simp only [nd0, Y1n, Y1o, Y1p, Y1q, Y1w, Y1x, Y1y, Y1z, Y20, Y21, Y28, Y2a, AV.cells?, Nat.reduceAdd, Nat.reduceMul]
          rw [sliceL (cs := (l ++ [[]]).map fun s => S s) rfl (by omega)]
          simp only [nd0, Y1n, Y1o, Y1p, Y1q, Y1w, Y1x, Y1y, Y1z, Y20, Y21, Y28, Y2a, AV.cells?, Nat.reduceAdd, Nat.reduceMul]
          have hcp : copyA 1 (.slL 2 (a + 1) (l.length + 1 - (a + 1)) n1) (.slL 2 a (l.length + 1 - a) n1) ⟨[.cells g0 1 [.slL 2 0 (l.length + 1) n1], .cells g1 1 [wkF kinds g0 g1], .cells n1 1 ((l ++ [[]]).map fun s => S s)], n1 + 1⟩ = some (Z 0, ⟨[.cells g0 1 [.slL 2 0 (l.length + 1) n1], .cells g1 1 [wkF kinds g0 g1], .cells n1 1 ((l ++ [[]]).map fun s => S s)], n1 + 1⟩) := by simp [copyA, lenA, shortA, cellsOfA, AH.cells, subL, hend]
          rw [hcp]
          simp only [nd0, Y1n, Y1o, Y1p, Y1q, Y1w, Y1x, Y1y, Y1z, Y20, Y21, Y28, Y2a, AV.cells?, Nat.reduceAdd, Nat.reduceMul]
          rw [iaddr_Ln (show a < l.length + 1 by omega)]
          simp only [nd0, Y1n, Y1o, Y1p, Y1q, Y1w, Y1x, Y1y, Y1z, Y20, Y21, Y28, Y2a, AV.cells?, Nat.reduceAdd, Nat.reduceMul]
          rw [store1_L rfl]
          simp only [nd0, Y1n, Y1o, Y1p, Y1q, Y1w, Y1x, Y1y, Y1z, Y20, Y21, Y28, Y2a, AV.cells?, Nat.reduceAdd, Nat.reduceMul, show a < ((l ++ [[]]).map fun s => S s).length by simp; omega]
          refine gh0.mk ⟨.slL 2 0 (l.length + 1) n1, _, _, rfl, .inr ⟨n1, ?_, ?_⟩⟩
          · rw [hins]; simp
          · rw [hins, hend]; simp
      · have hal2 : a < l.length := by omega
        obtain ⟨g2, rfl, rfl⟩ := hread a hal2
        obtain ⟨z, hz⟩ : ∃ z, l[a]? = some z := ⟨l[a], by simp [hal2]⟩
        have hns : ¬ z < nm := insA_stop (by rw [← hae]; exact hz)
        simp only [nd0, Y1n, Y1o, Y1p, Y1q, Y1w, Y1x, Y1y, Y1z, Y20, Y21, Y28, Y2a, AV.cells?, Nat.reduceAdd, Nat.reduceMul, decide_eq_true (show (a : Int) < (l.length : Int) by omega), decide_eq_false (show ¬ (a : Int) = (l.length : Int) by omega)]
        rw [iaddr_Ln hal2]
        simp only [nd0, Y1n, Y1o, Y1p, Y1q, Y1w, Y1x, Y1y, Y1z, Y20, Y21, Y28, Y2a, AV.cells?, Nat.reduceAdd, Nat.reduceMul, show (l.map fun s => S s)[a]? = some (S z) by rw [List.getElem?_map, hz]; rfl, binA_slt, decide_eq_false hns, decide_eq_false (show ¬ (a : Int) = (l.length : Int) by omega)]
        rw [iaddr_Ln hal2]
        simp only [nd0, Y1n, Y1o, Y1p, Y1q, Y1w, Y1x, Y1y, Y1z, Y20, Y21, Y28, Y2a, AV.cells?, Nat.reduceAdd, Nat.reduceMul, show (l.map fun s => S s)[a]? = some (S z) by rw [List.getElem?_map, hz]; rfl]
        by_cases hzn : z = nm
        · simp only [nd0, Y1n, Y1o, Y1p, Y1q, Y1w, Y1x, Y1y, Y1z, Y20, Y21, Y28, Y2a, AV.cells?, Nat.reduceAdd, Nat.reduceMul, decide_eq_true hzn]
          have hins : insN l nm = l := by
            unfold insN
            rw [← hae, hz, hzn, if_pos rfl]
          refine gh0.mk ?_
          rw [hins]
          exact ⟨_, _, _, rfl, .inr ⟨g2, rfl, rfl⟩⟩
        · simp only [nd0, Y1n, Y1o, Y1p, Y1q, Y1w, Y1x, Y1y, Y1z, Y20, Y21, Y28, Y2a, AV.cells?, Nat.reduceAdd, Nat.reduceMul, decide_eq_false hzn]
          have hins : insN l nm = l.take a ++ nm :: l.drop a := by
            unfold insN
            rw [← hae, hz, if_neg (by simpa using hzn)]
          refine wNewS.F' (l := [S []]) rfl rfl ?_
          have happ : appendA 1 16 (.slL 2 0 l.length g2) (.slN [S []] 1) ⟨[.cells g0 1 [.slL 2 0 l.length g2], .cells g1 1 [wkF kinds g0 g1], .cells g2 1 (l.map fun s => S s)], n1⟩
              = some (.slL 2 0 (l.length + 1) n1, ⟨[.cells g0 1 [.slL 2 0 l.length g2], .cells g1 1 [wkF kinds g0 g1], .cells n1 1 ((l ++ [[]]).map fun s => S s)], n1 + 1⟩) := by
            have hb : (l.length + 1) * 16 ≤ mostBytes ∧ l.length + 1 ≤ mostBytes := by simp [mostBytes]; omega
            simp [appendA, cellsOfA, subL, AH.cells, AH.esz, hb, AV.scalar]
          refine ⟨_, _, .old happ, ?_⟩
          rw [store1_L rfl]
          simp only [nd0, Y1n, Y1o, Y1p, Y1q, Y1w, Y1x, Y1y, Y1z, Y20, Y21, Y28, Y2a, AV.cells?, Nat.reduceAdd, Nat.reduceMul, Nat.reduceLT]
          rw [binA_succ (by omega)]
          simp only [nd0, Y1n, Y1o, Y1p, Y1q, Y1w, Y1x, Y1y, Y1z, Y20, Y21, Y28, Y2a, AV.cells?, Nat.reduceAdd, Nat.reduceMul]
          rw [sliceL (cs := (l ++ [[]]).map fun s => S s) rfl (by omega)]
          simp only [nd0, Y1n, Y1o, Y1p, Y1q, Y1w, Y1x, Y1y, Y1z, Y20, Y21, Y28, Y2a, AV.cells?, Nat.reduceAdd, Nat.reduceMul]
          rw [sliceL (cs := (l ++ [[]]).map fun s => S s) rfl (by omega)]
          simp only [nd0, Y1n, Y1o, Y1p, Y1q, Y1w, Y1x, Y1y, Y1z, Y20, Y21, Y28, Y2a, AV.cells?, Nat.reduceAdd, Nat.reduceMul]
          have hmin : min (l.length + 1 - a) (l.length + 1 - (a + 1)) = l.length - a := by omega
          have hcopy : copyA 1 (.slL 2 (a + 1) (l.length + 1 - (a + 1)) n1) (.slL 2 a (l.length + 1 - a) n1) ⟨[.cells g0 1 [.slL 2 0 (l.length + 1) n1], .cells g1 1 [wkF kinds g0 g1], .cells n1 1 ((l ++ [[]]).map fun s => S s)], n1 + 1⟩
              = some (Z (l.length - a : Nat), ⟨[.cells g0 1 [.slL 2 0 (l.length + 1) n1], .cells g1 1 [wkF kinds g0 g1], .cells n1 1 ((l.take a ++ z :: l.drop a).map fun s => S s)], n1 + 1⟩) := by
            have h0 : ¬ (l.length - a = 0) := by omega
            have hd : ((((l ++ [[]]).map fun s => S s).drop a).take (l.length - a)) = (l.drop a).map fun s => S s := by
              rw [← List.map_drop, ← List.map_take, List.drop_append_of_le_length (by omega), List.take_append_of_le_length (by simp), List.take_of_length_le (by simp)]
            have hput : putL ((l ++ [[]]).map fun s => S s) (a + 1) ((l.drop a).map fun s => S s) = some ((l.take a ++ z :: l.drop a).map fun s => S s) := by
              have hlst : (l ++ [[]]).take (a + 1) ++ l.drop a ++ (l ++ [[]]).drop (a + 1 + (l.drop a).length) = l.take a ++ z :: l.drop a := by
                have hz2 : (l ++ [[]]).drop (a + 1 + (l.drop a).length) = [] := List.drop_eq_nil_of_le (by simp; omega)
                rw [hz2, List.append_nil, List.take_append_of_le_length (by omega), List.take_add_one, hz]
                simp
              unfold putL
              rw [if_pos (by simp only [List.length_map, List.length_append, List.length_drop, List.length_cons, List.length_nil]; omega), ← List.map_take, List.length_map, ← List.map_drop, ← List.map_append, ← List.map_append, hlst]
            have hsc : ((l.drop a).map fun s => S s).all AV.scalar = true := by
              rw [List.all_eq_true]; intro w hw; obtain ⟨_, _, rfl⟩ := List.mem_map.1 hw; rfl
            have hsub : subL ((l ++ [[]]).map fun s => S s) a (l.length - a) = some ((l.drop a).map fun s => S s) := by unfold subL; rw [if_pos (by simp only [List.length_map, List.length_append, List.length_cons, List.length_nil]; omega), hd]
            simp only [copyA, lenA, Int.toNat_natCast, hmin, shortA]
            rw [if_pos (by omega)]
            simp only [Option.bind_some, cellsOfA, AH.cells, List.getElem?_cons_succ, List.getElem?_cons_zero, if_true, Nat.mul_one]
            rw [hsub]
            simp only [Option.map_some, Option.bind_some]
            rw [if_pos hsc, if_neg h0]
            rw [storeN_L (by simp) hsc]
            simp only [List.getElem?_cons_succ, List.getElem?_cons_zero, blkDo_self, hput, Option.map_some, List.set_cons_succ, List.set_cons_zero]
          rw [hcopy]
          simp only [nd0, Y1n, Y1o, Y1p, Y1q, Y1w, Y1x, Y1y, Y1z, Y20, Y21, Y28, Y2a, AV.cells?, Nat.reduceAdd, Nat.reduceMul]
          rw [iaddr_Ln (show a < l.length + 1 by omega)]
          simp only [nd0, Y1n, Y1o, Y1p, Y1q, Y1w, Y1x, Y1y, Y1z, Y20, Y21, Y28, Y2a, AV.cells?, Nat.reduceAdd, Nat.reduceMul]
          rw [store1_L rfl]
          simp only [nd0, Y1n, Y1o, Y1p, Y1q, Y1w, Y1x, Y1y, Y1z, Y20, Y21, Y28, Y2a, AV.cells?, Nat.reduceAdd, Nat.reduceMul, show a < ((l.take a ++ z :: l.drop a).map fun s => S s).length by simp; omega]
          refine gh0.mk ⟨.slL 2 0 (l.length + 1) n1, _, _, rfl, .inr ⟨n1, ?_, ?_⟩⟩
          · rw [hins]; simp; omega
          · rw [hins]
            congr 2
            rw [show (S nm : AV) = (fun s => S s) nm from rfl, ← List.map_set]
            congr 1
            rw [List.set_append_right _ _ (by simp; omega)]
            simp [show min a l.length = a by omega]
def NamedOk (E : Env) (P : Program) (kinds : Str) (nf : Ex → Str) (x : Ex) : Prop := ∀ (g0 g1 : Nat) (l : List Str) (H : AH), l.length + x.size < 10000000 → SN kinds g0 g1 l H → ACalls E P 196 [x.ref, .ptrF [S kinds] 0, .ptrL 0 0 g0, .ptrL 1 0 g1] H fun r H' => r = .tup [] ∧ SN kinds g0 g1 (insAll l (x.raw nf)) H'
theorem namedL_spec {kinds : Str} {nf : Ex → Str} {g0 g1 : Nat} (xs : List Ex) {o : AV} (ho : o = .slN (Ex.refL xs) xs.length ∨ (o = nilS ∧ xs = [])) (hx : ∀ x ∈ xs, NamedOk E P kinds nf x) (hlen : xs.length < 10000000) (l : List Str) (hn : l.length + Ex.sizeL xs < 10000000) {H0 : AH} (hH0 : SN kinds g0 g1 l H0) {R : Kt} (hR : ∀ H, SN kinds g0 g1 (insAll l (Ex.rawL nf xs)) H → R (.tup []) H) :
    wLoop 1 (fun I3 => I3 (.val (.int .i64 0)) H0) fun I3 t76 H =>
      wGet (binA .lss t76 (Z xs.length)) H fun t77 H =>
      wIf t77 (
        wGet (iaddr 1 o t76) H fun t78 H =>
        wGet (load1 t78 H) H fun t79 H =>
        wGet (load1 (.ptrL 1 0 g1) H) H fun t80 H =>
        wCallV E P t80 [t79] H fun t82 H =>
        wGet (binA .add t76 (.val (.int .i64 1))) H fun t83 H =>
        I3 t83 H) (
        R (.tup []) H) := by
  refine wLoop.one (fun m i H => ∃ pre r, xs = pre ++ r ∧ i = Z pre.length ∧ m = r.length ∧ SN kinds g0 g1 (insAll l (Ex.rawL nf pre)) H) xs.length (gh1.mk ⟨[], xs, rfl, rfl, rfl, by simpa [Ex.rawL, insAll] using hH0⟩) ?_
  rintro m i H ⟨pre, r, hpr, rfl, rfl, hH⟩
  cases r with
  | nil =>
    rw [List.append_nil] at hpr
    subst hpr
    simp only [nd0, Y1n, Y1o, Y1p, Y1q, Y1w, Y1x, Y1y, Y1z, Y20, Y21, Y28, Y2a, AV.cells?, Nat.reduceAdd, Nat.reduceMul, Int.lt_irrefl]
    exact hR _ hH
  | cons x r =>
    have hxm : x ∈ xs := by rw [hpr]; simp
    have hlt : pre.length < xs.length := by rw [hpr]; simp
    have ho' : o = .slN (Ex.refL xs) xs.length := by
      rcases ho with h | ⟨_, rfl⟩
      · exact h
      · simp at hxm
    have hsum : Ex.sizeL xs = Ex.sizeL pre + (x.size + Ex.sizeL r) := by rw [hpr, sizeL_app]; rfl
    have hrl := Ex.rawL_len nf pre
    have hil := insAll_length (Ex.rawL nf pre) l
    simp only [nd0, Y1n, Y1o, Y1p, Y1q, Y1w, Y1x, Y1y, Y1z, Y20, Y21, Y28, Y2a, AV.cells?, Nat.reduceAdd, Nat.reduceMul, decide_eq_true (show (pre.length : Int) < (xs.length : Int) by omega), ho']
    rw [iaddr_Nn hlt]
    obtain ⟨y, tb, c, rfl, ht⟩ := hH
    simp only [nd0, Y1n, Y1o, Y1p, Y1q, Y1w, Y1x, Y1y, Y1z, Y20, Y21, Y28, Y2a, AV.cells?, Nat.reduceAdd, Nat.reduceMul, show (Ex.refL xs)[pre.length]? = some x.ref by rw [Ex.refL_map, hpr]; simp]
    refine ⟨⟨196, [], _, rfl, _, hx x hxm g0 g1 _ _ (by omega) ⟨y, tb, c, rfl, ht⟩, ?_⟩⟩
    rintro rr H' ⟨rfl, hH'⟩
    rw [binA_succ (by omega)]
    simp only [nd0, Y1n, Y1o, Y1p, Y1q, Y1w, Y1x, Y1y, Y1z, Y20, Y21, Y28, Y2a, AV.cells?, Nat.reduceAdd, Nat.reduceMul]
    refine back1.mk r.length (by simp) ⟨pre ++ [x], r, by rw [hpr]; simp, by simp, rfl, ?_⟩
    rw [Ex.rawL_append, insAll_append]
    simpa [Ex.rawL] using hH'
theorem of_full (x : Ex) : ∃ l : List Ex, (x.of = .slN (Ex.refL l) l.length ∨ (x.of = nilS ∧ l = [])) ∧ x.size = Ex.sizeL l + 1 ∧ (∀ y ∈ l, y.wt < x.wt ∧ (x.fine → y.fine)) ∧ ∀ nf : Ex → Str, x.raw nf = nmL nf x ++ Ex.rawL nf l := by
  cases x with
  | not y => exact ⟨[y], .inl rfl, by simp [Ex.size, Ex.sizeL], fun z hz => by simp at hz; subst hz; exact ⟨by simp [Ex.wt], fun h => h⟩, fun nf => by simp [Ex.raw, Ex.rawL]⟩
  | and l => exact ⟨l, .inl rfl, rfl, fun z hz => ⟨by have := Ex.wt_mem hz; simp only [Ex.wt]; omega, fun h => Ex.fine_mem h.2 hz⟩, fun nf => rfl⟩
  | or l => exact ⟨l, .inl rfl, rfl, fun z hz => ⟨by have := Ex.wt_mem hz; simp only [Ex.wt]; omega, fun h => Ex.fine_mem h.2 hz⟩, fun nf => rfl⟩
  | _ => exact ⟨[], .inr ⟨rfl, rfl⟩, rfl, by simp, fun nf => by simp [Ex.raw, Ex.rawL]⟩
theorem sizeL_len : ∀ m : List Ex, m.length ≤ Ex.sizeL m
  | [] => by simp [Ex.sizeL]
  | a :: m => by
    have h1 : 1 ≤ a.size := by cases a <;> simp [Ex.size]
    have h2 := sizeL_len m
    simp only [List.length_cons, Ex.sizeL]; omega
theorem nameOk_ne {s : Str} (h : nameOk s = true) : s ≠ [] := by rintro rfl; simp [nameOk] at h
theorem con1 : Lib.contains [98, 105, 116, 94, 126] [98, 105, 116] = true := by decide
theorem con2 : Lib.contains [98, 105, 116, 94, 126] [94] = true := by decide
theorem con3 : Lib.contains [98, 105, 116, 94, 126] [126] = true := by decide
theorem con4 : Lib.contains [94, 126] [98, 105, 116] = false := by decide
theorem con5 : Lib.contains [94, 126] [94] = true := by decide
theorem con6 : Lib.contains [94, 126] [126] = true := by decide
theorem named1_ok (B : RefSaysBodies0 E P) {kinds : Str} (hks : kinds.length ≤ 1000) {nf : Ex → Str} (hnf : ∀ x : Ex, x.fine → (decide (x.nm ≠ []) && Lib.contains kinds x.kind) = decide (nf x ≠ []) ∧ (nf x ≠ [] → nf x = x.nm)) : ∀ (n : Nat) (x : Ex), x.wt < n → x.wt ≤ 1000000 → x.fine → NamedOk E P kinds nf x := by
  intro n
  induction n with
  | zero => intro x hx; omega
  | succ n ih =>
    intro x hx hw hfi g0 g1 l H hn hH
    refine B.named1 _ _ _ _ _ _ ?_
    unfold F.pref_Expr_named_c1
    obtain ⟨h1, h2⟩ := hnf x hfi
    obtain ⟨xs, ho, hs, hm, hraw⟩ := of_full x
    have hsz := Ex.size_wt x hfi
    refine put_spec B hks x (by omega) hH (decide (nf x ≠ [])) h1.symm _ fun H1 hH1 => ?_
    have hH1' : SN kinds g0 g1 (insAll l (nmL nf x)) H1 := by
      unfold nmL
      by_cases h0 : nf x = []
      · simpa [h0, insAll] using hH1
      · rw [if_neg h0, h2 h0]
        rw [decide_eq_true h0] at hH1
        exact hH1
    have hil := insAll_length (nmL nf x) l
    have hnl := nmL_len nf x
    have hll := sizeL_len xs
    rw [Ex.ref_eq]
    simp only [nd0, Y1n, Y1o, Y1p, Y1q, Y1w, Y1x, Y1y, Y1z, Y20, Y21, Y28, Y2a, AV.cells?, Nat.reduceAdd, Nat.reduceMul, of_length ho]
    refine namedL_spec (R := fun r H' => True ∧ SN kinds g0 g1 (insAll l (x.raw nf)) H') xs ho (fun y hy => ih y (by have := (hm y hy).1; omega) (by have := (hm y hy).1; omega) ((hm y hy).2 hfi)) (by omega) _ (by omega) hH1' fun H2 hH2 => ⟨trivial, ?_⟩
    rw [hraw nf, insAll_append]
    exact hH2
theorem rnamed_spec (B : RefSaysBodies0 E P) {kinds : Str} (hks : kinds.length ≤ 1000) {nf : Ex → Str} (hnf : ∀ x : Ex, x.fine → (decide (x.nm ≠ []) && Lib.contains kinds x.kind) = decide (nf x ≠ []) ∧ (nf x ≠ [] → nf x = x.nm)) (x : Ex) (hw : x.wt ≤ 1000000) (hfi : x.fine) : FX E P 191 [x.ref, S kinds] (Lm S (onceS (x.raw nf))) := by
  refine FX.of ⟨Ex.ref_closed x, trivial, trivial⟩ (closed_S _) fun n R hR => B.named _ _ _ _ ?_
  unfold F.pref_Expr_named
  rw [cells?_scalar (show (S kinds : AV).scalar = true from rfl)]
  refine wNew.F' rfl ?_
  refine wNew.L (l := [nilS]) rfl ?_
  refine wNew.L (l := [.val .nilFunc]) rfl ?_
  simp only [nd0, Y1n, Y1o, Y1p, Y1q, Y1w, Y1x, Y1y, Y1z, Y20, Y21, Y28, Y2a, AV.cells?, Nat.reduceAdd, Nat.reduceMul]
  rw [store1_L rfl]
  simp only [nd0, Y1n, Y1o, Y1p, Y1q, Y1w, Y1x, Y1y, Y1z, Y20, Y21, Y28, Y2a, AV.cells?, Nat.reduceAdd, Nat.reduceMul, Nat.reduceLT]
  have hsz := Ex.size_wt x hfi
  refine ⟨⟨196, [], _, rfl, _, named1_ok B hks hnf (x.wt + 1) x (by omega) hw hfi n (n + 1) [] _ (by simp; omega) ⟨nilS, [], _, rfl, .inl ⟨rfl, rfl, rfl⟩⟩, ?_⟩⟩
  rintro r H' ⟨rfl, y, tb, c, rfl, ht⟩
  rw [insAll_once] at ht
  simp only [nd0, Y1n, Y1o, Y1p, Y1q, Y1w, Y1x, Y1y, Y1z, Y20, Y21, Y28, Y2a, AV.cells?, Nat.reduceAdd, Nat.reduceMul]
  rcases ht with ⟨rfl, hz, rfl⟩ | ⟨g2, rfl, rfl⟩
  · refine hR _ _ ?_
    rw [hz]
    exact .sub .nil
  · refine hR _ _ ?_
    refine Fk.then (Fk.slF (b := 2) (ys := (onceS (x.raw nf)).map fun s => S s) (onceS (x.raw nf)).length rfl rfl ?_) .F'
    rw [List.drop_zero, List.take_of_length_le (by simp)]
    exact FkL.same _
theorem refNames_spec (B : RefSaysBodies0 E P) (x : Ex) (hw : x.wt ≤ 1000000) (hfi : x.fine) : FX E P 182 [x.ref] (Lm S (onceS (x.raw nf1))) := by
  refine FX.of ⟨Ex.ref_closed x, trivial⟩ (closed_S _) fun n R hR => B.names _ _ _ ?_
  unfold F.pref_Expr_Names
  refine wCall.fx (rnamed_spec (nf := nf1) B (by simp) (fun y hy => ?_) x hw hfi) fun n1 => hR _ _ (.same _)
  cases y with
  | k b => cases b <;> exact ⟨by decide, by simp [nf1]⟩
  | bit s => exact ⟨by simp [Ex.nm, Ex.kind, nf1, nameOk_ne hy, con1, con2, con3, con5, con6], by simp [nf1, Ex.nm]⟩
  | rise s => exact ⟨by simp [Ex.nm, Ex.kind, nf1, nameOk_ne hy, con1, con2, con3, con5, con6], by simp [nf1, Ex.nm]⟩
  | fall s => exact ⟨by simp [Ex.nm, Ex.kind, nf1, nameOk_ne hy, con1, con2, con3, con5, con6], by simp [nf1, Ex.nm]⟩
  | _ => exact ⟨by simp [Ex.nm, nf1], by simp [nf1]⟩
theorem refEdges_spec (B : RefSaysBodies0 E P) (x : Ex) (hw : x.wt ≤ 1000000) (hfi : x.fine) : FX E P 185 [x.ref] (Lm S (onceS (x.raw nf2))) := by
  refine FX.of ⟨Ex.ref_closed x, trivial⟩ (closed_S _) fun n R hR => B.edges _ _ _ ?_
  unfold F.pref_Expr_Edges
  refine wCall.fx (rnamed_spec (nf := nf2) B (by simp) (fun y hy => ?_) x hw hfi) fun n1 => hR _ _ (.same _)
  cases y with
  | k b => cases b <;> exact ⟨by decide, by simp [nf2]⟩
  | bit s => exact ⟨by simp [Ex.nm, Ex.kind, nf2, con4], by simp [nf2, Ex.nm]⟩
  | rise s => exact ⟨by simp [Ex.nm, Ex.kind, nf2, nameOk_ne hy, con1, con2, con3, con5, con6], by simp [nf2, Ex.nm]⟩
  | fall s => exact ⟨by simp [Ex.nm, Ex.kind, nf2, nameOk_ne hy, con1, con2, con3, con5, con6], by simp [nf2, Ex.nm]⟩
  | _ => exact ⟨by simp [Ex.nm, nf2], by simp [nf2]⟩
end
end Go.Sc
