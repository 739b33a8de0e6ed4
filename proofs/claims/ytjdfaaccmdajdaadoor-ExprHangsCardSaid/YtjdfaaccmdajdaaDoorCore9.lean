/- CONTRACTS: how expressions are written. CONTRACTS: lists of numbers are compared, searched, copied. CONTRACTS: package expr: what an expression says, and how great it is. (of the seat YtjdfaaccmdajdaaDoor) -/
import Derived.Test.YtjdfaaccmdajdaaDoorCore8
namespace Go.Sc
open Go
set_option linter.unusedSimpArgs false
set_option linter.unusedVariables false
set_option linter.unnecessarySimpa false

theorem binA_cat {s t : Str} (h : s.length + t.length ≤ 4611686018427387904) : binA .add (S s) (S t) = some (S (s ++ t)) := by
  have h1 : ¬ (((⟨s.toArray⟩ : ByteArray).size + (⟨t.toArray⟩ : ByteArray).size : Nat) : Int) > IntKind.i64.max := by
    simp [ByteArray.size, IntKind.max, IntKind.bits, IntKind.signed]; omega
  simp only [binA, strBin, if_neg h1, Option.map_some]
  congr 3
def Ex.kind : Ex → Str
  | .k b => if b then [49] else [48]
  | .bit _ => [98, 105, 116]
  | .rise _ => [94]
  | .fall _ => [126]
  | .not _ => [33]
  | .and _ => [38]
  | .or _ => [124]
def Ex.nm : Ex → Str
  | .bit s => s
  | .rise s => s
  | .fall s => s
  | _ => []
def Ex.of : Ex → AV
  | .not x => .slN [x.ref] 1
  | .and l => .slN (Ex.refL l) l.length
  | .or l => .slN (Ex.refL l) l.length
  | _ => nilS
theorem Ex.ref_eq (x : Ex) : x.ref = .ptrF [S x.kind, S x.nm, x.of] 0 := by cases x <;> rfl
def Ex.isAnd : Ex → Bool
  | .and _ => true
  | _ => false
def Ex.isOr : Ex → Bool
  | .or _ => true
  | _ => false
theorem Ex.kind_and (x : Ex) : x.kind = [38] ↔ x.isAnd = true := by
  cases x with
  | k b => cases b <;> simp [Ex.kind, Ex.isAnd]
  | _ => simp [Ex.kind, Ex.isAnd]
theorem Ex.kind_or (x : Ex) : x.kind = [124] ↔ x.isOr = true := by
  cases x with
  | k b => cases b <;> simp [Ex.kind, Ex.isOr]
  | _ => simp [Ex.kind, Ex.isOr]
theorem Ex.wr_two (x : Ex) : x.wr 2 = around (x.isAnd || x.isOr) (x.wr 0) := by cases x <;> simp [Ex.wr, Ex.isAnd, Ex.isOr, around]
theorem Ex.wr_one (x : Ex) : x.wr 1 = around x.isOr (x.wr 0) := by cases x <;> simp [Ex.wr, Ex.isAnd, Ex.isOr, around]
theorem Ex.wt_mem {x : Ex} : ∀ {l : List Ex}, x ∈ l → x.wt ≤ Ex.wtL l
  | y :: l, h => by
    rcases List.mem_cons.1 h with rfl | h
    · simp only [Ex.wtL]; omega
    · have := Ex.wt_mem h; simp only [Ex.wtL]; omega
theorem Ex.fine_mem {x : Ex} : ∀ {l : List Ex}, Ex.fineL l → x ∈ l → x.fine
  | y :: l, h, hx => by
    rcases List.mem_cons.1 hx with rfl | hx
    · exact h.1
    · exact Ex.fine_mem h.2 hx
theorem Ex.len_wtL : ∀ {l : List Ex}, Ex.fineL l → l.length ≤ Ex.wtL l
  | [], _ => by simp
  | x :: l, h => by
    have h2 := Ex.len_wtL h.2
    have : 1 ≤ x.wt := by
      have h1 := h.1
      cases x with
      | bit s => cases s with
        | nil => simp [Ex.fine, nameOk] at h1
        | cons a b => simp [Ex.wt]
      | _ => simp only [Ex.wt]; omega
    simp only [Ex.wtL, List.length_cons]; omega
structure WriteBodies (E : Env) (P : Program) : Prop where
  join : ∀ (l : List Str) (sep : Str), l.length ≤ 10000000 → (joinS sep l).length ≤ 100000000 → FX E P 118 [Lm S l, S sep] (S (joinS sep l))
  write : Body2 E P 146 F.expr_write
  join2 : Body4 E P 148 F.expr_join
  text : Body1 E P 127 F.expr_Text
  tOr : Body1 E P 147 F.expr_Or_Text
  tAnd : Body1 E P 149 F.expr_And_Text
  tNot : Body1 E P 150 F.expr_Not_Text
  tConst : Body1 E P 151 F.expr_Const_Text
  tRise : Body1 E P 152 F.expr_Rise_Text
  tFall : Body1 E P 153 F.expr_Fall_Text
  tBit : Body1 E P 154 F.expr_Bit_Text
  mOr : MethodIs E P 8 "Text" 147
  mAnd : MethodIs E P 9 "Text" 149
  mNot : MethodIs E P 10 "Text" 150
  mConst : MethodIs E P 11 "Text" 151
  mRise : MethodIs E P 12 "Text" 152
  mFall : MethodIs E P 13 "Text" 153
  mBit : MethodIs E P 14 "Text" 154
theorem Lm_S {l : List Str} : Lm S l = .slN (l.map fun s => S s) l.length := rfl
section
variable {E : Env} {P : Program}
theorem S_closed (s : Str) : AV.closed (S s) := trivial
theorem join2_spec (B : WriteBodies E P) (l : List Ex) (sep : Str) (inner : Nat) (b : Bool) (hl : ∀ x ∈ l, FX E P 146 [x.enc, Z inner] (S (x.wr inner))) (hn : l.length ≤ 1000000) (hw : Ex.wtL l ≤ 10000000) (hsep : sep.length ≤ 3) :
    FX E P 148 [.slN (Ex.encL l) l.length, S sep, Z inner, Bo b] (S (around b (joinS sep (Ex.wrL inner l)))) := by
  refine FX.of' ⟨Ex.encL_closed l, trivial, trivial, trivial, trivial⟩ trivial fun n R hR => B.join2 _ _ _ _ _ _ ?_
  unfold F.expr_join
  have hlen : (joinS sep (Ex.wrL inner l)).length ≤ 20000000 := by
    have h1 := joinS_len sep (Ex.wrL inner l)
    have h2 := Ex.wrL_len l inner
    have h3 : (Ex.wrL inner l).length = l.length := by rw [Ex.wrL_map, List.length_map]
    have h4 : sep.length * (Ex.wrL inner l).length ≤ 3 * 1000000 := Nat.mul_le_mul hsep (by omega)
    omega
  simp only [nd0, Y1n, Y1o, Y1p, Y1q, Y1w, Y1x, Y1y, Y1z, Y20, Y21, Y28, Y2a, AV.cells?, Nat.reduceAdd, Nat.reduceMul]
  refine wLoop.two (fun m t i H => ∃ pre rest z c, l = pre ++ rest ∧ m = rest.length ∧ i = Z pre.length ∧ Gr 1 z 0 t ((Ex.wrL inner pre).map fun s => S s) pre.length ∧ H = ⟨[z], c⟩) l.length
    (gh2.of (ghost_room [.dead] (by simp)) ⟨[], l, .dead, n, rfl, rfl, rfl, .nil, rfl⟩) ?_
  rintro m t i H ⟨pre, rest, z, c, rfl, rfl, rfl, hg, rfl⟩
  cases rest with
  | cons x rest =>
    simp only [nd0, Y1n, Y1o, Y1p, Y1q, Y1w, Y1x, Y1y, Y1z, Y20, Y21, Y28, Y2a, AV.cells?, Nat.reduceAdd, Nat.reduceMul, decide_eq_true (show ((pre.length : Nat) : Int) < (((pre ++ x :: rest).length : Nat) : Int) by simp; omega)]
    rw [iaddr_Nn (by simp)]
    simp only [nd0, Y1n, Y1o, Y1p, Y1q, Y1w, Y1x, Y1y, Y1z, Y20, Y21, Y28, Y2a, AV.cells?, Nat.reduceAdd, Nat.reduceMul, show (Ex.encL (pre ++ x :: rest))[pre.length]? = some x.enc by rw [Ex.encL_map]; simp]
    refine wCall.fx (hl x (by simp)) fun n2 => ?_
    refine wNewS.F' (l := [S (x.wr inner)]) rfl rfl ?_
    refine wApp.one hg rfl (by rw [Ex.wrL_map]; simp) (.refl _) rfl (by simp [mostBytes] at hn ⊢; omega) ?_
    intro z' x' c2 hg'
    rw [binA_succ (by simp at hn; omega)]
    simp only [nd0, Y1n, Y1o, Y1p, Y1q, Y1w, Y1x, Y1y, Y1z, Y20, Y21, Y28, Y2a, AV.cells?, Nat.reduceAdd, Nat.reduceMul]
    refine back2.mk rest.length (by simp) ⟨pre ++ [x], rest, z', c2, by simp, rfl, by simp, ?_, rfl⟩
    rw [Ex.wrL_map] at hg' ⊢
    simpa using hg'
  | nil =>
    rw [List.append_nil] at hl hn hw hR hlen ⊢
    simp only [nd0, Y1n, Y1o, Y1p, Y1q, Y1w, Y1x, Y1y, Y1z, Y20, Y21, Y28, Y2a, AV.cells?, Nat.reduceAdd, Nat.reduceMul, Int.lt_irrefl]
    have hsub : SubL [t, S sep] [Lm S (Ex.wrL inner pre), S sep] := .cons (by
      have := hg.sub
      rw [Lm_S]
      have e : (Ex.wrL inner pre).length = pre.length := by rw [Ex.wrL_map, List.length_map]
      rw [e]; exact this) (.refl _)
    have hn2 : (Ex.wrL inner pre).length ≤ 10000000 := by rw [Ex.wrL_map, List.length_map]; omega
    cases b with
    | true =>
      simp only [nd0, Y1n, Y1o, Y1p, Y1q, Y1w, Y1x, Y1y, Y1z, Y20, Y21, Y28, Y2a, AV.cells?, Nat.reduceAdd, Nat.reduceMul]
      refine wCall.fxs (B.join (Ex.wrL inner pre) sep hn2 (by omega)) hsub fun n2 => ?_
      rw [show (AV.val (.string ⟨#[40]⟩)) = S [40] from rfl, binA_cat (by simp; omega)]
      simp only [nd0, Y1n, Y1o, Y1p, Y1q, Y1w, Y1x, Y1y, Y1z, Y20, Y21, Y28, Y2a, AV.cells?, Nat.reduceAdd, Nat.reduceMul]
      rw [show (AV.val (.string ⟨#[41]⟩)) = S [41] from rfl, binA_cat (by simp; omega)]
      simp only [nd0, Y1n, Y1o, Y1p, Y1q, Y1w, Y1x, Y1y, Y1z, Y20, Y21, Y28, Y2a, AV.cells?, Nat.reduceAdd, Nat.reduceMul]
      exact hR _ _ rfl
    | false =>
      simp only [nd0, Y1n, Y1o, Y1p, Y1q, Y1w, Y1x, Y1y, Y1z, Y20, Y21, Y28, Y2a, AV.cells?, Nat.reduceAdd, Nat.reduceMul]
      refine wCall.fxs (B.join (Ex.wrL inner pre) sep hn2 (by omega)) hsub fun n2 => ?_
      exact hR _ _ rfl
theorem asA {k k' : Nat} {z a : AV} : assertA k z (.ifc k' a) = some (if k' = k then .tup [a, Bo true] else .tup [z, Bo false]) := by
  simp only [assertA]; split <;> rfl
theorem write_spec (B : WriteBodies E P) : ∀ (n : Nat) (x : Ex), x.wt < n → x.wt ≤ 1000000 → x.fine → ∀ st : Nat, st ≤ 2 → FX E P 146 [x.enc, Z st] (S (x.wr st)) := by
  intro n
  induction n with
  | zero => intro x hx; omega
  | succ n ih =>
    intro x hx hw hf st hst
    refine FX.of' ⟨Ex.enc_closed x, trivial, trivial⟩ trivial fun c R hR => B.write _ _ _ _ ?_
    unfold F.expr_write
    cases x with
    | k b =>
      simp only [Ex.enc]
      simp only [nd0, Y1n, Y1o, Y1p, Y1q, Y1w, Y1x, Y1y, Y1z, Y20, Y21, Y28, Y2a, AV.cells?, Nat.reduceAdd, Nat.reduceMul, asA, if_pos rfl]
      cases b with
      | true => simp only [nd0, Y1n, Y1o, Y1p, Y1q, Y1w, Y1x, Y1y, Y1z, Y20, Y21, Y28, Y2a, AV.cells?, Nat.reduceAdd, Nat.reduceMul]; exact hR _ _ rfl
      | false => simp only [nd0, Y1n, Y1o, Y1p, Y1q, Y1w, Y1x, Y1y, Y1z, Y20, Y21, Y28, Y2a, AV.cells?, Nat.reduceAdd, Nat.reduceMul]; exact hR _ _ rfl
    | bit s =>
      simp only [Ex.enc]
      simp only [nd0, Y1n, Y1o, Y1p, Y1q, Y1w, Y1x, Y1y, Y1z, Y20, Y21, Y28, Y2a, AV.cells?, Nat.reduceAdd, Nat.reduceMul, asA, show (14 : Nat) = 11 ↔ False by decide, show (14 : Nat) = 14 ↔ True by decide]
      exact hR _ _ rfl
    | rise s =>
      simp only [Ex.enc]
      simp only [Ex.wt] at hw
      simp only [nd0, Y1n, Y1o, Y1p, Y1q, Y1w, Y1x, Y1y, Y1z, Y20, Y21, Y28, Y2a, AV.cells?, Nat.reduceAdd, Nat.reduceMul, asA, show (12 : Nat) = 11 ↔ False by decide, show (12 : Nat) = 14 ↔ False by decide, show (12 : Nat) = 12 ↔ True by decide]
      rw [show (AV.val (.string ⟨#[94]⟩)) = S [94] from rfl, binA_cat (by simp; omega)]
      simp only [nd0, Y1n, Y1o, Y1p, Y1q, Y1w, Y1x, Y1y, Y1z, Y20, Y21, Y28, Y2a, AV.cells?, Nat.reduceAdd, Nat.reduceMul]
      exact hR _ _ rfl
    | fall s =>
      simp only [Ex.enc]
      simp only [Ex.wt] at hw
      simp only [nd0, Y1n, Y1o, Y1p, Y1q, Y1w, Y1x, Y1y, Y1z, Y20, Y21, Y28, Y2a, AV.cells?, Nat.reduceAdd, Nat.reduceMul, asA, show (13 : Nat) = 11 ↔ False by decide, show (13 : Nat) = 14 ↔ False by decide, show (13 : Nat) = 12 ↔ False by decide, show (13 : Nat) = 13 ↔ True by decide]
      rw [show (AV.val (.string ⟨#[126]⟩)) = S [126] from rfl, binA_cat (by simp; omega)]
      simp only [nd0, Y1n, Y1o, Y1p, Y1q, Y1w, Y1x, Y1y, Y1z, Y20, Y21, Y28, Y2a, AV.cells?, Nat.reduceAdd, Nat.reduceMul]
      exact hR _ _ rfl
    | not x =>
      simp only [Ex.enc]
      simp only [Ex.wt] at hw
      simp only [Ex.wt] at hx
      have hlx := Ex.wr_len x 2
      simp only [nd0, Y1n, Y1o, Y1p, Y1q, Y1w, Y1x, Y1y, Y1z, Y20, Y21, Y28, Y2a, AV.cells?, Nat.reduceAdd, Nat.reduceMul, asA, show (10 : Nat) = 11 ↔ False by decide, show (10 : Nat) = 14 ↔ False by decide, show (10 : Nat) = 12 ↔ False by decide, show (10 : Nat) = 13 ↔ False by decide, show (10 : Nat) = 10 ↔ True by decide]
      refine wNew.L (l := [nilE]) rfl ?_
      simp only [nd0, Y1n, Y1o, Y1p, Y1q, Y1w, Y1x, Y1y, Y1z, Y20, Y21, Y28, Y2a, AV.cells?, Nat.reduceAdd, Nat.reduceMul]
      rw [storeN_L (n := 1) (xs := [x.enc]) rfl (by simp [Ex.enc_scalar])]
      simp only [nd0, Y1n, Y1o, Y1p, Y1q, Y1w, Y1x, Y1y, Y1z, Y20, Y21, Y28, Y2a, AV.cells?, Nat.reduceAdd, Nat.reduceMul, show putL [nilE] 0 [x.enc] = some [x.enc] from rfl]
      refine wCall.fx (ih x (by omega) (by omega) hf 2 (by omega)) fun n2 => ?_
      rw [show (AV.val (.string ⟨#[33]⟩)) = S [33] from rfl, binA_cat (by simp; omega)]
      simp only [nd0, Y1n, Y1o, Y1p, Y1q, Y1w, Y1x, Y1y, Y1z, Y20, Y21, Y28, Y2a, AV.cells?, Nat.reduceAdd, Nat.reduceMul]
      exact hR _ _ rfl
    | and l =>
      simp only [Ex.enc]
      simp only [Ex.wt] at hw
      simp only [Ex.wt] at hx
      simp only [nd0, Y1n, Y1o, Y1p, Y1q, Y1w, Y1x, Y1y, Y1z, Y20, Y21, Y28, Y2a, AV.cells?, Nat.reduceAdd, Nat.reduceMul, asA, show (9 : Nat) = 11 ↔ False by decide, show (9 : Nat) = 14 ↔ False by decide, show (9 : Nat) = 12 ↔ False by decide, show (9 : Nat) = 13 ↔ False by decide, show (9 : Nat) = 10 ↔ False by decide, show (9 : Nat) = 9 ↔ True by decide]
      have hll := Ex.len_wtL hf.2
      have hb : decide ((2 : Int) ≤ (st : Int)) = decide (2 ≤ st) := decide_eq_decide.2 (by omega)
      rw [hb]
      refine wCall.fx (join2_spec B l [32, 38, 32] 2 (decide (2 ≤ st)) (fun x hxm => ?_) (by omega) (by omega) (by simp)) fun n2 => ?_
      · have h1 := Ex.wt_mem hxm
        exact ih x (by omega) (by omega) (Ex.fine_mem hf.2 hxm) 2 (by omega)
      · exact hR _ _ rfl
    | or l =>
      simp only [Ex.enc]
      simp only [Ex.wt] at hw
      simp only [Ex.wt] at hx
      simp only [nd0, Y1n, Y1o, Y1p, Y1q, Y1w, Y1x, Y1y, Y1z, Y20, Y21, Y28, Y2a, AV.cells?, Nat.reduceAdd, Nat.reduceMul, asA, show (8 : Nat) = 11 ↔ False by decide, show (8 : Nat) = 14 ↔ False by decide, show (8 : Nat) = 12 ↔ False by decide, show (8 : Nat) = 13 ↔ False by decide, show (8 : Nat) = 10 ↔ False by decide, show (8 : Nat) = 9 ↔ False by decide, show (8 : Nat) = 8 ↔ True by decide]
      have hll := Ex.len_wtL hf.2
      have hb : decide ((1 : Int) ≤ (st : Int)) = decide (1 ≤ st) := decide_eq_decide.2 (by omega)
      rw [hb]
      refine wCall.fx (join2_spec B l [32, 124, 32] 1 (decide (1 ≤ st)) (fun x hxm => ?_) (by omega) (by omega) (by simp)) fun n2 => ?_
      · have h1 := Ex.wt_mem hxm
        exact ih x (by omega) (by omega) (Ex.fine_mem hf.2 hxm) 1 (by omega)
      · exact hR _ _ rfl
theorem Text_spec (B : WriteBodies E P) (x : Ex) (hw : x.wt ≤ 1000000) (hf : x.fine) : FX E P 127 [x.enc] (S (x.wr 0)) := by
  have hx : FX E P 146 [x.enc, Z 0] (S (x.wr 0)) := write_spec B (x.wt + 1) x (by omega) hw hf 0 (by omega)
  refine FX.of' ⟨Ex.enc_closed x, trivial⟩ trivial fun c R hR => B.text _ _ _ ?_
  unfold F.expr_Text
  have hne : eqA .iface x.enc nilE = some false := by cases x <;> rfl
  simp only [nd0, Y1n, Y1o, Y1p, Y1q, Y1w, Y1x, Y1y, Y1z, Y20, Y21, Y28, Y2a, AV.cells?, Nat.reduceAdd, Nat.reduceMul, hne]
  cases x with
  | k b =>
    refine wInv.fx B.mConst (r := S (Ex.wr 0 (.k b))) (FX.of' ⟨trivial, trivial⟩ trivial fun c R hR => B.tConst _ _ _ ?_) fun n => hR _ _ rfl
    unfold F.expr_Const_Text
    exact wCall.fx hx fun n => hR _ _ rfl
  | bit s =>
    refine wInv.fx B.mBit (r := S (Ex.wr 0 (.bit s))) (FX.of' ⟨trivial, trivial⟩ trivial fun c R hR => B.tBit _ _ _ ?_) fun n => hR _ _ rfl
    unfold F.expr_Bit_Text
    exact wCall.fx hx fun n => hR _ _ rfl
  | rise s =>
    refine wInv.fx B.mRise (r := S (Ex.wr 0 (.rise s))) (FX.of' ⟨trivial, trivial⟩ trivial fun c R hR => B.tRise _ _ _ ?_) fun n => hR _ _ rfl
    unfold F.expr_Rise_Text
    exact wCall.fx hx fun n => hR _ _ rfl
  | fall s =>
    refine wInv.fx B.mFall (r := S (Ex.wr 0 (.fall s))) (FX.of' ⟨trivial, trivial⟩ trivial fun c R hR => B.tFall _ _ _ ?_) fun n => hR _ _ rfl
    unfold F.expr_Fall_Text
    exact wCall.fx hx fun n => hR _ _ rfl
  | not x =>
    refine wInv.fx B.mNot (r := S (Ex.wr 0 (.not x))) (FX.of' ⟨⟨Ex.enc_closed x, trivial⟩, trivial⟩ trivial fun c R hR => B.tNot _ _ _ ?_) fun n => hR _ _ rfl
    unfold F.expr_Not_Text
    refine wNew.F' (l := [x.enc]) rfl ?_
    simp only [nd0, Y1n, Y1o, Y1p, Y1q, Y1w, Y1x, Y1y, Y1z, Y20, Y21, Y28, Y2a, AV.cells?, Nat.reduceAdd, Nat.reduceMul, show subL [x.enc] 0 1 = some [x.enc] from rfl]
    exact wCall.fx hx fun n => hR _ _ rfl
  | and l =>
    refine wInv.fx B.mAnd (r := S (Ex.wr 0 (.and l))) (FX.of' ⟨Ex.encL_closed l, trivial⟩ trivial fun c R hR => B.tAnd _ _ _ ?_) fun n => hR _ _ rfl
    unfold F.expr_And_Text
    exact wCall.fx hx fun n => hR _ _ rfl
  | or l =>
    refine wInv.fx B.mOr (r := S (Ex.wr 0 (.or l))) (FX.of' ⟨Ex.encL_closed l, trivial⟩ trivial fun c R hR => B.tOr _ _ _ ?_) fun n => hR _ _ rfl
    unfold F.expr_Or_Text
    exact wCall.fx hx fun n => hR _ _ rfl
end
end Go.Sc
namespace Go.Sc.F
open Go Go.Sc
set_option linter.unusedVariables false

/-- signalbox/signalboxkeep.BlockMoore -/
def keep_BlockMoore (E : Env) (P : Program) (a0 a1 a2 a3 : AV) (H : AH) (R : Kt) : Prop :=
  wNew 2 (AV.cells? a0) H fun t4 H =>
  wGet (loadN 2 t4 H) H fun t26 H =>
  wCall E P 45 [t26, (.val (.int .i64 60))] H fun t27 H =>
  wGet (unA .not t27) H fun t28 H =>
  wGuard t28 false H (fun k => k a3 H) fun t30 H =>
  wGuard t28 false H (fun k => wGet (lenA t30) H k) fun t31 H =>
  wGuard t28 false H (fun k => wGet (binA .gtr t31 (.val (.int .i64 40))) H k) fun t32 H =>
  wGet (pickA t28 (.val (.bool true)) t32) H fun t33 H =>
  wIf t33 (
    R (.val (.bool true)) H) (
    wGet (loadN 2 t4 H) H fun t35 H =>
    wCall E P 46 [t35] H fun t36 H =>
    wGet (extractA t36 0) H fun t37 H =>
    wGet (extractA t36 1) H fun t38 H =>
    wCall E P 47 [] H fun t39 H =>
    wGet (unA .not t39) H fun t40 H =>
    wGuard t40 false H (fun k => k t38 H) fun t42 H =>
    wGuard t40 false H (fun k => wBool (eqA .iface t42 (.val (.nilIface))) H true k) fun t43 H =>
    wGet (pickA t40 (.val (.bool true)) t43) H fun t44 H =>
    wIf t44 (
      wCall E P 47 [] H fun t45 H =>
      wGuard t45 true H (fun k => k t37 H) fun t47 H =>
      wGuard t45 true H (fun k => wGet (lenA t47) H k) fun t48 H =>
      wGuard t45 true H (fun k => wGet (binA .eql t48 (.val (.int .i64 0))) H k) fun t49 H =>
      wGet (pickA t45 t49 (.val (.bool false))) H fun t50 H =>
      R t50 H) (
      wGet (faddr 0 t4) H fun t51 H =>
      wGet (load1 t51 H) H fun t52 H =>
      wGet (lenA t52) H fun t53 H =>
      wGet (faddr 0 t4) H fun t54 H =>
      wGet (load1 t54 H) H fun t55 H =>
      wGet (iaddr 1 t55 (.val (.int .i64 0))) H fun t56 H =>
      wGet (load1 t56 H) H fun t57 H =>
      wGet (lenA t57) H fun t58 H =>
      (wGet (load1 t54 H) H (fun y H2 => y = t55 ∧ H2 = H)) ∧
      (wGet (load1 t56 H) H (fun y H2 => y = t57 ∧ H2 = H)) ∧
      wCall E P 48 [a1, t53] H fun t61 H =>
      wCall E P 48 [a2, t53] H fun t64 H =>
      wGet (loadN 2 t4 H) H fun t66 H =>
      wCall E P 49 [t66] H fun t67 H =>
      wGet (extractA t67 0) H fun t68 H =>
      wGet (extractA t67 1) H fun t69 H =>
      wNew 2 (some [(.val (.slice none 0 0)), (.val (.slice none 0 0))]) H fun t13 H =>
      wPut (storeN 2 t13 t68 H) fun _u H =>
      wBool (eqA .iface t69 (.val (.nilIface))) H true fun t71 H =>
      wGuard t71 false H (fun k => k t37 H) fun t73 H =>
      wGuard t71 false H (fun k => wGet (lenA t73) H k) fun t74 H =>
      wGuard t71 false H (fun k => k t53 H) fun t75 H =>
      wGuard t71 false H (fun k => wGet (binA .neq t74 t75) H k) fun t76 H =>
      wGet (pickA t71 (.val (.bool true)) t76) H fun t77 H =>
      wIf t77 (
        R (.val (.bool false)) H) (
        wLoop 2 (fun I1 => I1 (.val (.slice none 0 0)) (.val (.int .i64 0)) H) fun I1 t14 t15 H =>
          wGet (lenA a3) H fun t80 H =>
          wGet (binA .lss t15 t80) H fun t81 H =>
          wGuard t81 true H (fun k => k t58 H) fun t83 H =>
          wGuard t81 true H (fun k => wGet (binA .gtr t83 (.val (.int .i64 0))) H k) fun t84 H =>
          wGet (pickA t81 t84 (.val (.bool false))) H fun t85 H =>
          wIf t85 (
            wGet (iaddr 1 a3 t15) H fun t91 H =>
            wGet (load1 t91 H) H fun t92 H =>
            wCall E P 48 [t92, t58] H fun t94 H =>
            wNewS 1 1 (fillA (List.replicate 1 [(.val (.int .i64 0))]).flatten [(0, 1, t94)]) H fun t95 H =>
            wApp 1 8 t14 t95 H fun t96 H =>
            wGet (binA .add t15 (.val (.int .i64 1))) H fun t87 H =>
            I1 t96 t87 H) (
            wGet (loadN 2 t4 H) H fun t98 H =>
            wCall E P 50 [t98, t61, t14] H fun t101 H =>
            wGet (extractA t101 0) H fun t102 H =>
            wGet (extractA t101 1) H fun t103 H =>
            wGet (loadN 2 t4 H) H fun t105 H =>
            wCall E P 50 [t105, t64, t14] H fun t108 H =>
            wGet (extractA t108 0) H fun t109 H =>
            wGet (extractA t108 1) H fun t110 H =>
            wGet (loadN 2 t13 H) H fun t112 H =>
            wGet (iaddr 1 t37 t61) H fun t115 H =>
            wGet (load1 t115 H) H fun t116 H =>
            wCall E P 50 [t112, t116, t14] H fun t118 H =>
            wGet (extractA t118 0) H fun t119 H =>
            wGet (extractA t118 1) H fun t120 H =>
            wBool (eqA .iface t103 (.val (.nilIface))) H true fun t122 H =>
            wGuard t122 false H (fun k => k t110 H) fun t124 H =>
            wGuard t122 false H (fun k => wBool (eqA .iface t124 (.val (.nilIface))) H true k) fun t125 H =>
            wGet (pickA t122 (.val (.bool true)) t125) H fun t126 H =>
            wGuard t126 false H (fun k => k t120 H) fun t128 H =>
            wGuard t126 false H (fun k => wBool (eqA .iface t128 (.val (.nilIface))) H true k) fun t129 H =>
            wGet (pickA t126 (.val (.bool true)) t129) H fun t130 H =>
            wGuard t130 false H (fun k => k t102 H) fun t132 H =>
            wGuard t130 false H (fun k => k t119 H) fun t133 H =>
            wGuard t130 false H (fun k => wCall E P 51 [t132, t133] H k) fun t134 H =>
            wGuard t130 false H (fun k => wGet (unA .not t134) H k) fun t135 H =>
            wGet (pickA t130 (.val (.bool true)) t135) H fun t136 H =>
            wIf t136 (
              R (.val (.bool false)) H) (
              wGet (loadN 2 t4 H) H fun t138 H =>
              wCall E P 52 [t138, t61, t64] H fun t141 H =>
              wGet (extractA t141 0) H fun t142 H =>
              wGet (extractA t141 1) H fun t143 H =>
              wGet (iaddr 1 t37 t61) H fun t146 H =>
              wGet (load1 t146 H) H fun t147 H =>
              wGet (iaddr 1 t37 t64) H fun t150 H =>
              wGet (load1 t150 H) H fun t151 H =>
              wGet (binA .eql t147 t151) H fun t152 H =>
              wIf t152 (
                wCall E P 51 [t102, t109] H fun t155 H =>
                wGuard t155 true H (fun k => k t143 H) fun t157 H =>
                wGuard t155 true H (fun k => wCall E P 53 [t157] H k) fun t158 H =>
                wGuard t155 true H (fun k => wGet (binA .eql t158 (.val (.int .i64 8))) H k) fun t159 H =>
                wGet (pickA t155 t159 (.val (.bool false))) H fun t160 H =>
                R t160 H) (
                wGet (loadN 2 t4 H) H fun t162 H =>
                wCall E P 50 [t162, t61, t142] H fun t165 H =>
                wGet (extractA t165 0) H fun t166 H =>
                wGet (extractA t165 1) H fun t167 H =>
                wGet (loadN 2 t4 H) H fun t169 H =>
                wCall E P 50 [t169, t64, t142] H fun t172 H =>
                wGet (extractA t172 0) H fun t173 H =>
                wGet (extractA t172 1) H fun t174 H =>
                wBool (eqA .iface t143 (.val (.nilIface))) H true fun t176 H =>
                wGuard t176 false H (fun k => k t167 H) fun t178 H =>
                wGuard t176 false H (fun k => wBool (eqA .iface t178 (.val (.nilIface))) H true k) fun t179 H =>
                wGet (pickA t176 (.val (.bool true)) t179) H fun t180 H =>
                wGuard t180 false H (fun k => k t174 H) fun t182 H =>
                wGuard t180 false H (fun k => wBool (eqA .iface t182 (.val (.nilIface))) H true k) fun t183 H =>
                wGet (pickA t180 (.val (.bool true)) t183) H fun t184 H =>
                wGuard t184 false H (fun k => k t166 H) fun t186 H =>
                wGuard t184 false H (fun k => wGet (lenA t186) H k) fun t187 H =>
                wGuard t184 false H (fun k => k t142 H) fun t188 H =>
                wGuard t184 false H (fun k => wGet (lenA t188) H k) fun t189 H =>
                wGuard t184 false H (fun k => wGet (binA .neq t187 t189) H k) fun t190 H =>
                wGet (pickA t184 (.val (.bool true)) t190) H fun t191 H =>
                wGuard t191 false H (fun k => k t173 H) fun t193 H =>
                wGuard t191 false H (fun k => wGet (lenA t193) H k) fun t194 H =>
                wGuard t191 false H (fun k => k t142 H) fun t195 H =>
                wGuard t191 false H (fun k => wGet (lenA t195) H k) fun t196 H =>
                wGuard t191 false H (fun k => wGet (binA .neq t194 t196) H k) fun t197 H =>
                wGet (pickA t191 (.val (.bool true)) t197) H fun t198 H =>
                wGuard t198 false H (fun k => k t142 H) fun t200 H =>
                wGuard t198 false H (fun k => wGet (lenA t200) H k) fun t201 H =>
                wGuard t198 false H (fun k => wGet (binA .eql t201 (.val (.int .i64 0))) H k) fun t202 H =>
                wGet (pickA t198 (.val (.bool true)) t202) H fun t203 H =>
                wIf t203 (
                  R (.val (.bool false)) H) (
                  wGet (lenA t142) H fun t205 H =>
                  wGet (binA .sub t205 (.val (.int .i64 1))) H fun t206 H =>
                  wGet (iaddr 1 t166 t206) H fun t209 H =>
                  wGet (load1 t209 H) H fun t210 H =>
                  wGet (iaddr 1 t173 t206) H fun t213 H =>
                  wGet (load1 t213 H) H fun t214 H =>
                  wGet (binA .neq t210 t214) H fun t215 H =>
                  wGuard t215 true H (fun k => k t166 H) fun t217 H =>
                  wGuard t215 true H (fun k => k t206 H) fun t218 H =>
                  wGuard t215 true H (fun k => wGet (sliceA 1 t217 none (some t218) H) H k) fun t219 H =>
                  wGuard t215 true H (fun k => k t173 H) fun t220 H =>
                  wGuard t215 true H (fun k => k t206 H) fun t221 H =>
                  wGuard t215 true H (fun k => wGet (sliceA 1 t220 none (some t221) H) H k) fun t222 H =>
                  wGuard t215 true H (fun k => wCall E P 51 [t219, t222] H k) fun t223 H =>
                  wGet (pickA t215 t223 (.val (.bool false))) H fun t224 H =>
                  R t224 H)))))))

/-- signalbox/signalboxkeep.few -/
def keep_few (E : Env) (P : Program) (a0 a1 : AV) (H : AH) (R : Kt) : Prop :=
  wNew 2 (AV.cells? a0) H fun t2 H =>
  wGet (faddr 0 t2) H fun t5 H =>
  wGet (load1 t5 H) H fun t6 H =>
  wGet (lenA t6) H fun t7 H =>
  wGet (binA .leq t7 a1) H fun t9 H =>
  wGuard t9 true H (fun k => wGet (faddr 1 t2) H k) fun t11 H =>
  wGuard t9 true H (fun k => wGet (load1 t11 H) H k) fun t12 H =>
  wGuard t9 true H (fun k => wGet (lenA t12) H k) fun t13 H =>
  wGuard t9 true H (fun k => wGet (binA .leq t13 (.val (.int .i64 500))) H k) fun t14 H =>
  wGet (pickA t9 t14 (.val (.bool false))) H fun t15 H =>
  wGuard t15 true H (fun k => wGet (faddr 0 t2) H k) fun t17 H =>
  wGuard t15 true H (fun k => wGet (load1 t17 H) H k) fun t18 H =>
  wGuard t15 true H (fun k => wGet (lenA t18) H k) fun t19 H =>
  wGuard t15 true H (fun k => wGet (binA .eql t19 (.val (.int .i64 0))) H k) fun t20 H =>
  wGuard t15 true H (fun k => k t20 H) fun t21 H =>
  wGuard t21 false H (fun k => wGet (faddr 0 t2) H k) fun t22 H =>
  wGuard t21 false H (fun k => wGet (load1 t22 H) H k) fun t23 H =>
  wGuard t21 false H (fun k => wGet (iaddr 1 t23 (.val (.int .i64 0))) H k) fun t24 H =>
  wGuard t21 false H (fun k => wGet (load1 t24 H) H k) fun t25 H =>
  wGuard t21 false H (fun k => wGet (lenA t25) H k) fun t26 H =>
  wGuard t21 false H (fun k => wGet (binA .leq t26 (.val (.int .i64 16))) H k) fun t27 H =>
  wGuard t15 true H (fun k => wGet (pickA t21 (.val (.bool true)) t27) H k) fun t28 H =>
  wGet (pickA t15 t28 (.val (.bool false))) H fun t29 H =>
  R t29 H

/-- signalbox/block.Blocks -/
def block_Blocks (E : Env) (P : Program) (a0 : AV) (H : AH) (R : Kt) : Prop :=
  wNew 2 (AV.cells? a0) H fun t1 H =>
  wGet (loadN 2 t1 H) H fun t6 H =>
  wCall E P 55 [t6] H fun t7 H =>
  wBool (eqA .iface t7 (.val (.nilIface))) H true fun t9 H =>
  wIf t9 (
    R (.tup [(.val (.slice none 0 0)), t7]) H) (
    wGet (loadN 2 t1 H) H fun t11 H =>
    wCall E P 56 [t11] H fun t12 H =>
    wGet (lenA t12) H fun t15 H =>
    wGet (binA .sub t15 (.val (.int .i64 1))) H fun t16 H =>
    wGet (iaddr 1 t12 t16) H fun t17 H =>
    wGet (load1 t17 H) H fun t18 H =>
    R (.tup [t18, (.val (.nilIface))]) H)

/-- signalbox/signalboxkeep.blocked -/
def keep_blocked (E : Env) (P : Program) (H : AH) (R : Kt) : Prop :=
  wNewS 1 1 (fillA (List.replicate 1 [(.val (.int .i64 0))]).flatten [(0, 1, (.val (.int .i64 1)))]) H fun t6 H =>
  wNewS 1 1 (fillA (List.replicate 1 [(.val (.int .i64 0))]).flatten [(0, 1, (.val (.int .i64 0)))]) H fun t7 H =>
  wNewS 1 1 (fillA (List.replicate 1 [(.val (.int .i64 0))]).flatten [(0, 1, (.val (.int .i64 0)))]) H fun t8 H =>
  wNewS 1 3 (fillA (List.replicate 3 [(.val (.slice none 0 0))]).flatten [(0, 1, t6), (1, 1, t7), (2, 1, t8)]) H fun t9 H =>
  wNewS 1 1 (fillA (List.replicate 1 [(.val (.int .i64 0))]).flatten [(0, 1, (.val (.int .i64 5)))]) H fun t10 H =>
  wNewS 1 1 (fillA (List.replicate 1 [(.val (.int .i64 0))]).flatten [(0, 1, (.val (.int .i64 5)))]) H fun t11 H =>
  wNewS 1 1 (fillA (List.replicate 1 [(.val (.int .i64 0))]).flatten [(0, 1, (.val (.int .i64 6)))]) H fun t12 H =>
  wNewS 1 3 (fillA (List.replicate 3 [(.val (.slice none 0 0))]).flatten [(0, 1, t10), (1, 1, t11), (2, 1, t12)]) H fun t13 H =>
  wAgg (fillA [(.val (.slice none 0 0)), (.val (.slice none 0 0))] [(0, 1, t9), (1, 1, t13)]) H fun t14 H =>
  wNew 2 (some [(.val (.slice none 0 0)), (.val (.slice none 0 0))]) H fun t1 H =>
  wPut (storeN 2 t1 t14 H) fun _u H =>
  wGet (loadN 2 t1 H) H fun t16 H =>
  wCall E P 46 [t16] H fun t17 H =>
  wGet (extractA t17 0) H fun t18 H =>
  wGet (extractA t17 1) H fun t19 H =>
  wGet (loadN 2 t1 H) H fun t21 H =>
  wCall E P 52 [t21, (.val (.int .i64 0)), (.val (.int .i64 2))] H fun t22 H =>
  wGet (extractA t22 0) H fun t23 H =>
  wGet (extractA t22 1) H fun t24 H =>
  wBool (eqA .iface t19 (.val (.nilIface))) H false fun t26 H =>
  wGuard t26 true H (fun k => k t24 H) fun t28 H =>
  wGuard t26 true H (fun k => wBool (eqA .iface t28 (.val (.nilIface))) H false k) fun t29 H =>
  wGet (pickA t26 t29 (.val (.bool false))) H fun t30 H =>
  wGuard t30 true H (fun k => k t18 H) fun t32 H =>
  wGuard t30 true H (fun k => wNewS 1 3 (fillA (List.replicate 3 [(.val (.int .i64 0))]).flatten [(0, 1, (.val (.int .i64 0))), (1, 1, (.val (.int .i64 0))), (2, 1, (.val (.int .i64 1)))]) H k) fun t33 H =>
  wGuard t30 true H (fun k => wCall E P 51 [t32, t33] H k) fun t34 H =>
  wGet (pickA t30 t34 (.val (.bool false))) H fun t35 H =>
  wGuard t35 true H (fun k => k t23 H) fun t37 H =>
  wGuard t35 true H (fun k => wNewS 1 1 (fillA (List.replicate 1 [(.val (.int .i64 0))]).flatten [(0, 1, (.val (.int .i64 0)))]) H k) fun t38 H =>
  wGuard t35 true H (fun k => wCall E P 51 [t37, t38] H k) fun t39 H =>
  wGet (pickA t35 t39 (.val (.bool false))) H fun t40 H =>
  R t40 H

/-- signalbox/signalboxkeep.pick -/
def keep_pick (E : Env) (P : Program) (a0 a1 : AV) (H : AH) (R : Kt) : Prop :=
  wGet (convA (.int .u64) a0) H fun t6 H =>
  wGet (convA (.int .u64) a1) H fun t8 H =>
  wGet (binA .rem t6 t8) H fun t9 H =>
  wGet (convA (.int .i64) t9) H fun t10 H =>
  R t10 H

/-- signalbox/block.Least -/
def block_Least (E : Env) (P : Program) (a0 : AV) (H : AH) (R : Kt) : Prop :=
  wNew 2 (AV.cells? a0) H fun t1 H =>
  wNew 2 (some [(.val (.slice none 0 0)), (.val (.slice none 0 0))]) H fun t2 H =>
  wGet (loadN 2 t1 H) H fun t13 H =>
  wCall E P 46 [t13] H fun t14 H =>
  wGet (extractA t14 0) H fun t15 H =>
  wGet (extractA t14 1) H fun t16 H =>
  wBool (eqA .iface t16 (.val (.nilIface))) H true fun t18 H =>
  wIf t18 (
    wAgg (fillA [(.val (.slice none 0 0)), (.val (.slice none 0 0))] []) H fun t19 H =>
    wPut (storeN 2 t2 t19 H) fun _u H =>
    wGet (retPack [loadN 2 t2 H, some t16]) H R) (
    wNew 2 (some [(.val (.slice none 0 0)), (.val (.slice none 0 0))]) H fun t6 H =>
    wGet (lenA t15) H fun t22 H =>
    wLoop 1 (fun I1 => I1 (.val (.int .i64 0)) H) fun I1 t23 H =>
      wGet (binA .lss t23 t22) H fun t24 H =>
      wIf t24 (
        wJoin 0 (fun J2 =>
          wGet (iaddr 1 t15 t23) H fun t26 H =>
          wGet (load1 t26 H) H fun t27 H =>
          wGet (faddr 0 t6) H fun t29 H =>
          wGet (load1 t29 H) H fun t30 H =>
          wGet (lenA t30) H fun t31 H =>
          wGet (binA .lss t27 t31) H fun t32 H =>
          wIf t32 (
            J2 H) (
            wGet (faddr 0 t1) H fun t33 H =>
            wGet (load1 t33 H) H fun t34 H =>
            wGet (iaddr 1 t34 t23) H fun t36 H =>
            wGet (load1 t36 H) H fun t37 H =>
            wGet (lenA t37) H fun t38 H =>
            wLoop 2 (fun I3 => I3 (.val (.slice none 0 0)) (.val (.int .i64 0)) H) fun I3 t9 t39 H =>
              wGet (binA .lss t39 t38) H fun t40 H =>
              wIf t40 (
                wGet (iaddr 1 t37 t39) H fun t41 H =>
                wGet (load1 t41 H) H fun t42 H =>
                wGet (iaddr 1 t15 t42) H fun t46 H =>
                wGet (load1 t46 H) H fun t47 H =>
                wNewS 1 1 (fillA (List.replicate 1 [(.val (.int .i64 0))]).flatten [(0, 1, t47)]) H fun t48 H =>
                wApp 1 8 t9 t48 H fun t49 H =>
                wGet (binA .add t39 (.val (.int .i64 1))) H fun t50 H =>
                I3 t49 t50 H) (
                wGet (faddr 0 t6) H fun t51 H =>
                wGet (load1 t51 H) H fun t52 H =>
                wGet (faddr 1 t6) H fun t56 H =>
                wGet (load1 t56 H) H fun t57 H =>
                wGet (faddr 1 t1) H fun t58 H =>
                wGet (load1 t58 H) H fun t59 H =>
                wGet (iaddr 1 t59 t23) H fun t61 H =>
                wGet (load1 t61 H) H fun t62 H =>
                wNewS 1 1 (fillA (List.replicate 1 [(.val (.slice none 0 0))]).flatten [(0, 1, t9)]) H fun t54 H =>
                (wGet (load1 t51 H) H (fun y H2 => y = t52 ∧ H2 = H)) ∧
                (wGet (load1 t56 H) H (fun y H2 => y = t57 ∧ H2 = H)) ∧
                (wGet (load1 t58 H) H (fun y H2 => y = t59 ∧ H2 = H)) ∧
                (wGet (load1 t61 H) H (fun y H2 => y = t62 ∧ H2 = H)) ∧
                wApp 1 24 t52 t54 H fun t55 H =>
                (wGet (load1 t56 H) H (fun y H2 => y = t57 ∧ H2 = H)) ∧
                (wGet (load1 t58 H) H (fun y H2 => y = t59 ∧ H2 = H)) ∧
                (wGet (load1 t61 H) H (fun y H2 => y = t62 ∧ H2 = H)) ∧
                wGet (faddr 0 t6) H fun t66 H =>
                wCall E P 57 [t62] H fun t63 H =>
                (wGet (load1 t56 H) H (fun y H2 => y = t57 ∧ H2 = H)) ∧
                wNewS 1 1 (fillA (List.replicate 1 [(.val (.slice none 0 0))]).flatten [(0, 1, t63)]) H fun t64 H =>
                (wGet (load1 t56 H) H (fun y H2 => y = t57 ∧ H2 = H)) ∧
                wApp 1 24 t57 t64 H fun t65 H =>
                wPut (store1 t66 t55 H) fun _u H =>
                wGet (faddr 1 t6) H fun t67 H =>
                wPut (store1 t67 t65 H) fun _u H =>
                J2 H))) fun H =>
          wGet (binA .add t23 (.val (.int .i64 1))) H fun t68 H =>
          I1 t68 H) (
        wGet (loadN 2 t6 H) H fun t69 H =>
        wPut (storeN 2 t2 t69 H) fun _u H =>
        wGet (retPack [loadN 2 t2 H, some (.val (.nilIface))]) H R))

/-- signalbox/block.Tell -/
def block_Tell (E : Env) (P : Program) (a0 a1 a2 : AV) (H : AH) (R : Kt) : Prop :=
  wNew 2 (AV.cells? a0) H fun t3 H =>
  wGet (loadN 2 t3 H) H fun t12 H =>
  wCall E P 55 [t12] H fun t13 H =>
  wBool (eqA .iface t13 (.val (.nilIface))) H true fun t15 H =>
  wIf t15 (
    R (.tup [(.val (.slice none 0 0)), t13]) H) (
    wGet (binA .lss a1 (.val (.int .i64 0))) H fun t18 H =>
    wGuard t18 false H (fun k => k a1 H) fun t20 H =>
    wGuard t18 false H (fun k => wGet (faddr 0 t3) H k) fun t21 H =>
    wGuard t18 false H (fun k => wGet (load1 t21 H) H k) fun t22 H =>
    wGuard t18 false H (fun k => wGet (lenA t22) H k) fun t23 H =>
    wGuard t18 false H (fun k => wGet (binA .geq t20 t23) H k) fun t24 H =>
    wGet (pickA t18 (.val (.bool true)) t24) H fun t25 H =>
    wGuard t25 false H (fun k => k a2 H) fun t27 H =>
    wGuard t25 false H (fun k => k (.fn 58 [] [t3]) H) fun t28 H =>
    wGuard t25 false H (fun k => wCall E P 59 [t27, t28] H k) fun t29 H =>
    wGet (pickA t25 (.val (.bool true)) t29) H fun t30 H =>
    wIf t30 (
      R (.tup [(.val (.slice none 0 0)), (.ifc 1 (.val (.int .i64 2)))]) H) (
      wGet (lenA a2) H fun t33 H =>
      wLoop 3 (fun I1 => I1 a1 (.val (.slice none 0 0)) (.val (.int .i64 0)) H) fun I1 t1 t9 t34 H =>
        wGet (binA .lss t34 t33) H fun t35 H =>
        wIf t35 (
          wGet (iaddr 1 a2 t34) H fun t36 H =>
          wGet (load1 t36 H) H fun t37 H =>
          wGet (faddr 1 t3) H fun t39 H =>
          wGet (load1 t39 H) H fun t40 H =>
          wGet (iaddr 1 t40 t1) H fun t42 H =>
          wGet (load1 t42 H) H fun t43 H =>
          wGet (iaddr 1 t43 t37) H fun t45 H =>
          wGet (load1 t45 H) H fun t46 H =>
          wNewS 1 1 (fillA (List.replicate 1 [(.val (.int .i64 0))]).flatten [(0, 1, t46)]) H fun t47 H =>
          wApp 1 8 t9 t47 H fun t48 H =>
          wGet (faddr 0 t3) H fun t49 H =>
          wGet (load1 t49 H) H fun t50 H =>
          wGet (iaddr 1 t50 t1) H fun t52 H =>
          wGet (load1 t52 H) H fun t53 H =>
          wGet (iaddr 1 t53 t37) H fun t55 H =>
          wGet (load1 t55 H) H fun t56 H =>
          wGet (binA .add t34 (.val (.int .i64 1))) H fun t57 H =>
          I1 t56 t48 t57 H) (
          R (.tup [t9, (.val (.nilIface))]) H)))

/-- signalbox/signalboxkeep.sameInts -/
def keep_sameInts (E : Env) (P : Program) (a0 a1 : AV) (H : AH) (R : Kt) : Prop :=
  wGet (lenA a0) H fun t7 H =>
  wGet (lenA a1) H fun t9 H =>
  wGet (binA .neq t7 t9) H fun t10 H =>
  wIf t10 (
    R (.val (.bool false)) H) (
    wLoop 1 (fun I1 => I1 (.val (.int .i64 0)) H) fun I1 t5 H =>
      wGet (lenA a0) H fun t13 H =>
      wGet (binA .lss t5 t13) H fun t14 H =>
      wIf t14 (
        wGet (iaddr 1 a0 t5) H fun t19 H =>
        wGet (load1 t19 H) H fun t20 H =>
        wGet (iaddr 1 a1 t5) H fun t23 H =>
        wGet (load1 t23 H) H fun t24 H =>
        wGet (binA .neq t20 t24) H fun t25 H =>
        wIf t25 (
          R (.val (.bool false)) H) (
          wGet (binA .add t5 (.val (.int .i64 1))) H fun t16 H =>
          I1 t16 H)) (
        R (.val (.bool true)) H))

/-- signalbox/block.Part -/
def block_Part (E : Env) (P : Program) (a0 a1 a2 : AV) (H : AH) (R : Kt) : Prop :=
  wNew 2 (AV.cells? a0) H fun t3 H =>
  wNew 1 (AV.cells? a1) H fun t4 H =>
  wNew 1 (AV.cells? a2) H fun t5 H =>
  wGet (loadN 2 t3 H) H fun t15 H =>
  wCall E P 55 [t15] H fun t16 H =>
  wBool (eqA .iface t16 (.val (.nilIface))) H true fun t18 H =>
  wIf t18 (
    R (.tup [(.val (.slice none 0 0)), t16]) H) (
    wGet (load1 t4 H) H fun t20 H =>
    wGet (binA .lss t20 (.val (.int .i64 0))) H fun t21 H =>
    wGuard t21 false H (fun k => wGet (load1 t4 H) H k) fun t23 H =>
    wGuard t21 false H (fun k => wGet (faddr 0 t3) H k) fun t24 H =>
    wGuard t21 false H (fun k => wGet (load1 t24 H) H k) fun t25 H =>
    wGuard t21 false H (fun k => wGet (lenA t25) H k) fun t26 H =>
    wGuard t21 false H (fun k => wGet (binA .geq t23 t26) H k) fun t27 H =>
    wGet (pickA t21 (.val (.bool true)) t27) H fun t28 H =>
    wGuard t28 false H (fun k => wGet (load1 t5 H) H k) fun t30 H =>
    wGuard t28 false H (fun k => wGet (binA .lss t30 (.val (.int .i64 0))) H k) fun t31 H =>
    wGet (pickA t28 (.val (.bool true)) t31) H fun t32 H =>
    wGuard t32 false H (fun k => wGet (load1 t5 H) H k) fun t34 H =>
    wGuard t32 false H (fun k => wGet (faddr 0 t3) H k) fun t35 H =>
    wGuard t32 false H (fun k => wGet (load1 t35 H) H k) fun t36 H =>
    wGuard t32 false H (fun k => wGet (lenA t36) H k) fun t37 H =>
    wGuard t32 false H (fun k => wGet (binA .geq t34 t37) H k) fun t38 H =>
    wGet (pickA t32 (.val (.bool true)) t38) H fun t39 H =>
    wIf t39 (
      R (.tup [(.val (.slice none 0 0)), (.ifc 1 (.val (.int .i64 2)))]) H) (
      wGet (loadN 2 t3 H) H fun t41 H =>
      wCall E P 56 [t41] H fun t42 H =>
      wCall E P 61 [t42, (.fn 60 [] [t4, t5])] H fun t45 H =>
      wGet (binA .lss t45 (.val (.int .i64 0))) H fun t47 H =>
      wIf t47 (
        R (.tup [(.val (.slice none 0 0)), (.ifc 1 (.val (.int .i64 8)))]) H) (
        wLoop 2 (fun I1 => I1 t45 (.val (.slice none 0 0)) H) fun I1 t10 t11 H =>
          wGet (binA .gtr t10 (.val (.int .i64 0))) H fun t50 H =>
          wIf t50 (
            wJoin 1 (fun J2 =>
              wGet (faddr 0 t3) H fun t53 H =>
              wGet (load1 t53 H) H fun t54 H =>
              wGet (load1 t4 H) H fun t55 H =>
              wGet (iaddr 1 t54 t55) H fun t56 H =>
              wGet (load1 t56 H) H fun t57 H =>
              wGet (lenA t57) H fun t58 H =>
              wLoop 2 (fun I3 => I3 t11 (.val (.int .i64 0)) H) fun I3 t11_1 t59 H =>
                wGet (binA .lss t59 t58) H fun t60 H =>
                wIf t60 (
                  wGet (faddr 0 t3) H fun t62 H =>
                  wGet (load1 t62 H) H fun t63 H =>
                  wGet (load1 t4 H) H fun t64 H =>
                  wGet (iaddr 1 t63 t64) H fun t65 H =>
                  wGet (load1 t65 H) H fun t66 H =>
                  wGet (iaddr 1 t66 t59) H fun t68 H =>
                  wGet (load1 t68 H) H fun t69 H =>
                  wGet (faddr 0 t3) H fun t70 H =>
                  wGet (load1 t70 H) H fun t71 H =>
                  wGet (load1 t5 H) H fun t72 H =>
                  wGet (iaddr 1 t71 t72) H fun t73 H =>
                  wGet (load1 t73 H) H fun t74 H =>
                  wGet (iaddr 1 t74 t59) H fun t76 H =>
                  wGet (load1 t76 H) H fun t77 H =>
                  (wGet (load1 t70 H) H (fun y H2 => y = t71 ∧ H2 = H)) ∧
                  (wGet (load1 t5 H) H (fun y H2 => y = t72 ∧ H2 = H)) ∧
                  (wGet (load1 t73 H) H (fun y H2 => y = t74 ∧ H2 = H)) ∧
                  (wGet (load1 t76 H) H (fun y H2 => y = t77 ∧ H2 = H)) ∧
                  wGet (binA .eql t10 (.val (.int .i64 1))) H fun t79 H =>
                  wGuard t79 true H (fun k => wGet (faddr 1 t3) H k) fun t81 H =>
                  wGuard t79 true H (fun k => wGet (load1 t81 H) H k) fun t82 H =>
                  wGuard t79 true H (fun k => wGet (load1 t4 H) H k) fun t83 H =>
                  wGuard t79 true H (fun k => wGet (iaddr 1 t82 t83) H k) fun t84 H =>
                  wGuard t79 true H (fun k => wGet (load1 t84 H) H k) fun t85 H =>
                  wGuard t79 true H (fun k => k t59 H) fun t86 H =>
                  wGuard t79 true H (fun k => wGet (iaddr 1 t85 t86) H k) fun t87 H =>
                  wGuard t79 true H (fun k => wGet (load1 t87 H) H k) fun t88 H =>
                  wGuard t79 true H (fun k => wGet (faddr 1 t3) H k) fun t89 H =>
                  wGuard t79 true H (fun k => wGet (load1 t89 H) H k) fun t90 H =>
                  wGuard t79 true H (fun k => wGet (load1 t5 H) H k) fun t91 H =>
                  wGuard t79 true H (fun k => wGet (iaddr 1 t90 t91) H k) fun t92 H =>
                  wGuard t79 true H (fun k => wGet (load1 t92 H) H k) fun t93 H =>
                  wGuard t79 true H (fun k => k t59 H) fun t94 H =>
                  wGuard t79 true H (fun k => wGet (iaddr 1 t93 t94) H k) fun t95 H =>
                  wGuard t79 true H (fun k => wGet (load1 t95 H) H k) fun t96 H =>
                  wGuard t79 true H (fun k => wGet (binA .neq t88 t96) H k) fun t97 H =>
                  wGet (pickA t79 t97 (.val (.bool false))) H fun t98 H =>
                  wGuard t98 false H (fun k => k t10 H) fun t100 H =>
                  wGuard t98 false H (fun k => wGet (binA .gtr t100 (.val (.int .i64 1))) H k) fun t101 H =>
                  wGuard t98 false H (fun k => k t101 H) fun t102 H =>
                  wGuard t102 true H (fun k => k t42 H) fun t103 H =>
                  wGuard t102 true H (fun k => k t10 H) fun t104 H =>
                  wGuard t102 true H (fun k => wGet (binA .sub t104 (.val (.int .i64 1))) H k) fun t105 H =>
                  wGuard t102 true H (fun k => wGet (iaddr 1 t103 t105) H k) fun t106 H =>
                  wGuard t102 true H (fun k => wGet (load1 t106 H) H k) fun t107 H =>
                  wGuard t102 true H (fun k => k t69 H) fun t108 H =>
                  wGuard t102 true H (fun k => wGet (iaddr 1 t107 t108) H k) fun t109 H =>
                  wGuard t102 true H (fun k => wGet (load1 t109 H) H k) fun t110 H =>
                  wGuard t102 true H (fun k => k t42 H) fun t111 H =>
                  wGuard t102 true H (fun k => k t10 H) fun t112 H =>
                  wGuard t102 true H (fun k => wGet (binA .sub t112 (.val (.int .i64 1))) H k) fun t113 H =>
                  wGuard t102 true H (fun k => wGet (iaddr 1 t111 t113) H k) fun t114 H =>
                  wGuard t102 true H (fun k => wGet (load1 t114 H) H k) fun t115 H =>
                  wGuard t102 true H (fun k => k t77 H) fun t116 H =>
                  wGuard t102 true H (fun k => wGet (iaddr 1 t115 t116) H k) fun t117 H =>
                  wGuard t102 true H (fun k => wGet (load1 t117 H) H k) fun t118 H =>
                  wGuard t102 true H (fun k => wGet (binA .neq t110 t118) H k) fun t119 H =>
                  wGuard t98 false H (fun k => wGet (pickA t102 t119 (.val (.bool false))) H k) fun t120 H =>
                  wGet (pickA t98 (.val (.bool true)) t120) H fun t121 H =>
                  wIf t121 (
                    wNewS 1 1 (fillA (List.replicate 1 [(.val (.int .i64 0))]).flatten [(0, 1, t59)]) H fun t124 H =>
                    wApp 1 8 t11_1 t124 H fun t125 H =>
                    wPut (store1 t4 t69 H) fun _u H =>
                    wPut (store1 t5 t77 H) fun _u H =>
                    J2 t125 H) (
                    wGet (binA .add t59 (.val (.int .i64 1))) H fun t128 H =>
                    I3 t11_1 t128 H)) (
                  J2 t11_1 H)) fun t11_2 H =>
              wGet (binA .sub t10 (.val (.int .i64 1))) H fun t52 H =>
              I1 t52 t11_2 H) (
            R (.tup [t11, (.val (.nilIface))]) H))))

/-- signalbox/api.Tell -/
def api_Tell (E : Env) (P : Program) (a0 : AV) (H : AH) (R : Kt) : Prop :=
  wBool (eqA .iface a0 (.val (.nilIface))) H false fun t5 H =>
  wIf t5 (
    R (.val (.int .i64 0)) H) (
    wNew 1 (some [(.val (.int .i64 0))]) H fun t3 H =>
    wCall E P 62 [a0, (.ifc 3 t3)] H fun t8 H =>
    wIf t8 (
      wGet (load1 t3 H) H fun t9 H =>
      R t9 H) (
      R (.val (.int .i64 (-1))) H))

/-- signalbox/block.Check -/
def block_Check (E : Env) (P : Program) (a0 : AV) (H : AH) (R : Kt) : Prop :=
  wNew 2 (AV.cells? a0) H fun t1 H =>
  wGet (faddr 0 t1) H fun t5 H =>
  wGet (load1 t5 H) H fun t6 H =>
  wGet (lenA t6) H fun t7 H =>
  wNew 1 (some [(.val (.int .i64 0))]) H fun t3 H =>
  wPut (store1 t3 t7 H) fun _u H =>
  wGet (load1 t3 H) H fun t8 H =>
  wGet (binA .lss t8 (.val (.int .i64 1))) H fun t9 H =>
  wGuard t9 false H (fun k => wGet (load1 t3 H) H k) fun t11 H =>
  wGuard t9 false H (fun k => wGet (binA .gtr t11 (.val (.int .i64 500))) H k) fun t12 H =>
  wGet (pickA t9 (.val (.bool true)) t12) H fun t13 H =>
  wGuard t13 false H (fun k => wGet (faddr 0 t1) H k) fun t15 H =>
  wGuard t13 false H (fun k => wGet (load1 t15 H) H k) fun t16 H =>
  wGuard t13 false H (fun k => wGet (iaddr 1 t16 (.val (.int .i64 0))) H k) fun t17 H =>
  wGuard t13 false H (fun k => wGet (load1 t17 H) H k) fun t18 H =>
  wGuard t13 false H (fun k => wGet (lenA t18) H k) fun t19 H =>
  wGuard t13 false H (fun k => wGet (binA .gtr t19 (.val (.int .i64 64))) H k) fun t20 H =>
  wGet (pickA t13 (.val (.bool true)) t20) H fun t21 H =>
  wIf t21 (
    R (.ifc 1 (.val (.int .i64 4))) H) (
    wGet (faddr 1 t1) H fun t23 H =>
    wGet (load1 t23 H) H fun t24 H =>
    wGet (lenA t24) H fun t25 H =>
    wGet (load1 t3 H) H fun t26 H =>
    wGet (binA .neq t25 t26) H fun t27 H =>
    wIf t27 (
      R (.ifc 1 (.val (.int .i64 3))) H) (
      wGet (faddr 0 t1) H fun t29 H =>
      wGet (load1 t29 H) H fun t30 H =>
      wGet (lenA t30) H fun t31 H =>
      wLoop 1 (fun I1 => I1 (.val (.int .i64 0)) H) fun I1 t32 H =>
        wGet (binA .lss t32 t31) H fun t33 H =>
        wIf t33 (
          wGet (faddr 0 t1) H fun t35 H =>
          wGet (load1 t35 H) H fun t36 H =>
          wGet (iaddr 1 t36 t32) H fun t38 H =>
          wGet (load1 t38 H) H fun t39 H =>
          wGet (lenA t39) H fun t40 H =>
          wGet (faddr 0 t1) H fun t41 H =>
          wGet (load1 t41 H) H fun t42 H =>
          wGet (iaddr 1 t42 (.val (.int .i64 0))) H fun t43 H =>
          wGet (load1 t43 H) H fun t44 H =>
          wGet (lenA t44) H fun t45 H =>
          wGet (binA .neq t40 t45) H fun t46 H =>
          wGuard t46 false H (fun k => wGet (faddr 1 t1) H k) fun t48 H =>
          wGuard t46 false H (fun k => wGet (load1 t48 H) H k) fun t49 H =>
          wGuard t46 false H (fun k => k t32 H) fun t50 H =>
          wGuard t46 false H (fun k => wGet (iaddr 1 t49 t50) H k) fun t51 H =>
          wGuard t46 false H (fun k => wGet (load1 t51 H) H k) fun t52 H =>
          wGuard t46 false H (fun k => wGet (lenA t52) H k) fun t53 H =>
          wGuard t46 false H (fun k => wGet (faddr 0 t1) H k) fun t54 H =>
          wGuard t46 false H (fun k => wGet (load1 t54 H) H k) fun t55 H =>
          wGuard t46 false H (fun k => wGet (iaddr 1 t55 (.val (.int .i64 0))) H k) fun t56 H =>
          wGuard t46 false H (fun k => wGet (load1 t56 H) H k) fun t57 H =>
          wGuard t46 false H (fun k => wGet (lenA t57) H k) fun t58 H =>
          wGuard t46 false H (fun k => wGet (binA .neq t53 t58) H k) fun t59 H =>
          wGet (pickA t46 (.val (.bool true)) t59) H fun t60 H =>
          wIf t60 (
            wAgg (fillA [(.val (.int .i64 0)), (.val (.int .i64 0))] [(0, 1, (.val (.int .i64 3))), (1, 1, t32)]) H fun t62 H =>
            wNew 2 (AV.cells? t62) H fun t63 H =>
            R (.ifc 2 t63) H) (
            wGet (faddr 0 t1) H fun t65 H =>
            wGet (load1 t65 H) H fun t66 H =>
            wGet (iaddr 1 t66 t32) H fun t68 H =>
            wGet (load1 t68 H) H fun t69 H =>
            wCall E P 59 [t69, (.fn 63 [] [t3])] H fun t71 H =>
            wIf t71 (
              wAgg (fillA [(.val (.int .i64 0)), (.val (.int .i64 0))] [(0, 1, (.val (.int .i64 2))), (1, 1, t32)]) H fun t73 H =>
              wNew 2 (AV.cells? t73) H fun t74 H =>
              R (.ifc 2 t74) H) (
              wGet (binA .add t32 (.val (.int .i64 1))) H fun t76 H =>
              I1 t76 H))) (
          R (.val (.nilIface)) H)))

/-- signalbox/block.rounds -/
def block_rounds (E : Env) (P : Program) (a0 : AV) (H : AH) (R : Kt) : Prop :=
  wNew 2 (AV.cells? a0) H fun t1 H =>
  wGet (faddr 0 t1) H fun t12 H =>
  wGet (load1 t12 H) H fun t13 H =>
  wGet (lenA t13) H fun t14 H =>
  wMake 1 8 [(.val (.int .i64 0))] t14 t14 H fun t16 H =>
  wNewS 1 1 (fillA (List.replicate 1 [(.val (.slice none 0 0))]).flatten [(0, 1, t16)]) H fun t17 H =>
  wLoop 1 (fun I1 => I1 t17 H) fun I1 t4 H =>
    wGet (lenA t4) H fun t20 H =>
    wGet (binA .sub t20 (.val (.int .i64 1))) H fun t21 H =>
    wGet (iaddr 1 t4 t21) H fun t22 H =>
    wGet (load1 t22 H) H fun t23 H =>
    wLoop 2 (fun I2 => I2 (.val (.slice none 0 0)) (.val (.int .i64 0)) H) fun I2 t6 t25 H =>
      wGet (binA .lss t25 t14) H fun t26 H =>
      wIf t26 (
        wGet (iaddr 1 t23 t25) H fun t30 H =>
        wGet (load1 t30 H) H fun t31 H =>
        wNewS 1 1 (fillA (List.replicate 1 [(.val (.int .i64 0))]).flatten [(0, 1, t31)]) H fun t32 H =>
        wGet (faddr 0 t1) H fun t33 H =>
        wGet (load1 t33 H) H fun t34 H =>
        wGet (iaddr 1 t34 t25) H fun t36 H =>
        wGet (load1 t36 H) H fun t37 H =>
        wGet (lenA t37) H fun t38 H =>
        wLoop 2 (fun I3 => I3 t32 (.val (.int .i64 0)) H) fun I3 t8 t39 H =>
          wGet (binA .lss t39 t38) H fun t40 H =>
          wIf t40 (
            wGet (iaddr 1 t37 t39) H fun t42 H =>
            wGet (load1 t42 H) H fun t43 H =>
            wGet (faddr 1 t1) H fun t45 H =>
            wGet (load1 t45 H) H fun t46 H =>
            wGet (iaddr 1 t46 t25) H fun t48 H =>
            wGet (load1 t48 H) H fun t49 H =>
            wGet (iaddr 1 t49 t39) H fun t51 H =>
            wGet (load1 t51 H) H fun t52 H =>
            wGet (iaddr 1 t23 t43) H fun t55 H =>
            wGet (load1 t55 H) H fun t56 H =>
            wNewS 1 2 (fillA (List.replicate 2 [(.val (.int .i64 0))]).flatten [(0, 1, t52), (1, 1, t56)]) H fun t57 H =>
            wApp 1 8 t8 t57 H fun t58 H =>
            wGet (binA .add t39 (.val (.int .i64 1))) H fun t59 H =>
            I3 t58 t59 H) (
            wNewS 1 1 (fillA (List.replicate 1 [(.val (.slice none 0 0))]).flatten [(0, 1, t8)]) H fun t62 H =>
            wApp 1 24 t6 t62 H fun t63 H =>
            wGet (binA .add t25 (.val (.int .i64 1))) H fun t64 H =>
            I2 t63 t64 H)) (
        wCall E P 64 [t6] H fun t66 H =>
        wCall E P 65 [t66, t23] H fun t69 H =>
        wIf t69 (
          R t4 H) (
          wNewS 1 1 (fillA (List.replicate 1 [(.val (.slice none 0 0))]).flatten [(0, 1, t66)]) H fun t73 H =>
          wApp 1 24 t4 t73 H fun t74 H =>
          I1 t74 H))

/-- slices.Clone[[]int,int] -/
def slices_Clone_Lint_int (E : Env) (P : Program) (a0 : AV) (H : AH) (R : Kt) : Prop :=
  wBool (eqA .slice a0 (.val (.slice none 0 0))) H false fun t4 H =>
  wIf t4 (
    R (.val (.slice none 0 0)) H) (
    wNewS 1 0 (fillA (List.replicate 0 [(.val (.int .i64 0))]).flatten []) H fun t5 H =>
    wApp 1 8 t5 a0 H fun t7 H =>
    R t7 H)

/-- slices.ContainsFunc[[]int,int] -/
def slices_ContainsFunc_Lint_int (E : Env) (P : Program) (a0 a1 : AV) (H : AH) (R : Kt) : Prop :=
  wCall E P 66 [a0, a1] H fun t7 H =>
  wGet (binA .geq t7 (.val (.int .i64 0))) H fun t8 H =>
  R t8 H

/-- signalbox/block.Tell$1 -/
def block_Tell_c1 (E : Env) (P : Program) (a0 a1 : AV) (H : AH) (R : Kt) : Prop :=
  wGet (binA .lss a0 (.val (.int .i64 0))) H fun t5 H =>
  wGuard t5 false H (fun k => k a0 H) fun t7 H =>
  wGuard t5 false H (fun k => wGet (faddr 0 a1) H k) fun t8 H =>
  wGuard t5 false H (fun k => wGet (load1 t8 H) H k) fun t9 H =>
  wGuard t5 false H (fun k => wGet (iaddr 1 t9 (.val (.int .i64 0))) H k) fun t10 H =>
  wGuard t5 false H (fun k => wGet (load1 t10 H) H k) fun t11 H =>
  wGuard t5 false H (fun k => wGet (lenA t11) H k) fun t12 H =>
  wGuard t5 false H (fun k => wGet (binA .geq t7 t12) H k) fun t13 H =>
  wGet (pickA t5 (.val (.bool true)) t13) H fun t14 H =>
  R t14 H

/-- slices.IndexFunc[[][]int,[]int] -/
def slices_IndexFunc_LLint_Lint (E : Env) (P : Program) (a0 a1 : AV) (H : AH) (R : Kt) : Prop :=
  wGet (lenA a0) H fun t7 H =>
  wLoop 1 (fun I1 => I1 (.val (.int .i64 0)) H) fun I1 t8 H =>
    wGet (binA .lss t8 t7) H fun t9 H =>
    wIf t9 (
      wGet (iaddr 1 a0 t8) H fun t14 H =>
      wGet (load1 t14 H) H fun t15 H =>
      wCallV E P a1 [t15] H fun t16 H =>
      wIf t16 (
        R t8 H) (
        wGet (binA .add t8 (.val (.int .i64 1))) H fun t18 H =>
        I1 t18 H)) (
      R (.val (.int .i64 (-1))) H)

/-- signalbox/block.Part$1 -/
def block_Part_c1 (E : Env) (P : Program) (a0 a1 a2 : AV) (H : AH) (R : Kt) : Prop :=
  wGet (load1 a1 H) H fun t6 H =>
  wGet (iaddr 1 a0 t6) H fun t7 H =>
  wGet (load1 t7 H) H fun t8 H =>
  wGet (load1 a2 H) H fun t10 H =>
  wGet (iaddr 1 a0 t10) H fun t11 H =>
  wGet (load1 t11 H) H fun t12 H =>
  wGet (binA .neq t8 t12) H fun t13 H =>
  R t13 H

/-- errors.As -/
def errors_As (E : Env) (P : Program) (a0 a1 : AV) (H : AH) (R : Kt) : Prop :=
  wBool (eqA .iface a0 (.val (.nilIface))) H false fun t9 H =>
  wIf t9 (
    R (.val (.bool false)) H) (
    wJoin 0 (fun J1 =>
      wBool (eqA .iface a1 (.val (.nilIface))) H false fun t11 H =>
      wIf t11 (
        False) (
        J1 H)) fun H =>
      wCall E P 67 [a1] H fun t14 H =>
      wNew 3 (some [(.val (.pointer none)), (.val (.pointer none)), (.val (.int .u64 0))]) H fun t5 H =>
      wPut (storeN 3 t5 t14 H) fun _u H =>
      wGet (loadN 3 t5 H) H fun t15 H =>
      wCall E P 68 [t15] H fun t16 H =>
      wJoin 0 (fun J2 =>
        wInv E P t16 "Kind" [] H fun t18 H =>
        wGet (binA .neq t18 (.val (.int .u8 22))) H fun t19 H =>
        wGuard t19 false H (fun k => wGet (loadN 3 t5 H) H k) fun t21 H =>
        wGuard t19 false H (fun k => wCall E P 69 [t21] H k) fun t22 H =>
        wGet (pickA t19 (.val (.bool true)) t22) H fun t23 H =>
        wIf t23 (
          False) (
          J2 H)) fun H =>
        wInv E P t16 "Elem" [] H fun t26 H =>
        wJoin 0 (fun J3 =>
          wInv E P t26 "Kind" [] H fun t28 H =>
          wGet (binA .neq t28 (.val (.int .u8 20))) H fun t29 H =>
          wGuard t29 true H (fun k => k t26 H) fun t31 H =>
          wGuard t29 true H (fun k => wGet (load1 (gptr E 4) H) H k) fun t32 H =>
          wGuard t29 true H (fun k => wInv E P t31 "Implements" [t32] H k) fun t33 H =>
          wGuard t29 true H (fun k => wGet (unA .not t33) H k) fun t34 H =>
          wGet (pickA t29 t34 (.val (.bool false))) H fun t35 H =>
          wIf t35 (
            False) (
            J3 H)) fun H =>
          wGet (loadN 3 t5 H) H fun t39 H =>
          wCall E P 70 [a0, a1, t39, t26] H fun t41 H =>
          R t41 H)

/-- signalbox/block.Check$1 -/
def block_Check_c1 (E : Env) (P : Program) (a0 a1 : AV) (H : AH) (R : Kt) : Prop :=
  wGet (binA .lss a0 (.val (.int .i64 0))) H fun t5 H =>
  wGuard t5 false H (fun k => k a0 H) fun t7 H =>
  wGuard t5 false H (fun k => wGet (load1 a1 H) H k) fun t8 H =>
  wGuard t5 false H (fun k => wGet (binA .geq t7 t8) H k) fun t9 H =>
  wGet (pickA t5 (.val (.bool true)) t9) H fun t10 H =>
  R t10 H

/-- signalbox/block.number -/
def block_number (E : Env) (P : Program) (a0 : AV) (H : AH) (R : Kt) : Prop :=
  wGet (lenA a0) H fun t9 H =>
  wLoop 3 (fun I1 => I1 (.val (.slice none 0 0)) (.val (.slice none 0 0)) (.val (.int .i64 0)) H) fun I1 t3 t4 t10 H =>
    wGet (binA .lss t10 t9) H fun t11 H =>
    wIf t11 (
      wGet (iaddr 1 a0 t10) H fun t12 H =>
      wGet (load1 t12 H) H fun t13 H =>
      wNew 1 (some [(.val (.slice none 0 0))]) H fun t6 H =>
      wPut (store1 t6 t13 H) fun _u H =>
      wCall E P 61 [t3, (.fn 71 [] [t6])] H fun t16 H =>
      wJoin 2 (fun J2 =>
        wGet (binA .lss t16 (.val (.int .i64 0))) H fun t18 H =>
        wIf t18 (
          wGet (lenA t3) H fun t20 H =>
          wGet (load1 t6 H) H fun t22 H =>
          wNewS 1 1 (fillA (List.replicate 1 [(.val (.slice none 0 0))]).flatten [(0, 1, t22)]) H fun t23 H =>
          wApp 1 24 t3 t23 H fun t24 H =>
          J2 t24 t20 H) (
          J2 t3 t16 H)) fun t3_1 t7 H =>
        wNewS 1 1 (fillA (List.replicate 1 [(.val (.int .i64 0))]).flatten [(0, 1, t7)]) H fun t27 H =>
        wApp 1 8 t4 t27 H fun t28 H =>
        wGet (binA .add t10 (.val (.int .i64 1))) H fun t29 H =>
        I1 t3_1 t28 t29 H) (
      R t4 H)

/-- slices.Equal[[]int,int] -/
def slices_Equal_Lint_int (E : Env) (P : Program) (a0 a1 : AV) (H : AH) (R : Kt) : Prop :=
  wGet (lenA a0) H fun t7 H =>
  wGet (lenA a1) H fun t9 H =>
  wGet (binA .neq t7 t9) H fun t10 H =>
  wIf t10 (
    R (.val (.bool false)) H) (
    wGet (lenA a0) H fun t12 H =>
    wLoop 1 (fun I1 => I1 (.val (.int .i64 0)) H) fun I1 t13 H =>
      wGet (binA .lss t13 t12) H fun t14 H =>
      wIf t14 (
        wGet (iaddr 1 a0 t13) H fun t18 H =>
        wGet (load1 t18 H) H fun t19 H =>
        wGet (iaddr 1 a1 t13) H fun t22 H =>
        wGet (load1 t22 H) H fun t23 H =>
        wGet (binA .neq t19 t23) H fun t24 H =>
        wIf t24 (
          R (.val (.bool false)) H) (
          wGet (binA .add t13 (.val (.int .i64 1))) H fun t25 H =>
          I1 t25 H)) (
        R (.val (.bool true)) H))

/-- slices.IndexFunc[[]int,int] -/
def slices_IndexFunc_Lint_int (E : Env) (P : Program) (a0 a1 : AV) (H : AH) (R : Kt) : Prop :=
  wGet (lenA a0) H fun t7 H =>
  wLoop 1 (fun I1 => I1 (.val (.int .i64 0)) H) fun I1 t8 H =>
    wGet (binA .lss t8 t7) H fun t9 H =>
    wIf t9 (
      wGet (iaddr 1 a0 t8) H fun t14 H =>
      wGet (load1 t14 H) H fun t15 H =>
      wCallV E P a1 [t15] H fun t16 H =>
      wIf t16 (
        R t8 H) (
        wGet (binA .add t8 (.val (.int .i64 1))) H fun t18 H =>
        I1 t18 H)) (
      R (.val (.int .i64 (-1))) H)

/-- errors.as -/
def errors_as (E : Env) (P : Program) (a0 a1 a2 a3 : AV) (H : AH) (R : Kt) : Prop :=
  wNew 3 (AV.cells? a2) H fun t6 H =>
  wLoop 1 (fun I1 => I1 a0 H) fun I1 t0 H =>
    wCall E P 72 [t0] H fun t17 H =>
    wInv E P t17 "AssignableTo" [a3] H fun t19 H =>
    wIf t19 (
      wGet (loadN 3 t6 H) H fun t20 H =>
      wCall E P 73 [t20] H fun t21 H =>
      wCall E P 67 [t0] H fun t23 H =>
      wCall E P 74 [t21, t23] H fun t24 H =>
      R (.val (.bool true)) H) (
      wAsI E P 5 t0 H fun t27 H =>
      wGet (extractA t27 0) H fun t28 H =>
      wGet (extractA t27 1) H fun t29 H =>
      wGuard t29 true H (fun k => k t28 H) fun t32 H =>
      wGuard t29 true H (fun k => k a1 H) fun t33 H =>
      wGuard t29 true H (fun k => wInv E P t32 "As" [t33] H k) fun t34 H =>
      wGet (pickA t29 t34 (.val (.bool false))) H fun t35 H =>
      wIf t35 (
        R (.val (.bool true)) H) (
        wAsI E P 6 t0 H fun t37 H =>
        wGet (extractA t37 1) H fun t38 H =>
        wGet (extractA t37 0) H fun t39 H =>
        wIf t38 (
          wInv E P t39 "Unwrap" [] H fun t41 H =>
          wBool (eqA .iface t41 (.val (.nilIface))) H false fun t43 H =>
          wIf t43 (
            R (.val (.bool false)) H) (
            I1 t41 H)) (
          wAsI E P 7 t0 H fun t44 H =>
          wGet (extractA t44 1) H fun t45 H =>
          wGet (extractA t44 0) H fun t46 H =>
          wIf t45 (
            wInv E P t46 "Unwrap" [] H fun t48 H =>
            wGet (lenA t48) H fun t49 H =>
            wLoop 1 (fun I2 => I2 (.val (.int .i64 0)) H) fun I2 t50 H =>
              wGet (binA .lss t50 t49) H fun t51 H =>
              wIf t51 (
                wJoin 0 (fun J3 =>
                  wGet (iaddr 1 t48 t50) H fun t52 H =>
                  wGet (load1 t52 H) H fun t53 H =>
                  wBool (eqA .iface t53 (.val (.nilIface))) H false fun t55 H =>
                  wIf t55 (
                    J3 H) (
                    wGet (loadN 3 t6 H) H fun t58 H =>
                    wCall E P 70 [t53, a1, t58, a3] H fun t60 H =>
                    wIf t60 (
                      R (.val (.bool true)) H) (
                      J3 H))) fun H =>
                  wGet (binA .add t50 (.val (.int .i64 1))) H fun t61 H =>
                  I2 t61 H) (
                R (.val (.bool false)) H)) (
            R (.val (.bool false)) H))))

/-- signalbox/block.number$1 -/
def block_number_c1 (E : Env) (P : Program) (a0 a1 : AV) (H : AH) (R : Kt) : Prop :=
  wGet (load1 a1 H) H fun t5 H =>
  wCall E P 65 [a0, t5] H fun t6 H =>
  R t6 H

/-- (*signalbox/api.At).Unwrap -/
def papi_At_Unwrap (E : Env) (P : Program) (a0 : AV) (H : AH) (R : Kt) : Prop :=
  wGet (nilA a0) H fun t4 H =>
  wGet (faddr 0 t4) H fun t5 H =>
  wGet (load1 t5 H) H fun t6 H =>
  R (.ifc 1 t6) H

end Go.Sc.F
namespace Go.Sc
open Go
set_option linter.unusedSimpArgs false
set_option linter.unusedVariables false

def LI (l : List Int) : AV := Lm (fun z => Z z) l
def LLI (l : List (List Int)) : AV := Lm LI l
theorem LI_closed (l : List Int) : (LI l).closed := by simp [LI, Lm, AV.closed, closed_Z]
theorem LLI_closed (l : List (List Int)) : (LLI l).closed := by simp only [LLI, Lm, AV.closed]; exact closed_map LI_closed l
theorem LI_scalar (l : List Int) : (LI l).scalar = true := rfl
theorem mapZ_get {l : List Int} {i : Nat} (h : i < l.length) : (l.map fun z => Z z)[i]? = some (Z (l.getD i 0)) := by
  simp [List.getD, List.getElem?_eq_getElem h]
theorem mapL_get {l : List (List Int)} {i : Nat} (h : i < l.length) : (l.map LI)[i]? = some (LI (l.getD i [])) := by
  simp [List.getD, List.getElem?_eq_getElem h]
def idxO : Option Nat → Int
  | some i => i
  | none => -1

section
variable {E : Env} {P : Program}
theorem ACalls.slN1 {k : Nat} {cs : List AV} {len : Nat} {H : AH} {R : Kt} (h0 : len = 0 → ACalls E P k [nilS] H R) (h1 : ACalls E P k [.slF cs 0 len] H R) : ACalls E P k [.slN cs len] H R := fun c vs hH hv => by
  obtain ⟨v, rfl, hr⟩ := hv.one'
  simp only [VRel] at hr
  rcases hr with ⟨rfl, hl⟩ | ⟨p, cap, rfl, hl, hr⟩
  · exact h0 hl c _ hH (.one (by simp only [VRel]))
  · refine h1 c _ hH (.one ?_)
    simp only [VRel]
    exact ⟨p, cap, rfl, hl, hr.imp id fun ⟨b, o, hp, hc⟩ => ⟨b, o, by simpa using hp, hc⟩⟩

theorem Equal_spec (hB : Body2 E P 65 F.slices_Equal_Lint_int) (l l' : List Int) (hl : l.length < 4611686018427387904) : FX E P 65 [LI l, LI l'] (Bo (decide (l = l'))) := by
  refine FX.of' (by simp [AV.closedL, LI_closed]) (by simp [AV.closed]) fun n R hR => hB _ _ _ _ ?_
  unfold F.slices_Equal_Lint_int LI
  simp only [nd0, Y1n, Y1o, Y1p, Y1q, Y1w, Y1x, Y1y, Y1z, Y20, Y21, Y28, Y2a, AV.cells?, Nat.reduceAdd, Nat.reduceMul]
  by_cases hn : l.length = l'.length
  case neg =>
    simp only [nd0, Y1n, Y1o, Y1p, Y1q, Y1w, Y1x, Y1y, Y1z, Y20, Y21, Y28, Y2a, AV.cells?, Nat.reduceAdd, Nat.reduceMul, decide_eq_false (show ¬ ((l.length : Int) = l'.length) by omega)]
    exact hR _ _ (by rw [decide_eq_false (fun e => hn (by rw [e]))])
  simp only [nd0, Y1n, Y1o, Y1p, Y1q, Y1w, Y1x, Y1y, Y1z, Y20, Y21, Y28, Y2a, AV.cells?, Nat.reduceAdd, Nat.reduceMul, decide_eq_true (show ((l.length : Int) = l'.length) by omega)]
  refine wLoop.one (fun m i H => ∃ j : Nat, i = Z j ∧ j ≤ l.length ∧ m = l.length - j ∧ ∀ k, k < j → l[k]? = l'[k]?) l.length (gh1.mk ⟨0, rfl, by omega, rfl, by simp⟩) ?_
  rintro m i H ⟨j, rfl, hj, rfl, hp⟩
  by_cases hlt : j < l.length
  case neg =>
    have : j = l.length := by omega
    subst this
    simp only [nd0, Y1n, Y1o, Y1p, Y1q, Y1w, Y1x, Y1y, Y1z, Y20, Y21, Y28, Y2a, AV.cells?, Nat.reduceAdd, Nat.reduceMul, Int.lt_irrefl]
    refine hR _ _ ?_
    rw [decide_eq_true]
    refine List.ext_getElem? fun k => ?_
    by_cases hk : k < l.length
    · exact hp k hk
    · rw [List.getElem?_eq_none (by omega), List.getElem?_eq_none (by omega)]
  simp only [nd0, Y1n, Y1o, Y1p, Y1q, Y1w, Y1x, Y1y, Y1z, Y20, Y21, Y28, Y2a, AV.cells?, Nat.reduceAdd, Nat.reduceMul, decide_eq_true (show (j : Int) < (l.length : Int) by omega)]
  rw [iaddr_Nn hlt, iaddr_Nn (show j < l'.length by omega)]
  simp only [nd0, Y1n, Y1o, Y1p, Y1q, Y1w, Y1x, Y1y, Y1z, Y20, Y21, Y28, Y2a, AV.cells?, Nat.reduceAdd, Nat.reduceMul, mapZ_get hlt, mapZ_get (show j < l'.length by omega)]
  have e1 : l[j]? = some (l.getD j 0) := by simp [List.getD, List.getElem?_eq_getElem hlt]
  have e2 : l'[j]? = some (l'.getD j 0) := by simp [List.getD, List.getElem?_eq_getElem (show j < l'.length by omega)]
  by_cases he : l.getD j 0 = l'.getD j 0
  · simp only [nd0, Y1n, Y1o, Y1p, Y1q, Y1w, Y1x, Y1y, Y1z, Y20, Y21, Y28, Y2a, AV.cells?, Nat.reduceAdd, Nat.reduceMul, decide_eq_true he]
    rw [binA_succ (by omega)]
    simp only [nd0, Y1n, Y1o, Y1p, Y1q, Y1w, Y1x, Y1y, Y1z, Y20, Y21, Y28, Y2a, AV.cells?, Nat.reduceAdd, Nat.reduceMul]
    refine back1.mk (l.length - (j + 1)) (by omega) ⟨j + 1, rfl, by omega, rfl, fun k hk => ?_⟩
    by_cases hkj : k = j
    · subst hkj; rw [e1, e2, he]
    · exact hp k (by omega)
  · simp only [nd0, Y1n, Y1o, Y1p, Y1q, Y1w, Y1x, Y1y, Y1z, Y20, Y21, Y28, Y2a, AV.cells?, Nat.reduceAdd, Nat.reduceMul, decide_eq_false he]
    refine hR _ _ ?_
    rw [decide_eq_false]
    rintro rfl
    exact he rfl

/-- the first element of which so much holds -/
theorem IndexFunc_any {α : Type} {f : α → AV} {G : Env → Program → AV → AV → AH → Kt → Prop} {kk : Nat} (hG : G = F.slices_IndexFunc_Lint_int ∨ G = F.slices_IndexFunc_LLint_Lint) (hB : Body2 E P kk G) {k : Nat} {cs : List AV} {p : α → Bool} (hf : ∀ a, (f a).closed) (l : List α) (hl : l.length < 4611686018427387904) (hcs : AV.closedL cs)
    (hp : ∀ a ∈ l, FX E P k ([f a] ++ cs) (Bo (p a))) : FX E P kk [Lm f l, .fn k [] cs] (Z (idxO (l.findIdx? p))) := by
  refine FX.of' (by simp only [AV.closedL, Lm, AV.closed, and_true, true_and]; exact ⟨closed_map hf l, hcs⟩) (by simp [AV.closed]) fun n R hR => hB _ _ _ _ ?_
  have main : wLoop 1 (fun I1 => I1 (Z 0) ⟨[], n⟩) fun I1 t8 H =>
      wGet (binA .lss t8 (Z l.length)) H fun t9 H =>
      wIf t9 (
        wGet (iaddr 1 (Lm f l) t8) H fun t14 H =>
        wGet (load1 t14 H) H fun t15 H =>
        wCallV E P (.fn k [] cs) [t15] H fun t16 H =>
        wIf t16 (
          R t8 H) (
          wGet (binA .add t8 (.val (.int .i64 1))) H fun t18 H =>
          I1 t18 H)) (
        R (.val (.int .i64 (-1))) H) := by
    refine wLoop.one (fun m i H => ∃ pre rest, l = pre ++ rest ∧ i = Z pre.length ∧ m = rest.length ∧ ∀ a ∈ pre, p a = false) l.length (gh1.mk ⟨[], l, rfl, rfl, rfl, by simp⟩) ?_
    rintro m i H ⟨pre, rest, rfl, rfl, rfl, hpre⟩
    cases rest with
    | nil =>
      simp only [nd0, Y1n, Y1o, Y1p, Y1q, Y1w, Y1x, Y1y, Y1z, Y20, Y21, Y28, Y2a, AV.cells?, Nat.reduceAdd, Nat.reduceMul, List.append_nil, Int.lt_irrefl]
      refine hR _ _ ?_
      rw [List.append_nil, List.findIdx?_eq_none_iff.2 hpre]
      rfl
    | cons x rest =>
      simp only [nd0, Y1n, Y1o, Y1p, Y1q, Y1w, Y1x, Y1y, Y1z, Y20, Y21, Y28, Y2a, AV.cells?, Nat.reduceAdd, Nat.reduceMul, decide_eq_true (show (pre.length : Int) < ((pre ++ x :: rest).length : Int) by simp; omega)]
      rw [iaddr_Nn lt_mid]
      simp only [nd0, Y1n, Y1o, Y1p, Y1q, Y1w, Y1x, Y1y, Y1z, Y20, Y21, Y28, Y2a, AV.cells?, Nat.reduceAdd, Nat.reduceMul, at_mid]
      refine wCallV.fx (hp x (by simp)) fun n1 => ?_
      refine wIf.bool (fun h => ?_) fun h => ?_
      · refine hR _ _ ?_
        have : (pre ++ x :: rest).findIdx? p = some pre.length := by
          rw [List.findIdx?_append, List.findIdx?_eq_none_iff.2 hpre]
          simp [List.findIdx?_cons, h]
        rw [this]; rfl
      · rw [binA_succ (by simp at hl; omega)]
        simp only [nd0, Y1n, Y1o, Y1p, Y1q, Y1w, Y1x, Y1y, Y1z, Y20, Y21, Y28, Y2a, AV.cells?, Nat.reduceAdd, Nat.reduceMul]
        refine back1.mk rest.length (by simp) ⟨pre ++ [x], rest, by simp, by simp, rfl, fun a ha => ?_⟩
        rcases List.mem_append.1 ha with ha | ha
        · exact hpre a ha
        · simp at ha; subst ha; exact h
  rcases hG with rfl | rfl
  · unfold F.slices_IndexFunc_Lint_int
    simp only [nd0, Y1n, Y1o, Y1p, Y1q, Y1w, Y1x, Y1y, Y1z, Y20, Y21, Y28, Y2a, AV.cells?, Nat.reduceAdd, Nat.reduceMul]
    exact main
  · unfold F.slices_IndexFunc_LLint_Lint
    simp only [nd0, Y1n, Y1o, Y1p, Y1q, Y1w, Y1x, Y1y, Y1z, Y20, Y21, Y28, Y2a, AV.cells?, Nat.reduceAdd, Nat.reduceMul]
    exact main
theorem ContainsFunc_spec (hB : Body2 E P 59 F.slices_ContainsFunc_Lint_int) (hI : Body2 E P 66 F.slices_IndexFunc_Lint_int) {k : Nat} {cs : List AV} {p : Int → Bool} (l : List Int) (hl : l.length < 4611686018427387904) (hcs : AV.closedL cs)
    (hp : ∀ a ∈ l, FX E P k ([Z a] ++ cs) (Bo (p a))) : FX E P 59 [LI l, .fn k [] cs] (Bo (l.any p)) := by
  refine FX.of' (by simp only [AV.closedL, AV.closed, and_true, true_and]; exact ⟨LI_closed l, hcs⟩) (by simp [AV.closed]) fun n R hR => hB _ _ _ _ ?_
  unfold F.slices_ContainsFunc_Lint_int
  refine wCall.fx (IndexFunc_any (f := fun z => Z z) (.inl rfl) hI (fun _ => by simp [AV.closed]) l hl hcs hp) fun n => ?_
  simp only [nd0, Y1n, Y1o, Y1p, Y1q, Y1w, Y1x, Y1y, Y1z, Y20, Y21, Y28, Y2a, AV.cells?, Nat.reduceAdd, Nat.reduceMul]
  refine hR _ _ ?_
  cases hf : l.findIdx? p with
  | none =>
    rw [List.findIdx?_eq_none_iff] at hf
    have : l.any p = false := by rw [List.any_eq_false]; intro x hx; simp [hf x hx]
    rw [this]; rfl
  | some i =>
    rw [List.findIdx?_eq_some_iff_getElem] at hf
    obtain ⟨h1, h2, _⟩ := hf
    have : l.any p = true := by rw [List.any_eq_true]; exact ⟨_, List.getElem_mem h1, h2⟩
    rw [this]
    have : (0 : Int) ≤ idxO (some i) := by simp [idxO]
    rw [decide_eq_true this]
theorem Clone_spec (hB : Body1 E P 57 F.slices_Clone_Lint_int) (l : List Int) (hl : l.length < 4398046511104) : FX E P 57 [LI l] (LI l) := by
  refine FX.of (by simp [AV.closedL, LI_closed]) (LI_closed _) fun n R hR => ?_
  refine ACalls.slN1 (fun h0 => hB _ _ _ ?_) (hB _ _ _ ?_)
  · unfold F.slices_Clone_Lint_int
    simp only [nd0, Y1n, Y1o, Y1p, Y1q, Y1w, Y1x, Y1y, Y1z, Y20, Y21, Y28, Y2a, AV.cells?, Nat.reduceAdd, Nat.reduceMul]
    refine hR _ _ (.sub ?_)
    unfold LI Lm
    rw [h0]
    exact .nil
  · unfold F.slices_Clone_Lint_int
    simp only [nd0, Y1n, Y1o, Y1p, Y1q, Y1w, Y1x, Y1y, Y1z, Y20, Y21, Y28, Y2a, AV.cells?, Nat.reduceAdd, Nat.reduceMul]
    refine wNewS.T (l := []) rfl (.refl _) rfl ?_
    simp only [nd0, Y1n, Y1o, Y1p, Y1q, Y1w, Y1x, Y1y, Y1z, Y20, Y21, Y28, Y2a, AV.cells?, Nat.reduceAdd, Nat.reduceMul]
    refine wApp.gr (m := l.length) (new := l.map fun z => Z z) .mk rfl rfl (by simp [cellsOfA, subL, List.take_of_length_le]) (.refl _) (by simp [AV.scalar]) (by simp [mostBytes]; omega) fun z' x' c' hg' => ?_
    simp only [nd0, Y1n, Y1o, Y1p, Y1q, Y1w, Y1x, Y1y, Y1z, Y20, Y21, Y28, Y2a, AV.cells?, Nat.reduceAdd, Nat.reduceMul]
    refine hR _ _ (.sub ?_)
    have := hg'.sub
    simpa [LI, Lm] using this
end
end Go.Sc
namespace Go.Sc.F
open Go Go.Sc
set_option linter.unusedVariables false

/-- signalbox/signalboxkeep.ExprBack -/
def keep_ExprBack (E : Env) (P : Program) (a0 a1 a2 : AV) (H : AH) (R : Kt) : Prop :=
  wGet (lenS a0) H fun t12 H =>
  wGet (binA .gtr t12 (.val (.int .i64 900))) H fun t13 H =>
  wGuard t13 false H (fun k => k a1 H) fun t15 H =>
  wGuard t13 false H (fun k => wGet (lenA t15) H k) fun t16 H =>
  wGuard t13 false H (fun k => wGet (binA .gtr t16 (.val (.int .i64 20))) H k) fun t17 H =>
  wGet (pickA t13 (.val (.bool true)) t17) H fun t18 H =>
  wGuard t18 false H (fun k => k a2 H) fun t20 H =>
  wGuard t18 false H (fun k => wGet (lenA t20) H k) fun t21 H =>
  wGuard t18 false H (fun k => wGet (binA .gtr t21 (.val (.int .i64 20))) H k) fun t22 H =>
  wGet (pickA t18 (.val (.bool true)) t22) H fun t23 H =>
  wIf t23 (
    R (.val (.bool true)) H) (
    wCall E P 126 [a0] H fun t26 H =>
    wGet (extractA t26 0) H fun t27 H =>
    wGet (extractA t26 1) H fun t28 H =>
    wCall E P 155 [] H fun t29 H =>
    wGet (unA .not t29) H fun t30 H =>
    wGuard t30 false H (fun k => k t28 H) fun t32 H =>
    wGuard t30 false H (fun k => wBool (eqA .iface t32 (.val (.nilIface))) H true k) fun t33 H =>
    wGet (pickA t30 (.val (.bool true)) t33) H fun t34 H =>
    wIf t34 (
      wCall E P 155 [] H fun t35 H =>
      wGuard t35 true H (fun k => k t27 H) fun t37 H =>
      wGuard t35 true H (fun k => wBool (eqA .iface t37 (.val (.nilIface))) H false k) fun t38 H =>
      wGet (pickA t35 t38 (.val (.bool false))) H fun t39 H =>
      R t39 H) (
      wCall E P 127 [t27] H fun t41 H =>
      wGet (lenS t41) H fun t43 H =>
      wGet (binA .gtr t43 (.val (.int .i64 2000))) H fun t44 H =>
      wIf t44 (
        R (.val (.bool true)) H) (
        wCall E P 126 [t41] H fun t47 H =>
        wGet (extractA t47 0) H fun t48 H =>
        wGet (extractA t47 1) H fun t49 H =>
        wBool (eqA .iface t49 (.val (.nilIface))) H false fun t51 H =>
        wGuard t51 true H (fun k => k t48 H) fun t53 H =>
        wGuard t51 true H (fun k => wBool (eqA .iface t53 (.val (.nilIface))) H true k) fun t54 H =>
        wGet (pickA t51 t54 (.val (.bool false))) H fun t55 H =>
        wGuard t55 true H (fun k => k t48 H) fun t57 H =>
        wGuard t55 true H (fun k => wCall E P 127 [t57] H k) fun t58 H =>
        wGuard t55 true H (fun k => k t41 H) fun t59 H =>
        wGuard t55 true H (fun k => wGet (binA .eql t58 t59) H k) fun t60 H =>
        wGet (pickA t55 t60 (.val (.bool false))) H fun t61 H =>
        wGuard t61 true H (fun k => k t48 H) fun t63 H =>
        wGuard t61 true H (fun k => wCall E P 156 [t63] H k) fun t64 H =>
        wGuard t61 true H (fun k => k t27 H) fun t65 H =>
        wGuard t61 true H (fun k => wCall E P 156 [t65] H k) fun t66 H =>
        wGuard t61 true H (fun k => wGet (binA .eql t64 t66) H k) fun t67 H =>
        wGet (pickA t61 t67 (.val (.bool false))) H fun t68 H =>
        wGuard t68 true H (fun k => k t48 H) fun t70 H =>
        wGuard t68 true H (fun k => k a1 H) fun t71 H =>
        wGuard t68 true H (fun k => wCall E P 157 [t71] H k) fun t72 H =>
        wGuard t68 true H (fun k => k a2 H) fun t73 H =>
        wGuard t68 true H (fun k => wCall E P 157 [t73] H k) fun t74 H =>
        wGuard t68 true H (fun k => wCall E P 158 [t70, t72, t74] H k) fun t75 H =>
        wGuard t68 true H (fun k => k t27 H) fun t76 H =>
        wGuard t68 true H (fun k => k a1 H) fun t77 H =>
        wGuard t68 true H (fun k => wCall E P 157 [t77] H k) fun t78 H =>
        wGuard t68 true H (fun k => k a2 H) fun t79 H =>
        wGuard t68 true H (fun k => wCall E P 157 [t79] H k) fun t80 H =>
        wGuard t68 true H (fun k => wCall E P 158 [t76, t78, t80] H k) fun t81 H =>
        wGuard t68 true H (fun k => wBool (eqA .bool t75 t81) H false k) fun t82 H =>
        wGet (pickA t68 t82 (.val (.bool false))) H fun t83 H =>
        R t83 H)))

/-- signalbox/signalboxkeep.says -/
def keep_says (E : Env) (P : Program) (H : AH) (R : Kt) : Prop :=
  wCall E P 126 [(.val (.string ⟨#[97, 32, 38, 32, 33, 98]⟩))] H fun t4 H =>
  wGet (extractA t4 0) H fun t5 H =>
  wGet (extractA t4 1) H fun t6 H =>
  wBool (eqA .iface t6 (.val (.nilIface))) H false fun t8 H =>
  wGuard t8 true H (fun k => k t5 H) fun t10 H =>
  wGuard t8 true H (fun k => wBool (eqA .iface t10 (.val (.nilIface))) H true k) fun t11 H =>
  wGet (pickA t8 t11 (.val (.bool false))) H fun t12 H =>
  wGuard t12 true H (fun k => k t5 H) fun t14 H =>
  wGuard t12 true H (fun k => wNewS 1 1 (fillA (List.replicate 1 [(.val (.string ⟨#[]⟩))]).flatten [(0, 1, (.val (.string ⟨#[97]⟩)))]) H k) fun t15 H =>
  wGuard t12 true H (fun k => wCall E P 157 [t15] H k) fun t16 H =>
  wGuard t12 true H (fun k => wCall E P 157 [(.val (.slice none 0 0))] H k) fun t17 H =>
  wGuard t12 true H (fun k => wCall E P 158 [t14, t16, t17] H k) fun t18 H =>
  wGet (pickA t12 t18 (.val (.bool false))) H fun t19 H =>
  wGuard t19 true H (fun k => k t5 H) fun t21 H =>
  wGuard t19 true H (fun k => wNewS 1 2 (fillA (List.replicate 2 [(.val (.string ⟨#[]⟩))]).flatten [(0, 1, (.val (.string ⟨#[97]⟩))), (1, 1, (.val (.string ⟨#[98]⟩)))]) H k) fun t22 H =>
  wGuard t19 true H (fun k => wCall E P 157 [t22] H k) fun t23 H =>
  wGuard t19 true H (fun k => wCall E P 157 [(.val (.slice none 0 0))] H k) fun t24 H =>
  wGuard t19 true H (fun k => wCall E P 158 [t21, t23, t24] H k) fun t25 H =>
  wGuard t19 true H (fun k => wGet (unA .not t25) H k) fun t26 H =>
  wGet (pickA t19 t26 (.val (.bool false))) H fun t27 H =>
  wGuard t27 true H (fun k => k t5 H) fun t29 H =>
  wGuard t27 true H (fun k => wCall E P 127 [t29] H k) fun t30 H =>
  wGuard t27 true H (fun k => wGet (binA .eql t30 (.val (.string ⟨#[97, 32, 38, 32, 33, 98]⟩))) H k) fun t31 H =>
  wGet (pickA t27 t31 (.val (.bool false))) H fun t32 H =>
  R t32 H

/-- signalbox/expr.Size -/
def expr_Size (E : Env) (P : Program) (a0 : AV) (H : AH) (R : Kt) : Prop :=
  wNew 1 (some [(.val (.int .i64 0))]) H fun t3 H =>
  wPut (store1 t3 (.val (.int .i64 0)) H) fun _u H =>
  wCall E P 161 [a0, (.fn 160 [] [t3])] H fun t6 H =>
  wGet (load1 t3 H) H fun t7 H =>
  R t7 H

/-- signalbox/expr.Eval -/
def expr_Eval (E : Env) (P : Program) (a0 a1 a2 : AV) (H : AH) (R : Kt) : Prop :=
  wNew 1 (AV.cells? a1) H fun t4 H =>
  wNew 1 (AV.cells? a2) H fun t5 H =>
  wGet (assertA 11 (.val (.bool false)) a0) H fun t15 H =>
  wGet (extractA t15 1) H fun t16 H =>
  wGet (extractA t15 0) H fun t17 H =>
  wIf t16 (
    R t17 H) (
    wGet (assertA 14 (.val (.string ⟨#[]⟩)) a0) H fun t19 H =>
    wGet (extractA t19 1) H fun t20 H =>
    wGet (extractA t19 0) H fun t21 H =>
    wIf t20 (
      wGet (load1 t4 H) H fun t22 H =>
      wCallV E P t22 [t21] H fun t24 H =>
      R t24 H) (
      wGet (assertA 12 (.val (.string ⟨#[]⟩)) a0) H fun t25 H =>
      wGet (extractA t25 1) H fun t26 H =>
      wGet (extractA t25 0) H fun t27 H =>
      wIf t26 (
        wGet (load1 t4 H) H fun t28 H =>
        wCallV E P t28 [t27] H fun t30 H =>
        wGuard t30 true H (fun k => wGet (load1 t5 H) H k) fun t32 H =>
        wGuard t30 true H (fun k => k t27 H) fun t33 H =>
        wGuard t30 true H (fun k => wCallV E P t32 [t33] H k) fun t34 H =>
        wGuard t30 true H (fun k => wGet (unA .not t34) H k) fun t35 H =>
        wGet (pickA t30 t35 (.val (.bool false))) H fun t36 H =>
        R t36 H) (
        wGet (assertA 13 (.val (.string ⟨#[]⟩)) a0) H fun t37 H =>
        wGet (extractA t37 1) H fun t38 H =>
        wGet (extractA t37 0) H fun t39 H =>
        wIf t38 (
          wGet (load1 t4 H) H fun t40 H =>
          wCallV E P t40 [t39] H fun t42 H =>
          wGet (unA .not t42) H fun t43 H =>
          wGuard t43 true H (fun k => wGet (load1 t5 H) H k) fun t45 H =>
          wGuard t43 true H (fun k => k t39 H) fun t46 H =>
          wGuard t43 true H (fun k => wCallV E P t45 [t46] H k) fun t47 H =>
          wGet (pickA t43 t47 (.val (.bool false))) H fun t48 H =>
          R t48 H) (
          wGet (assertA 10 (.agg [(.val (.nilIface))]) a0) H fun t49 H =>
          wGet (extractA t49 1) H fun t50 H =>
          wGet (extractA t49 0) H fun t51 H =>
          wIf t50 (
            wNew 1 (some [(.val (.nilIface))]) H fun t11 H =>
            wPut (storeN 1 t11 t51 H) fun _u H =>
            wGet (faddr 0 t11) H fun t52 H =>
            wGet (load1 t52 H) H fun t53 H =>
            wGet (load1 t4 H) H fun t54 H =>
            wGet (load1 t5 H) H fun t55 H =>
            wCall E P 158 [t53, t54, t55] H fun t56 H =>
            wGet (unA .not t56) H fun t57 H =>
            R t57 H) (
            wGet (assertA 9 (.val (.slice none 0 0)) a0) H fun t58 H =>
            wGet (extractA t58 1) H fun t59 H =>
            wGet (extractA t58 0) H fun t60 H =>
            wIf t59 (
              wCall E P 163 [t60, (.fn 162 [] [t4, t5])] H fun t63 H =>
              wGet (unA .not t63) H fun t64 H =>
              R t64 H) (
              wGet (assertA 8 (.val (.slice none 0 0)) a0) H fun t65 H =>
              wGet (extractA t65 1) H fun t66 H =>
              wGet (extractA t65 0) H fun t67 H =>
              wIf t66 (
                wCall E P 165 [t67, (.fn 164 [] [t4, t5])] H fun t70 H =>
                R t70 H) (
                R (.val (.bool false)) H)))))))

/-- signalbox/signalboxkeep.among -/
def keep_among (E : Env) (P : Program) (a0 : AV) (H : AH) (R : Kt) : Prop :=
  wNew 1 (AV.cells? a0) H fun t1 H =>
  R (.fn 166 [] [t1]) H

/-- signalbox/expr.walk -/
def expr_walk (E : Env) (P : Program) (a0 a1 : AV) (H : AH) (R : Kt) : Prop :=
  wCallV E P a1 [a0] H fun t13 H =>
  wGet (assertA 10 (.agg [(.val (.nilIface))]) a0) H fun t15 H =>
  wGet (extractA t15 1) H fun t16 H =>
  wGet (extractA t15 0) H fun t17 H =>
  wIf t16 (
    wNew 1 (some [(.val (.nilIface))]) H fun t4 H =>
    wPut (storeN 1 t4 t17 H) fun _u H =>
    wGet (faddr 0 t4) H fun t18 H =>
    wGet (load1 t18 H) H fun t19 H =>
    wCall E P 161 [t19, a1] H fun t21 H =>
    R (.tup []) H) (
    wGet (assertA 9 (.val (.slice none 0 0)) a0) H fun t22 H =>
    wGet (extractA t22 1) H fun t23 H =>
    wGet (extractA t22 0) H fun t24 H =>
    wIf t23 (
      wGet (lenA t24) H fun t26 H =>
      wLoop 1 (fun I1 => I1 (.val (.int .i64 0)) H) fun I1 t27 H =>
        wGet (binA .lss t27 t26) H fun t28 H =>
        wIf t28 (
          wGet (iaddr 1 t24 t27) H fun t29 H =>
          wGet (load1 t29 H) H fun t30 H =>
          wCall E P 161 [t30, a1] H fun t33 H =>
          wGet (binA .add t27 (.val (.int .i64 1))) H fun t34 H =>
          I1 t34 H) (
          R (.tup []) H)) (
      wGet (assertA 8 (.val (.slice none 0 0)) a0) H fun t35 H =>
      wGet (extractA t35 1) H fun t36 H =>
      wGet (extractA t35 0) H fun t37 H =>
      wIf t36 (
        wGet (lenA t37) H fun t39 H =>
        wLoop 1 (fun I2 => I2 (.val (.int .i64 0)) H) fun I2 t40 H =>
          wGet (binA .lss t40 t39) H fun t41 H =>
          wIf t41 (
            wGet (iaddr 1 t37 t40) H fun t42 H =>
            wGet (load1 t42 H) H fun t43 H =>
            wCall E P 161 [t43, a1] H fun t46 H =>
            wGet (binA .add t40 (.val (.int .i64 1))) H fun t47 H =>
            I2 t47 H) (
            R (.tup []) H)) (
        R (.tup []) H)))

/-- signalbox/expr.Size$1 -/
def expr_Size_c1 (E : Env) (P : Program) (a0 a1 : AV) (H : AH) (R : Kt) : Prop :=
  wGet (load1 a1 H) H fun t3 H =>
  wGet (binA .add t3 (.val (.int .i64 1))) H fun t4 H =>
  wPut (store1 a1 t4 H) fun _u H =>
  R (.tup []) H

/-- slices.ContainsFunc[signalbox/expr.And,signalbox/expr.Expr] -/
def slices_ContainsFunc_expr_And_expr_Expr (E : Env) (P : Program) (a0 a1 : AV) (H : AH) (R : Kt) : Prop :=
  wCall E P 167 [a0, a1] H fun t7 H =>
  wGet (binA .geq t7 (.val (.int .i64 0))) H fun t8 H =>
  R t8 H

/-- signalbox/expr.Eval$1 -/
def expr_Eval_c1 (E : Env) (P : Program) (a0 a1 a2 : AV) (H : AH) (R : Kt) : Prop :=
  wGet (load1 a1 H) H fun t6 H =>
  wGet (load1 a2 H) H fun t7 H =>
  wCall E P 158 [a0, t6, t7] H fun t8 H =>
  wGet (unA .not t8) H fun t9 H =>
  R t9 H

/-- slices.ContainsFunc[signalbox/expr.Or,signalbox/expr.Expr] -/
def slices_ContainsFunc_expr_Or_expr_Expr (E : Env) (P : Program) (a0 a1 : AV) (H : AH) (R : Kt) : Prop :=
  wCall E P 168 [a0, a1] H fun t7 H =>
  wGet (binA .geq t7 (.val (.int .i64 0))) H fun t8 H =>
  R t8 H

/-- signalbox/expr.Eval$2 -/
def expr_Eval_c2 (E : Env) (P : Program) (a0 a1 a2 : AV) (H : AH) (R : Kt) : Prop :=
  wGet (load1 a1 H) H fun t6 H =>
  wGet (load1 a2 H) H fun t7 H =>
  wCall E P 158 [a0, t6, t7] H fun t8 H =>
  R t8 H

/-- signalbox/signalboxkeep.among$1 -/
def keep_among_c1 (E : Env) (P : Program) (a0 a1 : AV) (H : AH) (R : Kt) : Prop :=
  wLoop 1 (fun I1 => I1 (.val (.int .i64 0)) H) fun I1 t4 H =>
    wGet (load1 a1 H) H fun t6 H =>
    wGet (lenA t6) H fun t7 H =>
    wGet (binA .lss t4 t7) H fun t8 H =>
    wIf t8 (
      wGet (load1 a1 H) H fun t11 H =>
      wGet (iaddr 1 t11 t4) H fun t13 H =>
      wGet (load1 t13 H) H fun t14 H =>
      wGet (binA .eql t14 a0) H fun t16 H =>
      wIf t16 (
        R (.val (.bool true)) H) (
        wGet (binA .add t4 (.val (.int .i64 1))) H fun t10 H =>
        I1 t10 H)) (
      R (.val (.bool false)) H)

/-- slices.IndexFunc[signalbox/expr.And,signalbox/expr.Expr] -/
def slices_IndexFunc_expr_And_expr_Expr (E : Env) (P : Program) (a0 a1 : AV) (H : AH) (R : Kt) : Prop :=
  wGet (lenA a0) H fun t7 H =>
  wLoop 1 (fun I1 => I1 (.val (.int .i64 0)) H) fun I1 t8 H =>
    wGet (binA .lss t8 t7) H fun t9 H =>
    wIf t9 (
      wGet (iaddr 1 a0 t8) H fun t14 H =>
      wGet (load1 t14 H) H fun t15 H =>
      wCallV E P a1 [t15] H fun t16 H =>
      wIf t16 (
        R t8 H) (
        wGet (binA .add t8 (.val (.int .i64 1))) H fun t18 H =>
        I1 t18 H)) (
      R (.val (.int .i64 (-1))) H)

/-- slices.IndexFunc[signalbox/expr.Or,signalbox/expr.Expr] -/
def slices_IndexFunc_expr_Or_expr_Expr (E : Env) (P : Program) (a0 a1 : AV) (H : AH) (R : Kt) : Prop :=
  wGet (lenA a0) H fun t7 H =>
  wLoop 1 (fun I1 => I1 (.val (.int .i64 0)) H) fun I1 t8 H =>
    wGet (binA .lss t8 t7) H fun t9 H =>
    wIf t9 (
      wGet (iaddr 1 a0 t8) H fun t14 H =>
      wGet (load1 t14 H) H fun t15 H =>
      wCallV E P a1 [t15] H fun t16 H =>
      wIf t16 (
        R t8 H) (
        wGet (binA .add t8 (.val (.int .i64 1))) H fun t18 H =>
        I1 t18 H)) (
      R (.val (.int .i64 (-1))) H)

end Go.Sc.F
namespace Go.Sc
open Go
set_option linter.unusedSimpArgs false
set_option linter.unusedVariables false
set_option linter.unnecessarySimpa false

/-! ### what it says -/
mutual
def Ex.says (p q : Str → Bool) : Ex → Bool
  | .k b => b
  | .bit s => p s
  | .rise s => p s && !q s
  | .fall s => !p s && q s
  | .not x => !x.says p q
  | .and l => Ex.allL p q l
  | .or l => Ex.anyL p q l
def Ex.allL (p q : Str → Bool) : List Ex → Bool
  | [] => true
  | x :: l => x.says p q && Ex.allL p q l
def Ex.anyL (p q : Str → Bool) : List Ex → Bool
  | [] => false
  | x :: l => x.says p q || Ex.anyL p q l
end
theorem Ex.allL_eq (p q : Str → Bool) : ∀ l : List Ex, Ex.allL p q l = l.all fun x => x.says p q
  | [] => rfl
  | x :: l => by simp [Ex.allL, Ex.allL_eq p q l]
theorem Ex.anyL_eq (p q : Str → Bool) : ∀ l : List Ex, Ex.anyL p q l = l.any fun x => x.says p q
  | [] => rfl
  | x :: l => by simp [Ex.anyL, Ex.anyL_eq p q l]
mutual
def Ex.size : Ex → Nat
  | .not x => x.size + 1
  | .and l => Ex.sizeL l + 1
  | .or l => Ex.sizeL l + 1
  | _ => 1
def Ex.sizeL : List Ex → Nat
  | [] => 0
  | x :: l => x.size + Ex.sizeL l
end
mutual
theorem Ex.size_wt : ∀ x : Ex, x.fine → x.size ≤ x.wt
  | .k _, _ => by simp [Ex.size, Ex.wt]
  | .bit s, h => by
    cases s with
    | nil => simp [Ex.fine, nameOk] at h
    | cons a b => simp [Ex.size, Ex.wt]
  | .rise _, _ => by simp [Ex.size, Ex.wt]
  | .fall _, _ => by simp [Ex.size, Ex.wt]
  | .not x, h => by have := Ex.size_wt x h; simp only [Ex.size, Ex.wt]; omega
  | .and l, h => by have := Ex.sizeL_wt l h.2; simp only [Ex.size, Ex.wt]; omega
  | .or l, h => by have := Ex.sizeL_wt l h.2; simp only [Ex.size, Ex.wt]; omega
theorem Ex.sizeL_wt : ∀ l : List Ex, Ex.fineL l → Ex.sizeL l ≤ Ex.wtL l
  | [], _ => by simp [Ex.sizeL, Ex.wtL]
  | x :: l, h => by have h1 := Ex.size_wt x h.1; have h2 := Ex.sizeL_wt l h.2; simp only [Ex.sizeL, Ex.wtL]; omega
end
/-- a question of names -/
structure Asks (E : Env) (P : Program) (f : AV) (p : Str → Bool) : Prop where
  ok : ∃ k cc, f = .fn k [] cc ∧ AV.closedL cc ∧ ∀ s, FX E P k ([S s] ++ cc) (Bo (p s))
theorem Asks.closed {E : Env} {P : Program} {f : AV} {p : Str → Bool} (h : Asks E P f p) : f.closed := by
  obtain ⟨k, cc, rfl, h, _⟩ := h.ok
  exact ⟨trivial, h⟩
theorem Asks.scalar {E : Env} {P : Program} {f : AV} {p : Str → Bool} (h : Asks E P f p) : f.scalar = true := by
  obtain ⟨k, cc, rfl, h, _⟩ := h.ok
  rfl
theorem Asks.call {E : Env} {P : Program} {f : AV} {p : Str → Bool} (h : Asks E P f p) (s : Str) {H : AH} {K : Kt} (hK : ∀ n, K (Bo (p s)) ⟨H.bs, n⟩) : wCallV E P f [S s] H K := by
  obtain ⟨k, cc, rfl, _, h⟩ := h.ok
  exact wCallV.fx (fs := []) (h s) hK
/-- a list of texts, or nil -/
def TXL (a : AV) (l : List Str) : Prop := (a = nilS ∧ l = []) ∨ a = Lm S l
theorem TXL.closed {a : AV} {l : List Str} (h : TXL a l) : a.closed := by
  rcases h with ⟨rfl, _⟩ | rfl
  · trivial
  · exact closed_S l
theorem TXL.scalar {a : AV} {l : List Str} (h : TXL a l) : a.scalar = true := by
  rcases h with ⟨rfl, _⟩ | rfl <;> rfl
theorem TXL.len {a : AV} {l : List Str} (h : TXL a l) : lenA a = some (Z l.length) := by
  rcases h with ⟨rfl, rfl⟩ | rfl <;> rfl
structure EvalBodies (E : Env) (P : Program) : Prop where
  among : Body1 E P 157 F.keep_among
  among1 : Body2 E P 166 F.keep_among_c1
  eval : Body3 E P 158 F.expr_Eval
  eval1 : Body3 E P 162 F.expr_Eval_c1
  eval2 : Body3 E P 164 F.expr_Eval_c2
  conA : Body2 E P 163 F.slices_ContainsFunc_expr_And_expr_Expr
  conO : Body2 E P 165 F.slices_ContainsFunc_expr_Or_expr_Expr
  ixA : Body2 E P 167 F.slices_IndexFunc_expr_And_expr_Expr
  ixO : Body2 E P 168 F.slices_IndexFunc_expr_Or_expr_Expr
section
variable {E : Env} {P : Program}
theorem among1_spec (B : EvalBodies E P) {a : AV} {l : List Str} (h : TXL a l) (hl : l.length < 1099511627776) (s : Str) : FX E P 166 ([S s] ++ [.ptrF [a] 0]) (Bo (decide (s ∈ l))) := by
  refine FX.of' ⟨trivial, ⟨h.closed, trivial⟩, trivial⟩ trivial fun n R hR => B.among1 _ _ _ _ ?_
  unfold F.keep_among_c1
  refine wLoop.one (fun m i H => ∃ pre rest c, l = pre ++ rest ∧ i = Z pre.length ∧ m = rest.length ∧ s ∉ pre ∧ H = ⟨[], c⟩) l.length (gh1.mk ⟨[], l, n, rfl, rfl, rfl, by simp, rfl⟩) ?_
  rintro m i H ⟨pre, rest, c, rfl, rfl, rfl, hpre, rfl⟩
  simp only [nd0, Y1n, Y1o, Y1p, Y1q, Y1w, Y1x, Y1y, Y1z, Y20, Y21, Y28, Y2a, AV.cells?, Nat.reduceAdd, Nat.reduceMul, h.len]
  cases rest with
  | nil =>
    simp only [nd0, Y1n, Y1o, Y1p, Y1q, Y1w, Y1x, Y1y, Y1z, Y20, Y21, Y28, Y2a, AV.cells?, Nat.reduceAdd, Nat.reduceMul, List.append_nil, Int.lt_irrefl]
    exact hR _ _ (by rw [decide_eq_false (by simpa using hpre)])
  | cons x rest =>
    simp only [nd0, Y1n, Y1o, Y1p, Y1q, Y1w, Y1x, Y1y, Y1z, Y20, Y21, Y28, Y2a, AV.cells?, Nat.reduceAdd, Nat.reduceMul, decide_eq_true (show (pre.length : Int) < ((pre ++ x :: rest).length : Int) by simp; omega)]
    rcases h with ⟨_, h⟩ | rfl
    · simp at h
    rw [iaddr_Nn lt_mid]
    simp only [nd0, Y1n, Y1o, Y1p, Y1q, Y1w, Y1x, Y1y, Y1z, Y20, Y21, Y28, Y2a, AV.cells?, Nat.reduceAdd, Nat.reduceMul, at_mid]
    by_cases hx : x = s
    · simp only [nd0, Y1n, Y1o, Y1p, Y1q, Y1w, Y1x, Y1y, Y1z, Y20, Y21, Y28, Y2a, AV.cells?, Nat.reduceAdd, Nat.reduceMul, decide_eq_true hx]
      exact hR _ _ (by rw [decide_eq_true (by rw [hx]; simp)])
    · simp only [nd0, Y1n, Y1o, Y1p, Y1q, Y1w, Y1x, Y1y, Y1z, Y20, Y21, Y28, Y2a, AV.cells?, Nat.reduceAdd, Nat.reduceMul, decide_eq_false hx]
      rw [binA_succ (by simp at hl; omega)]
      simp only [nd0, Y1n, Y1o, Y1p, Y1q, Y1w, Y1x, Y1y, Y1z, Y20, Y21, Y28, Y2a, AV.cells?, Nat.reduceAdd, Nat.reduceMul]
      exact back1.mk rest.length (by simp) ⟨pre ++ [x], rest, c, by simp, by simp, rfl, by simp [hpre, Ne.symm hx], rfl⟩
def amongA (a : AV) : AV := .fn 166 [] [.ptrF [a] 0]
theorem among_spec (B : EvalBodies E P) {a : AV} {l : List Str} (h : TXL a l) : FX E P 157 [a] (amongA a) := by
  refine FX.of' ⟨h.closed, trivial⟩ ⟨trivial, ⟨h.closed, trivial⟩, trivial⟩ fun n R hR => B.among _ _ _ ?_
  unfold F.keep_among
  rw [cells?_scalar h.scalar]
  refine wNew.F' rfl ?_
  exact hR _ _ rfl
theorem among_asks (B : EvalBodies E P) {a : AV} {l : List Str} (h : TXL a l) (hl : l.length < 1099511627776) : Asks E P (amongA a) (fun s => decide (s ∈ l)) :=
  ⟨166, _, rfl, ⟨⟨h.closed, trivial⟩, trivial⟩, among1_spec B h hl⟩
theorem ixF_spec {G : Env → Program → AV → AV → AH → Kt → Prop} {kk : Nat} (hG : G = F.slices_IndexFunc_expr_And_expr_Expr ∨ G = F.slices_IndexFunc_expr_Or_expr_Expr) (hB : Body2 E P kk G) {k : Nat} {cs : List AV} {p : Ex → Bool} (l : List Ex) (hl : l.length < 4611686018427387904) (hcs : AV.closedL cs)
    (hp : ∀ a ∈ l, FX E P k ([a.enc] ++ cs) (Bo (p a))) : FX E P kk [.slN (Ex.encL l) l.length, .fn k [] cs] (Z (idxO (l.findIdx? p))) := by
  refine FX.of' ⟨Ex.encL_closed l, ⟨trivial, hcs⟩, trivial⟩ (by simp [AV.closed]) fun n R hR => hB _ _ _ _ ?_
  have main : wLoop 1 (fun I1 => I1 (Z 0) ⟨[], n⟩) fun I1 t8 H =>
      wGet (binA .lss t8 (Z l.length)) H fun t9 H =>
      wIf t9 (
        wGet (iaddr 1 (.slN (Ex.encL l) l.length) t8) H fun t14 H =>
        wGet (load1 t14 H) H fun t15 H =>
        wCallV E P (.fn k [] cs) [t15] H fun t16 H =>
        wIf t16 (
          R t8 H) (
          wGet (binA .add t8 (.val (.int .i64 1))) H fun t18 H =>
          I1 t18 H)) (
        R (.val (.int .i64 (-1))) H) := by
    refine wLoop.one (fun m i H => ∃ pre rest, l = pre ++ rest ∧ i = Z pre.length ∧ m = rest.length ∧ ∀ a ∈ pre, p a = false) l.length (gh1.mk ⟨[], l, rfl, rfl, rfl, by simp⟩) ?_
    rintro m i H ⟨pre, rest, rfl, rfl, rfl, hpre⟩
    cases rest with
    | nil =>
      simp only [nd0, Y1n, Y1o, Y1p, Y1q, Y1w, Y1x, Y1y, Y1z, Y20, Y21, Y28, Y2a, AV.cells?, Nat.reduceAdd, Nat.reduceMul, List.append_nil, Int.lt_irrefl]
      refine hR _ _ ?_
      rw [List.append_nil, List.findIdx?_eq_none_iff.2 hpre]
      rfl
    | cons x rest =>
      simp only [nd0, Y1n, Y1o, Y1p, Y1q, Y1w, Y1x, Y1y, Y1z, Y20, Y21, Y28, Y2a, AV.cells?, Nat.reduceAdd, Nat.reduceMul, decide_eq_true (show (pre.length : Int) < ((pre ++ x :: rest).length : Int) by simp; omega)]
      rw [iaddr_Nn lt_mid]
      simp only [nd0, Y1n, Y1o, Y1p, Y1q, Y1w, Y1x, Y1y, Y1z, Y20, Y21, Y28, Y2a, AV.cells?, Nat.reduceAdd, Nat.reduceMul, show (Ex.encL (pre ++ x :: rest))[pre.length]? = some x.enc by rw [Ex.encL_map]; simp]
      refine wCallV.fx (hp x (by simp)) fun n1 => ?_
      refine wIf.bool (fun h => ?_) fun h => ?_
      · refine hR _ _ ?_
        have : (pre ++ x :: rest).findIdx? p = some pre.length := by
          rw [List.findIdx?_append, List.findIdx?_eq_none_iff.2 hpre]
          simp [List.findIdx?_cons, h]
        rw [this]; rfl
      · rw [binA_succ (by simp at hl; omega)]
        simp only [nd0, Y1n, Y1o, Y1p, Y1q, Y1w, Y1x, Y1y, Y1z, Y20, Y21, Y28, Y2a, AV.cells?, Nat.reduceAdd, Nat.reduceMul]
        refine back1.mk rest.length (by simp) ⟨pre ++ [x], rest, by simp, by simp, rfl, fun a ha => ?_⟩
        rcases List.mem_append.1 ha with ha | ha
        · exact hpre a ha
        · simp at ha; subst ha; exact h
  rcases hG with rfl | rfl
  · unfold F.slices_IndexFunc_expr_And_expr_Expr
    simp only [nd0, Y1n, Y1o, Y1p, Y1q, Y1w, Y1x, Y1y, Y1z, Y20, Y21, Y28, Y2a, AV.cells?, Nat.reduceAdd, Nat.reduceMul]
    exact main
  · unfold F.slices_IndexFunc_expr_Or_expr_Expr
    simp only [nd0, Y1n, Y1o, Y1p, Y1q, Y1w, Y1x, Y1y, Y1z, Y20, Y21, Y28, Y2a, AV.cells?, Nat.reduceAdd, Nat.reduceMul]
    exact main
theorem any_idx {α : Type} {l : List α} {p : α → Bool} : decide ((0 : Int) ≤ idxO (l.findIdx? p)) = l.any p := by
  cases hf : l.findIdx? p with
  | none =>
    rw [List.findIdx?_eq_none_iff] at hf
    have : l.any p = false := by rw [List.any_eq_false]; intro x hx; simp [hf x hx]
    rw [this]; rfl
  | some i =>
    rw [List.findIdx?_eq_some_iff_getElem] at hf
    obtain ⟨h1, h2, _⟩ := hf
    have : l.any p = true := by rw [List.any_eq_true]; exact ⟨_, List.getElem_mem h1, h2⟩
    rw [this]
    have : (0 : Int) ≤ idxO (some i) := by simp [idxO]
    rw [decide_eq_true this]
theorem conA_spec (B : EvalBodies E P) {k : Nat} {cs : List AV} {p : Ex → Bool} (l : List Ex) (hl : l.length < 4611686018427387904) (hcs : AV.closedL cs) (hp : ∀ a ∈ l, FX E P k ([a.enc] ++ cs) (Bo (p a))) :
    FX E P 163 [.slN (Ex.encL l) l.length, .fn k [] cs] (Bo (l.any p)) := by
  refine FX.of' ⟨Ex.encL_closed l, ⟨trivial, hcs⟩, trivial⟩ trivial fun n R hR => B.conA _ _ _ _ ?_
  unfold F.slices_ContainsFunc_expr_And_expr_Expr
  refine wCall.fx (ixF_spec (.inl rfl) B.ixA l hl hcs hp) fun n => ?_
  simp only [nd0, Y1n, Y1o, Y1p, Y1q, Y1w, Y1x, Y1y, Y1z, Y20, Y21, Y28, Y2a, AV.cells?, Nat.reduceAdd, Nat.reduceMul]
  exact hR _ _ (by rw [any_idx])
theorem conO_spec (B : EvalBodies E P) {k : Nat} {cs : List AV} {p : Ex → Bool} (l : List Ex) (hl : l.length < 4611686018427387904) (hcs : AV.closedL cs) (hp : ∀ a ∈ l, FX E P k ([a.enc] ++ cs) (Bo (p a))) :
    FX E P 165 [.slN (Ex.encL l) l.length, .fn k [] cs] (Bo (l.any p)) := by
  refine FX.of' ⟨Ex.encL_closed l, ⟨trivial, hcs⟩, trivial⟩ trivial fun n R hR => B.conO _ _ _ _ ?_
  unfold F.slices_ContainsFunc_expr_Or_expr_Expr
  refine wCall.fx (ixF_spec (.inr rfl) B.ixO l hl hcs hp) fun n => ?_
  simp only [nd0, Y1n, Y1o, Y1p, Y1q, Y1w, Y1x, Y1y, Y1z, Y20, Y21, Y28, Y2a, AV.cells?, Nat.reduceAdd, Nat.reduceMul]
  exact hR _ _ (by rw [any_idx])
theorem all_any {l : List Ex} {p : Ex → Bool} : (!(l.any fun x => !p x)) = l.all p := by
  rw [Bool.eq_iff_iff]; simp
set_option maxHeartbeats 1000000 in
theorem Eval_spec (B : EvalBodies E P) {f g : AV} {p q : Str → Bool} (hf : Asks E P f p) (hg : Asks E P g q) : ∀ (n : Nat) (x : Ex), x.wt < n → x.wt ≤ 1000000 → x.fine → FX E P 158 [x.enc, f, g] (Bo (x.says p q)) := by
  intro n
  induction n with
  | zero => intro x hx; omega
  | succ n ih =>
    intro x hx hw hfi
    refine FX.of' ⟨Ex.enc_closed x, hf.closed, hg.closed, trivial⟩ trivial fun c R hR => B.eval _ _ _ _ _ ?_
    unfold F.expr_Eval
    rw [cells?_scalar hf.scalar]
    refine wNew.F' rfl ?_
    rw [cells?_scalar hg.scalar]
    refine wNew.F' rfl ?_
    have hbox : ∀ l : List Ex, AV.closedL [AV.ptrF [f] 0, .ptrF [g] 0] := fun _ => ⟨⟨hf.closed, trivial⟩, ⟨hg.closed, trivial⟩, trivial⟩
    cases x with
    | k b =>
      simp only [Ex.enc]
      simp only [nd0, Y1n, Y1o, Y1p, Y1q, Y1w, Y1x, Y1y, Y1z, Y20, Y21, Y28, Y2a, AV.cells?, Nat.reduceAdd, Nat.reduceMul, asA, if_pos rfl]
      exact hR _ _ rfl
    | bit s =>
      simp only [Ex.enc]
      simp only [nd0, Y1n, Y1o, Y1p, Y1q, Y1w, Y1x, Y1y, Y1z, Y20, Y21, Y28, Y2a, AV.cells?, Nat.reduceAdd, Nat.reduceMul, asA, show (14 : Nat) = 11 ↔ False by decide, show (14 : Nat) = 14 ↔ True by decide]
      refine hf.call s fun n => ?_
      exact hR _ _ rfl
    | rise s =>
      simp only [Ex.enc]
      simp only [nd0, Y1n, Y1o, Y1p, Y1q, Y1w, Y1x, Y1y, Y1z, Y20, Y21, Y28, Y2a, AV.cells?, Nat.reduceAdd, Nat.reduceMul, asA, show (12 : Nat) = 11 ↔ False by decide, show (12 : Nat) = 14 ↔ False by decide, show (12 : Nat) = 12 ↔ True by decide]
      refine hf.call s fun n => ?_
      cases hp : p s with
      | false => simp only [nd0, Y1n, Y1o, Y1p, Y1q, Y1w, Y1x, Y1y, Y1z, Y20, Y21, Y28, Y2a, AV.cells?, Nat.reduceAdd, Nat.reduceMul]; exact hR _ _ (by simp [Ex.says, hp])
      | true =>
        simp only [nd0, Y1n, Y1o, Y1p, Y1q, Y1w, Y1x, Y1y, Y1z, Y20, Y21, Y28, Y2a, AV.cells?, Nat.reduceAdd, Nat.reduceMul]
        refine hg.call s fun n => ?_
        simp only [nd0, Y1n, Y1o, Y1p, Y1q, Y1w, Y1x, Y1y, Y1z, Y20, Y21, Y28, Y2a, AV.cells?, Nat.reduceAdd, Nat.reduceMul]
        exact hR _ _ (by simp [Ex.says, hp])
    | fall s =>
      simp only [Ex.enc]
      simp only [nd0, Y1n, Y1o, Y1p, Y1q, Y1w, Y1x, Y1y, Y1z, Y20, Y21, Y28, Y2a, AV.cells?, Nat.reduceAdd, Nat.reduceMul, asA, show (13 : Nat) = 11 ↔ False by decide, show (13 : Nat) = 14 ↔ False by decide, show (13 : Nat) = 12 ↔ False by decide, show (13 : Nat) = 13 ↔ True by decide]
      refine hf.call s fun n => ?_
      cases hp : p s with
      | true => simp only [nd0, Y1n, Y1o, Y1p, Y1q, Y1w, Y1x, Y1y, Y1z, Y20, Y21, Y28, Y2a, AV.cells?, Nat.reduceAdd, Nat.reduceMul]; exact hR _ _ (by simp [Ex.says, hp])
      | false =>
        simp only [nd0, Y1n, Y1o, Y1p, Y1q, Y1w, Y1x, Y1y, Y1z, Y20, Y21, Y28, Y2a, AV.cells?, Nat.reduceAdd, Nat.reduceMul]
        refine hg.call s fun n => ?_
        simp only [nd0, Y1n, Y1o, Y1p, Y1q, Y1w, Y1x, Y1y, Y1z, Y20, Y21, Y28, Y2a, AV.cells?, Nat.reduceAdd, Nat.reduceMul]
        exact hR _ _ (by simp [Ex.says, hp])
    | not x =>
      simp only [Ex.enc]
      simp only [Ex.wt] at hw hx
      simp only [nd0, Y1n, Y1o, Y1p, Y1q, Y1w, Y1x, Y1y, Y1z, Y20, Y21, Y28, Y2a, AV.cells?, Nat.reduceAdd, Nat.reduceMul, asA, show (10 : Nat) = 11 ↔ False by decide, show (10 : Nat) = 14 ↔ False by decide, show (10 : Nat) = 12 ↔ False by decide, show (10 : Nat) = 13 ↔ False by decide, show (10 : Nat) = 10 ↔ True by decide]
      refine wNew.L (l := [nilE]) rfl ?_
      simp only [nd0, Y1n, Y1o, Y1p, Y1q, Y1w, Y1x, Y1y, Y1z, Y20, Y21, Y28, Y2a, AV.cells?, Nat.reduceAdd, Nat.reduceMul]
      rw [storeN_L (n := 1) (xs := [x.enc]) rfl (by simp [Ex.enc_scalar])]
      simp only [nd0, Y1n, Y1o, Y1p, Y1q, Y1w, Y1x, Y1y, Y1z, Y20, Y21, Y28, Y2a, AV.cells?, Nat.reduceAdd, Nat.reduceMul, show putL [nilE] 0 [x.enc] = some [x.enc] from rfl]
      refine wCall.fx (ih x (by omega) (by omega) hfi) fun n2 => ?_
      simp only [nd0, Y1n, Y1o, Y1p, Y1q, Y1w, Y1x, Y1y, Y1z, Y20, Y21, Y28, Y2a, AV.cells?, Nat.reduceAdd, Nat.reduceMul]
      exact hR _ _ rfl
    | and l =>
      simp only [Ex.enc]
      simp only [Ex.wt] at hw hx
      have hll := Ex.len_wtL hfi.2
      simp only [nd0, Y1n, Y1o, Y1p, Y1q, Y1w, Y1x, Y1y, Y1z, Y20, Y21, Y28, Y2a, AV.cells?, Nat.reduceAdd, Nat.reduceMul, asA, show (9 : Nat) = 11 ↔ False by decide, show (9 : Nat) = 14 ↔ False by decide, show (9 : Nat) = 12 ↔ False by decide, show (9 : Nat) = 13 ↔ False by decide, show (9 : Nat) = 10 ↔ False by decide, show (9 : Nat) = 9 ↔ True by decide]
      refine wCall.fx (conA_spec B (p := fun x => !x.says p q) l (by omega) (hbox l) fun y hy => ?_) fun n2 => ?_
      · refine FX.of' ⟨Ex.enc_closed y, hbox l⟩ trivial fun c R hR => B.eval1 _ _ _ _ _ ?_
        unfold F.expr_Eval_c1
        simp only [nd0, Y1n, Y1o, Y1p, Y1q, Y1w, Y1x, Y1y, Y1z, Y20, Y21, Y28, Y2a, AV.cells?, Nat.reduceAdd, Nat.reduceMul]
        have := Ex.wt_mem hy
        refine wCall.fx (ih y (by omega) (by omega) (Ex.fine_mem hfi.2 hy)) fun n2 => ?_
        simp only [nd0, Y1n, Y1o, Y1p, Y1q, Y1w, Y1x, Y1y, Y1z, Y20, Y21, Y28, Y2a, AV.cells?, Nat.reduceAdd, Nat.reduceMul]
        exact hR _ _ rfl
      · simp only [nd0, Y1n, Y1o, Y1p, Y1q, Y1w, Y1x, Y1y, Y1z, Y20, Y21, Y28, Y2a, AV.cells?, Nat.reduceAdd, Nat.reduceMul]
        exact hR _ _ (by rw [all_any, Ex.says, Ex.allL_eq])
    | or l =>
      simp only [Ex.enc]
      simp only [Ex.wt] at hw hx
      have hll := Ex.len_wtL hfi.2
      simp only [nd0, Y1n, Y1o, Y1p, Y1q, Y1w, Y1x, Y1y, Y1z, Y20, Y21, Y28, Y2a, AV.cells?, Nat.reduceAdd, Nat.reduceMul, asA, show (8 : Nat) = 11 ↔ False by decide, show (8 : Nat) = 14 ↔ False by decide, show (8 : Nat) = 12 ↔ False by decide, show (8 : Nat) = 13 ↔ False by decide, show (8 : Nat) = 10 ↔ False by decide, show (8 : Nat) = 9 ↔ False by decide, show (8 : Nat) = 8 ↔ True by decide]
      refine wCall.fx (conO_spec B (p := fun x => x.says p q) l (by omega) (hbox l) fun y hy => ?_) fun n2 => ?_
      · refine FX.of' ⟨Ex.enc_closed y, hbox l⟩ trivial fun c R hR => B.eval2 _ _ _ _ _ ?_
        unfold F.expr_Eval_c2
        simp only [nd0, Y1n, Y1o, Y1p, Y1q, Y1w, Y1x, Y1y, Y1z, Y20, Y21, Y28, Y2a, AV.cells?, Nat.reduceAdd, Nat.reduceMul]
        have := Ex.wt_mem hy
        refine wCall.fx (ih y (by omega) (by omega) (Ex.fine_mem hfi.2 hy)) fun n2 => ?_
        exact hR _ _ rfl
      · exact hR _ _ (by rw [Ex.says, Ex.anyL_eq])
end
end Go.Sc
