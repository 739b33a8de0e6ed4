/- CALLS THAT WRITE ONE BLOCK OF THE CALLER's, told by a pointer (readers of texts). CONTRACTS: slices of texts; strings.Trim at letters of one byte. CONTRACTS: which texts may be names: expr.Name, and the reference's NameCheck. EXPRESSIONS, AND HOW TEXTS ARE READ AS EXPRESSIONS: plain. CONTRACTS: bytes and runes in texts; how package expr's reader reads blanks, signs and names. (of the seat YtmklekabnghafaaGreatDoor) -/
import Derived.Test.YtmklekabnghafaaGreatDoorCore5
namespace Go.Sc
open Go
set_option linter.unusedVariables false
set_option linter.unusedSimpArgs false
def S1 : Nat → Bool := fun i => decide (i ≠ 0)
structure PC (E : Env) (P : Program) (k sz : Nat) (cs : List AV) (args : Nat → Nat → List AV) (R0 : AV → List AV → Prop) : Prop where
  ok : ∀ n g, ACalls E P k (args 0 g) ⟨[.cells g sz cs], n⟩ fun r H' => ∃ cs', R0 r cs' ∧ H'.bs = [.cells g sz cs']
  ca : ∀ f g, AV.renL f (args 0 g) = args (f 0) g
  cc : AV.closedL cs
  cr : ∀ r cs', R0 r cs' → r.closed ∧ AV.closedL cs'
section
variable {E : Env} {P : Program} {k sz : Nat} {cs : List AV} {args : Nat → Nat → List AV} {R0 : AV → List AV → Prop}
theorem PC.calls (h : PC E P k sz cs args R0) {H : AH} {b g : Nat} (hb : H.bs[b]? = some (.cells g sz cs)) : ACalls E P k (args b g) H fun r H' => ∃ cs' n, R0 r cs' ∧ H' = ⟨H.bs.set b (.cells g sz cs'), n⟩ := by
  have hr : rmap [b] H.bs.length 0 = b := rfl
  have hcells : ∀ cs', AV.closedL cs' → (Blk.cells g sz cs').ren (rmap [b] H.bs.length) = .cells g sz cs' := fun cs' hc => by simp only [Blk.ren, AV.renL_closed _ hc]
  have := ACalls.frame (mv := [b]) (B := [.cells g sz cs]) (args0 := args 0 g) (args := args b g) (H := H) (R0 := fun r B' => ∃ cs', R0 r cs' ∧ B' = [.cells g sz cs'])
    (fun n => (h.ok n g).mono fun r H' ⟨cs', h1, h2⟩ => ⟨r, H', .refl _ _, ⟨cs', h1, h2⟩, by rw [h2]; rfl⟩) (by simp) rfl
    (fun i b' x h1 h2 => by
      cases i with
      | zero => simp at h1 h2; subst h1 h2; rw [hcells _ h.cc]; exact hb
      | succ i => simp at h1) (by rw [h.ca, hr])
  refine this.mono fun r H' ⟨r0, B', n, ⟨cs', h1, h2⟩, _, h3, h4⟩ => ⟨r, H', .refl _ _, cs', n, ?_, ?_⟩
  · rw [h3, AV.ren_closed _ (h.cr _ _ h1).1]; exact h1
  · rw [h4, h2, List.map_cons, List.map_nil, hcells _ (h.cr _ _ h1).2]; rfl
theorem PC.of (ca : ∀ f g, AV.renL f (args 0 g) = args (f 0) g) (cc : AV.closedL cs) (cr : ∀ r cs', R0 r cs' → r.closed ∧ AV.closedL cs')
    (h : ∀ n g (R : Kt), (∀ x r cs' rest n', Fk ⟨.cells g sz cs' :: rest, n'⟩ S1 x r → R0 r cs' → R x ⟨.cells g sz cs' :: rest, n'⟩) → ACalls E P k (args 0 g) ⟨[.cells g sz cs], n⟩ R) : PC E P k sz cs args R0 where
  ok := fun n g => (h n g (fun x H => ∃ r cs' rest n', H = ⟨.cells g sz cs' :: rest, n'⟩ ∧ Fk ⟨.cells g sz cs' :: rest, n'⟩ S1 x r ∧ R0 r cs') fun x r cs' rest n' h1 h2 => ⟨r, cs', rest, n', rfl, h1, h2⟩).mono (by
    rintro x H ⟨r, cs', rest, n', rfl, h1, h2⟩
    refine ⟨r, ⟨[.cells g sz cs'], n'⟩, ?_, cs', h2, rfl⟩
    exact ghost_kill (H := ⟨.cells g sz cs' :: rest, n'⟩) (H' := ⟨[.cells g sz cs'], n'⟩) (S := S1) rfl (.keep rfl (KB.same _) (.cut fun j x _ => .inl (by simp [S1]))) (.cons h1 .nil))
  ca := ca
  cc := cc
  cr := cr
theorem wCall.pc {H : AH} {b g : Nat} {args' : List AV} {K : Kt} (h : PC E P k sz cs args R0) (hb : H.bs[b]? = some (.cells g sz cs)) (ha : args' = args b g) (hK : ∀ r cs' n, R0 r cs' → K r ⟨H.bs.set b (.cells g sz cs'), n⟩) : wCall E P k args' H K :=
  ⟨_, ha ▸ h.calls hb, fun r _ ⟨cs', n, h1, h2⟩ => h2 ▸ hK r cs' n h1⟩
theorem wCallV.pc {H : AH} {b g : Nat} {fs as cc : List AV} {K : Kt} (h : PC E P k sz cs args R0) (hb : H.bs[b]? = some (.cells g sz cs)) (ha : fs ++ as ++ cc = args b g) (hK : ∀ r cs' n, R0 r cs' → K r ⟨H.bs.set b (.cells g sz cs'), n⟩) : wCallV E P (.fn k fs cc) as H K :=
  ⟨k, fs, cc, rfl, _, ha ▸ h.calls hb, fun r _ ⟨cs', n, h1, h2⟩ => h2 ▸ hK r cs' n h1⟩
end
end Go.Sc
namespace Go.Sc.F
open Go Go.Sc
set_option linter.unusedVariables false
/-- signalbox/expr.Name -/
def expr_Name (E : Env) (P : Program) (a0 : AV) (H : AH) (R : Kt) : Prop :=
  wGet (binA .neq a0 (.val (.string ⟨#[]⟩))) H fun t4 H =>
  wGuard t4 true H (fun k => k a0 H) fun t6 H =>
  wGuard t4 true H (fun k => wGet (lenS t6) H k) fun t7 H =>
  wGuard t4 true H (fun k => wGet (binA .leq t7 (.val (.int .i64 8))) H k) fun t8 H =>
  wGet (pickA t4 t8 (.val (.bool false))) H fun t9 H =>
  wGuard t9 true H (fun k => k a0 H) fun t11 H =>
  wGuard t9 true H (fun k => wGet (idxStr t11 (.val (.int .i64 0))) H k) fun t12 H =>
  wGuard t9 true H (fun k => wGet (binA .geq t12 (.val (.int .u8 97))) H k) fun t13 H =>
  wGet (pickA t9 t13 (.val (.bool false))) H fun t14 H =>
  wGuard t14 true H (fun k => k a0 H) fun t16 H =>
  wGuard t14 true H (fun k => wGet (idxStr t16 (.val (.int .i64 0))) H k) fun t17 H =>
  wGuard t14 true H (fun k => wGet (binA .leq t17 (.val (.int .u8 122))) H k) fun t18 H =>
  wGet (pickA t14 t18 (.val (.bool false))) H fun t19 H =>
  wGuard t19 true H (fun k => k a0 H) fun t21 H =>
  wGuard t19 true H (fun k => wCall E P 4 [t21, (.val (.string ⟨#[97, 98, 99, 100, 101, 102, 103, 104, 105, 106, 107, 108, 109, 110, 111, 112, 113, 114, 115, 116, 117, 118, 119, 120, 121, 122, 48, 49, 50, 51, 52, 53, 54, 55, 56, 57, 95]⟩))] H k) fun t22 H =>
  wGuard t19 true H (fun k => wGet (binA .eql t22 (.val (.string ⟨#[]⟩))) H k) fun t23 H =>
  wGet (pickA t19 t23 (.val (.bool false))) H fun t24 H =>
  wGuard t24 true H (fun k => wNewS 1 9 (fillA (List.replicate 9 [(.val (.string ⟨#[]⟩))]).flatten [(0, 1, (.val (.string ⟨#[105, 110, 112, 117, 116]⟩))), (1, 1, (.val (.string ⟨#[99, 111, 105, 108]⟩))), (2, 1, (.val (.string ⟨#[116, 105, 109, 101, 114]⟩))), (3, 1, (.val (.string ⟨#[99, 111, 117, 110, 116, 101, 114]⟩))), (4, 1, (.val (.string ⟨#[115, 101, 116]⟩))), (5, 1, (.val (.string ⟨#[114, 101, 115, 101, 116]⟩))), (6, 1, (.val (.string ⟨#[114, 117, 110]⟩))), (7, 1, (.val (.string ⟨#[99, 111, 117, 110, 116]⟩))), (8, 1, (.val (.string ⟨#[122, 101, 114, 111]⟩)))]) H k) fun t26 H =>
  wGuard t24 true H (fun k => k a0 H) fun t27 H =>
  wGuard t24 true H (fun k => wCall E P 5 [t26, t27] H k) fun t28 H =>
  wGuard t24 true H (fun k => wGet (unA .not t28) H k) fun t29 H =>
  wGet (pickA t24 t29 (.val (.bool false))) H fun t30 H =>
  R t30 H

/-- strings.Trim -/
def strings_Trim (E : Env) (P : Program) (a0 a1 : AV) (H : AH) (R : Kt) : Prop :=
  wGet (binA .eql a0 (.val (.string ⟨#[]⟩))) H fun t8 H =>
  wGuard t8 false H (fun k => k a1 H) fun t10 H =>
  wGuard t8 false H (fun k => wGet (binA .eql t10 (.val (.string ⟨#[]⟩))) H k) fun t11 H =>
  wGet (pickA t8 (.val (.bool true)) t11) H fun t12 H =>
  wIf t12 (
    R a0 H) (
    wGet (lenS a1) H fun t15 H =>
    wGet (binA .eql t15 (.val (.int .i64 1))) H fun t16 H =>
    wGuard t16 true H (fun k => k a1 H) fun t18 H =>
    wGuard t16 true H (fun k => wGet (idxStr t18 (.val (.int .i64 0))) H k) fun t19 H =>
    wGuard t16 true H (fun k => wGet (binA .lss t19 (.val (.int .u8 128))) H k) fun t20 H =>
    wGet (pickA t16 t20 (.val (.bool false))) H fun t21 H =>
    wIf t21 (
      wGet (idxStr a1 (.val (.int .i64 0))) H fun t24 H =>
      wGet (idxStr a1 (.val (.int .i64 0))) H fun t27 H =>
      wCall E P 6 [a0, t24] H fun t25 H =>
      wCall E P 7 [t25, t27] H fun t28 H =>
      R t28 H) (
      wCall E P 8 [a1] H fun t31 H =>
      wGet (extractA t31 0) H fun t32 H =>
      wGet (extractA t31 1) H fun t33 H =>
      wNew 256 (some (List.replicate 256 (.val (.bool false)))) H fun t5 H =>
      wPut (storeN 256 t5 t32 H) fun _u H =>
      wIf t33 (
        wCall E P 9 [a0, t5] H fun t36 H =>
        wCall E P 10 [t36, t5] H fun t37 H =>
        R t37 H) (
        wCall E P 11 [a0, a1] H fun t40 H =>
        wCall E P 12 [t40, a1] H fun t42 H =>
        R t42 H)))

/-- slices.Contains[[]string,string] -/
def slices_Contains_Lstring_string (E : Env) (P : Program) (a0 a1 : AV) (H : AH) (R : Kt) : Prop :=
  wCall E P 13 [a0, a1] H fun t7 H =>
  wGet (binA .geq t7 (.val (.int .i64 0))) H fun t8 H =>
  R t8 H

/-- strings.trimLeftByte -/
def strings_trimLeftByte (E : Env) (P : Program) (a0 a1 : AV) (H : AH) (R : Kt) : Prop :=
  wLoop 1 (fun I1 => I1 a0 H) fun I1 t0 H =>
    wGet (lenS t0) H fun t6 H =>
    wGet (binA .gtr t6 (.val (.int .i64 0))) H fun t7 H =>
    wGuard t7 true H (fun k => k t0 H) fun t9 H =>
    wGuard t7 true H (fun k => wGet (idxStr t9 (.val (.int .i64 0))) H k) fun t10 H =>
    wGuard t7 true H (fun k => k a1 H) fun t11 H =>
    wGuard t7 true H (fun k => wGet (binA .eql t10 t11) H k) fun t12 H =>
    wGet (pickA t7 t12 (.val (.bool false))) H fun t13 H =>
    wIf t13 (
      wGet (sliceS t0 (some (.val (.int .i64 1))) none) H fun t15 H =>
      I1 t15 H) (
      R t0 H)

/-- strings.trimRightByte -/
def strings_trimRightByte (E : Env) (P : Program) (a0 a1 : AV) (H : AH) (R : Kt) : Prop :=
  wLoop 1 (fun I1 => I1 a0 H) fun I1 t0 H =>
    wGet (lenS t0) H fun t6 H =>
    wGet (binA .gtr t6 (.val (.int .i64 0))) H fun t7 H =>
    wGuard t7 true H (fun k => k t0 H) fun t9 H =>
    wGuard t7 true H (fun k => k t0 H) fun t10 H =>
    wGuard t7 true H (fun k => wGet (lenS t10) H k) fun t11 H =>
    wGuard t7 true H (fun k => wGet (binA .sub t11 (.val (.int .i64 1))) H k) fun t12 H =>
    wGuard t7 true H (fun k => wGet (idxStr t9 t12) H k) fun t13 H =>
    wGuard t7 true H (fun k => k a1 H) fun t14 H =>
    wGuard t7 true H (fun k => wGet (binA .eql t13 t14) H k) fun t15 H =>
    wGet (pickA t7 t15 (.val (.bool false))) H fun t16 H =>
    wIf t16 (
      wGet (lenS t0) H fun t19 H =>
      wGet (binA .sub t19 (.val (.int .i64 1))) H fun t20 H =>
      wGet (sliceS t0 none (some t20)) H fun t21 H =>
      I1 t21 H) (
      R t0 H)

/-- strings.makeASCIISet -/
def strings_makeASCIISet (E : Env) (P : Program) (a0 : AV) (H : AH) (R : Kt) : Prop :=
  wNew 256 (some (List.replicate 256 (.val (.bool false)))) H fun t2 H =>
  wLoop 1 (fun I1 => I1 (.val (.int .i64 0)) H) fun I1 t4 H =>
    wGet (lenS a0) H fun t8 H =>
    wGet (binA .lss t4 t8) H fun t9 H =>
    wIf t9 (
      wGet (idxStr a0 t4) H fun t14 H =>
      wGet (binA .geq t14 (.val (.int .u8 128))) H fun t16 H =>
      wIf t16 (
        wGet (loadN 256 t2 H) H fun t17 H =>
        wPut (storeN 256 t2 t17 H) fun _u H =>
        wGet (retPack [loadN 256 t2 H, some (.val (.bool false))]) H R) (
        wGet (iaddrArr 1 256 t2 t14) H fun t19 H =>
        wPut (store1 t19 (.val (.bool true)) H) fun _u H =>
        wGet (binA .add t4 (.val (.int .i64 1))) H fun t11 H =>
        I1 t11 H)) (
      wGet (loadN 256 t2 H) H fun t20 H =>
      wPut (storeN 256 t2 t20 H) fun _u H =>
      wGet (retPack [loadN 256 t2 H, some (.val (.bool true))]) H R)

/-- strings.trimLeftASCII -/
def strings_trimLeftASCII (E : Env) (P : Program) (a0 a1 : AV) (H : AH) (R : Kt) : Prop :=
  wJoin 1 (fun J1 =>
    wLoop 1 (fun I2 => I2 a0 H) fun I2 t0 H =>
      wGet (lenS t0) H fun t6 H =>
      wGet (binA .gtr t6 (.val (.int .i64 0))) H fun t7 H =>
      wIf t7 (
        wGet (idxStr t0 (.val (.int .i64 0))) H fun t10 H =>
        wCall E P 14 [a1, t10] H fun t11 H =>
        wGet (unA .not t11) H fun t12 H =>
        wIf t12 (
          J1 t0 H) (
          wGet (sliceS t0 (some (.val (.int .i64 1))) none) H fun t14 H =>
          I2 t14 H)) (
        J1 t0 H)) fun t0_1 H =>
    R t0_1 H

/-- strings.trimRightASCII -/
def strings_trimRightASCII (E : Env) (P : Program) (a0 a1 : AV) (H : AH) (R : Kt) : Prop :=
  wJoin 1 (fun J1 =>
    wLoop 1 (fun I2 => I2 a0 H) fun I2 t0 H =>
      wGet (lenS t0) H fun t6 H =>
      wGet (binA .gtr t6 (.val (.int .i64 0))) H fun t7 H =>
      wIf t7 (
        wGet (lenS t0) H fun t11 H =>
        wGet (binA .sub t11 (.val (.int .i64 1))) H fun t12 H =>
        wGet (idxStr t0 t12) H fun t13 H =>
        wCall E P 14 [a1, t13] H fun t14 H =>
        wGet (unA .not t14) H fun t15 H =>
        wIf t15 (
          J1 t0 H) (
          wGet (lenS t0) H fun t18 H =>
          wGet (binA .sub t18 (.val (.int .i64 1))) H fun t19 H =>
          wGet (sliceS t0 none (some t19)) H fun t20 H =>
          I2 t20 H)) (
        J1 t0 H)) fun t0_1 H =>
    R t0_1 H

/-- slices.Index[[]string,string] -/
def slices_Index_Lstring_string (E : Env) (P : Program) (a0 a1 : AV) (H : AH) (R : Kt) : Prop :=
  wGet (lenA a0) H fun t7 H =>
  wLoop 1 (fun I1 => I1 (.val (.int .i64 0)) H) fun I1 t8 H =>
    wGet (binA .lss t8 t7) H fun t9 H =>
    wIf t9 (
      wGet (iaddr 1 a0 t8) H fun t14 H =>
      wGet (load1 t14 H) H fun t15 H =>
      wGet (binA .eql a1 t15) H fun t16 H =>
      wIf t16 (
        R t8 H) (
        wGet (binA .add t8 (.val (.int .i64 1))) H fun t18 H =>
        I1 t18 H)) (
      R (.val (.int .i64 (-1))) H)

/-- (*strings.asciiSet).contains -/
def pstrings_asciiSet_contains (E : Env) (P : Program) (a0 a1 : AV) (H : AH) (R : Kt) : Prop :=
  wGet (nilA a0) H fun t7 H =>
  wGet (iaddrArr 1 256 t7 a1) H fun t8 H =>
  wGet (load1 t8 H) H fun t9 H =>
  R t9 H

/-- strings.ContainsRune -/
def strings_ContainsRune (E : Env) (P : Program) (a0 a1 : AV) (H : AH) (R : Kt) : Prop :=
  wCall E P 19 [a0, a1] H fun t7 H =>
  wGet (binA .geq t7 (.val (.int .i64 0))) H fun t8 H =>
  R t8 H

/-- strings.IndexByte -/
def strings_IndexByte (E : Env) (P : Program) (a0 a1 : AV) (H : AH) (R : Kt) : Prop :=
  wCall E P 23 [a0, a1] H fun t7 H =>
  R t7 H

/-- unicode/utf8.ValidRune -/
def unicode_utf8_ValidRune (E : Env) (P : Program) (a0 : AV) (H : AH) (R : Kt) : Prop :=
  wGet (binA .leq (.val (.int .i32 0)) a0) H fun t5 H =>
  wGuard t5 true H (fun k => k a0 H) fun t7 H =>
  wGuard t5 true H (fun k => wGet (binA .lss t7 (.val (.int .i32 55296))) H k) fun t8 H =>
  wGet (pickA t5 t8 (.val (.bool false))) H fun t9 H =>
  wIf t9 (
    R (.val (.bool true)) H) (
    wGet (binA .lss (.val (.int .i32 57343)) a0) H fun t12 H =>
    wGuard t12 true H (fun k => k a0 H) fun t14 H =>
    wGuard t12 true H (fun k => wGet (binA .leq t14 (.val (.int .i32 1114111))) H k) fun t15 H =>
    wGet (pickA t12 t15 (.val (.bool false))) H fun t16 H =>
    wIf t16 (
      R (.val (.bool true)) H) (
      R (.val (.bool false)) H))

end Go.Sc.F
namespace Go.Sc
open Go
set_option linter.unusedSimpArgs false
set_option linter.unusedVariables false
section
variable {E : Env} {P : Program}
theorem IndexS_spec (hB : Body2 E P 13 F.slices_Index_Lstring_string) (l : List Str) (s : Str) (hl : l.length < 1099511627776) : FX E P 13 [Lm S l, S s] (Z (idx l s)) := by
  refine FX.of' ⟨closed_S l, trivial, trivial⟩ trivial fun n R hR => hB _ _ _ _ ?_
  unfold F.slices_Index_Lstring_string
  simp only [nd0, Y1n, Y1o, Y1p, Y1q, Y1w, Y1x, Y1y, Y1z, Y20, Y21, Y28, Y2a, AV.cells?, Nat.reduceAdd, Nat.reduceMul]
  refine wLoop.one (fun m t H => ∃ pre rest, l = pre ++ rest ∧ m = rest.length ∧ t = Z pre.length ∧ s ∉ pre) l.length (gh1.mk ⟨[], l, rfl, rfl, rfl, by simp⟩) ?_
  rintro m t H ⟨pre, rest, rfl, rfl, rfl, hs⟩
  simp only [nd0, Y1n, Y1o, Y1p, Y1q, Y1w, Y1x, Y1y, Y1z, Y20, Y21, Y28, Y2a, AV.cells?, Nat.reduceAdd, Nat.reduceMul]
  cases rest with
  | nil =>
    simp only [nd0, Y1n, Y1o, Y1p, Y1q, Y1w, Y1x, Y1y, Y1z, Y20, Y21, Y28, Y2a, AV.cells?, Nat.reduceAdd, Nat.reduceMul, List.append_nil, Int.lt_irrefl]
    exact hR _ _ (by rw [idx, if_neg (by simpa using hs)])
  | cons x rest =>
    have h1 : ((pre.length : Int) < ((pre ++ x :: rest).length : Int)) := by simp; omega
    simp only [nd0, Y1n, Y1o, Y1p, Y1q, Y1w, Y1x, Y1y, Y1z, Y20, Y21, Y28, Y2a, AV.cells?, Nat.reduceAdd, Nat.reduceMul, h1]
    rw [iaddr_Nn (by simp)]
    simp only [nd0, Y1n, Y1o, Y1p, Y1q, Y1w, Y1x, Y1y, Y1z, Y20, Y21, Y28, Y2a, AV.cells?, Nat.reduceAdd, Nat.reduceMul, at_mid]
    by_cases hx : s = x
    · subst hx
      simp only [nd0, Y1n, Y1o, Y1p, Y1q, Y1w, Y1x, Y1y, Y1z, Y20, Y21, Y28, Y2a, AV.cells?, Nat.reduceAdd, Nat.reduceMul]
      exact hR _ _ (by rw [idx_app hs])
    · have : ¬ (s = x) := hx
      simp only [nd0, Y1n, Y1o, Y1p, Y1q, Y1w, Y1x, Y1y, Y1z, Y20, Y21, Y28, Y2a, AV.cells?, Nat.reduceAdd, Nat.reduceMul, this]
      rw [binA_succ (by simp at hl; omega)]
      simp only [nd0, Y1n, Y1o, Y1p, Y1q, Y1w, Y1x, Y1y, Y1z, Y20, Y21, Y28, Y2a, AV.cells?, Nat.reduceAdd, Nat.reduceMul]
      exact back1.mk rest.length (by simp) ⟨pre ++ [x], rest, by simp, rfl, by simp, by simp [hs, hx]⟩
theorem ContainsS_spec (hI : ∀ (l : List Str) s, l.length < 1099511627776 → FX E P 13 [Lm S l, S s] (Z (idx l s))) (hB : Body2 E P 5 F.slices_Contains_Lstring_string) (l : List Str) (s : Str) (hl : l.length < 1099511627776) : FX E P 5 [Lm S l, S s] (Bo (decide (s ∈ l))) := by
  refine FX.of' ⟨closed_S l, trivial, trivial⟩ trivial fun n R hR => hB _ _ _ _ ?_
  unfold F.slices_Contains_Lstring_string
  refine wCall.fx (hI l s hl) fun n => ?_
  simp only [nd0, Y1n, Y1o, Y1p, Y1q, Y1w, Y1x, Y1y, Y1z, Y20, Y21, Y28, Y2a, AV.cells?, Nat.reduceAdd, Nat.reduceMul]
  refine hR _ _ ?_
  have : decide ((0 : Int) ≤ idx l s) = decide (s ∈ l) := decide_eq_decide.2 (by rw [← Int.not_lt, idx_neg, Classical.not_not])
  rw [this]

/-! ### Trim -/
/-- without the letters of 'p' at its end -/
def trimR (p : UInt8 → Bool) (s : Str) : Str := (s.reverse.dropWhile p).reverse
def trimL (p : UInt8 → Bool) (s : Str) : Str := s.dropWhile p
theorem trimR_snoc {p : UInt8 → Bool} {s : Str} {c : UInt8} : trimR p (s ++ [c]) = if p c then trimR p s else s ++ [c] := by
  simp only [trimR, List.reverse_append, List.reverse_cons, List.reverse_nil, List.nil_append, List.singleton_append, List.dropWhile_cons]
  split <;> simp
theorem snoc_of {s : Str} (h : s ≠ []) : ∃ t c, s = t ++ [c] := ⟨s.dropLast, s.getLast h, (List.dropLast_concat_getLast h).symm⟩
theorem idxS_last {t : Str} {c : UInt8} : idxStr (S (t ++ [c])) (Z t.length) = some (By c) := by
  rw [idxS (by simp)]; simp
theorem idxS_zero {s : Str} {c : UInt8} : idxStr (S (c :: s)) (Z 0) = some (By c) := by
  have := idxS (s := c :: s) (i := 0) (by simp)
  simpa using this
theorem sliceS_tail {s : Str} {c : UInt8} : sliceS (S (c :: s)) (some (Z 1)) none = some (S s) := by
  rw [sliceS_S (l := 1) (h := (c :: s).length) rfl rfl (by omega) (by simp; omega) (by simp)]
  have : ((c :: s).take ((c :: s).length : Int).toNat) = c :: s := by rw [Int.toNat_natCast, List.take_length]
  rw [this]; simp
theorem sliceS_init {s : Str} {c : UInt8} : sliceS (S (s ++ [c])) none (some (Z s.length)) = some (S s) := by
  rw [sliceS_S (l := 0) (h := s.length) rfl rfl (by omega) (by omega) (by simp; omega)]
  simp
theorem by_eq {a b : UInt8} : decide (((a.toNat : Nat) : Int) = ((b.toNat : Nat) : Int)) = decide (a = b) := decide_eq_decide.2 ⟨fun h => UInt8.toNat_inj.1 (by omega), fun h => by rw [h]⟩

theorem trimLB_spec (hB : Body2 E P 7 F.strings_trimLeftByte) (s : Str) (c : UInt8) : FX E P 7 [S s, By c] (S (trimL (· = c) s)) := by
  refine FX.of' (by simp [AV.closed, AV.closedL]) trivial fun n R hR => hB _ _ _ _ ?_
  unfold F.strings_trimLeftByte
  refine wLoop.one (fun m t H => ∃ r, t = S r ∧ m = r.length ∧ trimL (· = c) r = trimL (· = c) s) s.length (gh1.mk ⟨s, rfl, rfl, rfl⟩) ?_
  rintro m t H ⟨r, rfl, rfl, hr⟩
  simp only [nd0, Y1n, Y1o, Y1p, Y1q, Y1w, Y1x, Y1y, Y1z, Y20, Y21, Y28, Y2a, AV.cells?, Nat.reduceAdd, Nat.reduceMul]
  cases r with
  | nil =>
    simp only [nd0, Y1n, Y1o, Y1p, Y1q, Y1w, Y1x, Y1y, Y1z, Y20, Y21, Y28, Y2a, AV.cells?, Nat.reduceAdd, Nat.reduceMul, show ¬ ((0 : Int) < ((0 : Nat) : Int)) by simp]
    exact hR _ _ (by rw [← hr]; rfl)
  | cons d r =>
    have h1 : ((0 : Int) < ((r.length + 1 : Nat) : Int)) := by omega
    simp only [nd0, Y1n, Y1o, Y1p, Y1q, Y1w, Y1x, Y1y, Y1z, Y20, Y21, Y28, Y2a, AV.cells?, Nat.reduceAdd, Nat.reduceMul, h1]
    rw [idxS_zero]
    simp only [nd0, Y1n, Y1o, Y1p, Y1q, Y1w, Y1x, Y1y, Y1z, Y20, Y21, Y28, Y2a, AV.cells?, Nat.reduceAdd, Nat.reduceMul, by_eq]
    by_cases hd : d = c
    · subst hd
      simp only [nd0, Y1n, Y1o, Y1p, Y1q, Y1w, Y1x, Y1y, Y1z, Y20, Y21, Y28, Y2a, AV.cells?, Nat.reduceAdd, Nat.reduceMul]
      rw [sliceS_tail]
      simp only [nd0, Y1n, Y1o, Y1p, Y1q, Y1w, Y1x, Y1y, Y1z, Y20, Y21, Y28, Y2a, AV.cells?, Nat.reduceAdd, Nat.reduceMul]
      exact back1.mk r.length (by simp) ⟨r, rfl, rfl, by rw [← hr]; simp [trimL]⟩
    · simp only [nd0, Y1n, Y1o, Y1p, Y1q, Y1w, Y1x, Y1y, Y1z, Y20, Y21, Y28, Y2a, AV.cells?, Nat.reduceAdd, Nat.reduceMul, hd]
      exact hR _ _ (by rw [← hr]; simp [trimL, hd])
theorem trimRB_spec (hB : Body2 E P 6 F.strings_trimRightByte) (s : Str) (c : UInt8) (hs : s.length < 1099511627776) : FX E P 6 [S s, By c] (S (trimR (· = c) s)) := by
  refine FX.of' (by simp [AV.closed, AV.closedL]) trivial fun n R hR => hB _ _ _ _ ?_
  unfold F.strings_trimRightByte
  refine wLoop.one (fun m t H => ∃ r, t = S r ∧ m = r.length ∧ r.length ≤ s.length ∧ trimR (· = c) r = trimR (· = c) s) s.length (gh1.mk ⟨s, rfl, rfl, Nat.le_refl _, rfl⟩) ?_
  rintro m t H ⟨r, rfl, rfl, hle, hr⟩
  simp only [nd0, Y1n, Y1o, Y1p, Y1q, Y1w, Y1x, Y1y, Y1z, Y20, Y21, Y28, Y2a, AV.cells?, Nat.reduceAdd, Nat.reduceMul]
  by_cases h0 : r = []
  · subst h0
    simp only [nd0, Y1n, Y1o, Y1p, Y1q, Y1w, Y1x, Y1y, Y1z, Y20, Y21, Y28, Y2a, AV.cells?, Nat.reduceAdd, Nat.reduceMul, show ¬ ((0 : Int) < ((0 : Nat) : Int)) by simp]
    exact hR _ _ (by rw [← hr]; rfl)
  · obtain ⟨t, d, rfl⟩ := snoc_of h0
    simp only [List.length_append, List.length_singleton] at hle
    have h1 : ((0 : Int) < ((t.length + 1 : Nat) : Int)) := by omega
    have h2 : ((t.length + 1 : Nat) : Int) - 1 = (t.length : Int) := by omega
    simp only [nd0, Y1n, Y1o, Y1p, Y1q, Y1w, Y1x, Y1y, Y1z, Y20, Y21, Y28, Y2a, AV.cells?, Nat.reduceAdd, Nat.reduceMul, len_snoc, h1]
    rw [binA_sub (by omega), h2]
    simp only [nd0, Y1n, Y1o, Y1p, Y1q, Y1w, Y1x, Y1y, Y1z, Y20, Y21, Y28, Y2a, AV.cells?, Nat.reduceAdd, Nat.reduceMul]
    rw [idxS_last]
    simp only [nd0, Y1n, Y1o, Y1p, Y1q, Y1w, Y1x, Y1y, Y1z, Y20, Y21, Y28, Y2a, AV.cells?, Nat.reduceAdd, Nat.reduceMul, by_eq]
    by_cases hd : d = c
    · subst hd
      simp only [nd0, Y1n, Y1o, Y1p, Y1q, Y1w, Y1x, Y1y, Y1z, Y20, Y21, Y28, Y2a, AV.cells?, Nat.reduceAdd, Nat.reduceMul]
      rw [sliceS_init]
      simp only [nd0, Y1n, Y1o, Y1p, Y1q, Y1w, Y1x, Y1y, Y1z, Y20, Y21, Y28, Y2a, AV.cells?, Nat.reduceAdd, Nat.reduceMul]
      exact back1.mk t.length (by simp) ⟨t, rfl, rfl, by omega, by rw [← hr, trimR_snoc]; simp⟩
    · simp only [nd0, Y1n, Y1o, Y1p, Y1q, Y1w, Y1x, Y1y, Y1z, Y20, Y21, Y28, Y2a, AV.cells?, Nat.reduceAdd, Nat.reduceMul, hd]
      exact hR _ _ (by rw [← hr, trimR_snoc]; simp [hd])

/-- cells of a set of letters -/
def tbl (p : UInt8 → Bool) : List AV := (List.range 256).map fun i => Bo (p (UInt8.ofNat i))
theorem tbl_len (p : UInt8 → Bool) : (tbl p).length = 256 := by simp [tbl]
theorem tbl_get (p : UInt8 → Bool) (c : UInt8) : (tbl p)[c.toNat]? = some (Bo (p c)) := by
  have := c.toNat_lt
  simp only [tbl, List.getElem?_map]
  rw [List.getElem?_range (by omega)]
  simp
theorem tbl_none : tbl (fun _ => false) = List.replicate 256 (Bo false) := by
  unfold tbl
  rw [List.map_const']
  simp
theorem tbl_set (p : UInt8 → Bool) (c : UInt8) : (tbl p).set c.toNat (Bo true) = tbl (fun d => p d || decide (d = c)) := by
  apply List.ext_getElem?
  intro i
  have hc := c.toNat_lt
  rw [List.getElem?_set]
  by_cases hi : i < 256
  · have h1 : (UInt8.ofNat i).toNat = i := by simp; omega
    by_cases h : c.toNat = i
    · subst h
      rw [if_pos rfl, if_pos (by rw [tbl_len]; omega), tbl_get]; simp
    · rw [if_neg h]
      have h2 : ¬ UInt8.ofNat i = c := fun e => h (by rw [← e, h1])
      have g1 := tbl_get p (UInt8.ofNat i)
      have g2 := tbl_get (fun d => p d || decide (d = c)) (UInt8.ofNat i)
      rw [h1] at g1 g2
      rw [g1, g2]; simp [h2]
  · have : ¬ c.toNat = i := by omega
    rw [if_neg this, List.getElem?_eq_none (by rw [tbl_len]; omega), List.getElem?_eq_none (by rw [tbl_len]; omega)]
theorem tbl_scalar (p : UInt8 → Bool) : (tbl p).all AV.scalar = true := by
  rw [List.all_eq_true]
  intro x hx
  obtain ⟨i, _, rfl⟩ := List.mem_map.1 hx
  rfl
theorem tbl_closed (p : UInt8 → Bool) : AV.closedL (tbl p) := closed_map (f := fun i => Bo (p (UInt8.ofNat i))) (fun _ => by trivial) _
theorem sub_all {cs : List AV} {n : Nat} (h : cs.length = n) : subL cs 0 n = some cs := by
  subst h; simp [subL]
theorem put_all {cs xs : List AV} (h : xs.length = cs.length) : putL cs 0 xs = some xs := by
  simp [putL, h]

theorem asciiHas_spec (hB : Body2 E P 14 F.pstrings_asciiSet_contains) (p : UInt8 → Bool) (c : UInt8) : FX E P 14 [.ptrF (tbl p) 0, By c] (Bo (p c)) := by
  refine FX.of' ⟨by simpa [AV.closed] using tbl_closed p, trivial, trivial⟩ trivial fun n R hR => hB _ _ _ _ ?_
  unfold F.pstrings_asciiSet_contains
  have := c.toNat_lt
  simp only [nd0, Y1n, Y1o, Y1p, Y1q, Y1w, Y1x, Y1y, Y1z, Y20, Y21, Y28, Y2a, AV.cells?, Nat.reduceAdd, Nat.reduceMul]
  rw [iaddrArr_F (by omega)]
  simp only [nd0, Y1n, Y1o, Y1p, Y1q, Y1w, Y1x, Y1y, Y1z, Y20, Y21, Y28, Y2a, AV.cells?, Nat.reduceAdd, Nat.reduceMul, tbl_get]
  exact hR _ _ rfl
/-- letters of one byte -/
def ascii (s : Str) : Prop := ∀ c ∈ s, c < 128
theorem makeSet_spec (hB : Body1 E P 8 F.strings_makeASCIISet) (s : Str) (hs : ascii s) (hl : s.length < 1099511627776) : FX E P 8 [S s] (.tup [.agg (tbl fun c => decide (c ∈ s)), Bo true]) := by
  refine FX.of' (by simp [AV.closed, AV.closedL]) (by simp [AV.closed, AV.closedL]; exact tbl_closed _) fun n R hR => hB _ _ _ ?_
  unfold F.strings_makeASCIISet
  rw [← tbl_none]
  refine wNew.L rfl ?_
  refine wLoop.one (fun m t H => ∃ pre rest, s = pre ++ rest ∧ t = Z pre.length ∧ m = rest.length ∧ H = ⟨[.cells n 256 (tbl fun c => decide (c ∈ pre))], n + 1⟩) s.length (gh1.mk ⟨[], s, rfl, rfl, rfl, by simp⟩) ?_
  rintro m t H ⟨pre, rest, rfl, rfl, rfl, rfl⟩
  simp only [nd0, Y1n, Y1o, Y1p, Y1q, Y1w, Y1x, Y1y, Y1z, Y20, Y21, Y28, Y2a, AV.cells?, Nat.reduceAdd, Nat.reduceMul]
  cases rest with
  | nil =>
    simp only [nd0, Y1n, Y1o, Y1p, Y1q, Y1w, Y1x, Y1y, Y1z, Y20, Y21, Y28, Y2a, AV.cells?, Nat.reduceAdd, Nat.reduceMul, List.append_nil, Int.lt_irrefl]
    rw [sub_all (tbl_len _)]
    simp only [nd0, Y1n, Y1o, Y1p, Y1q, Y1w, Y1x, Y1y, Y1z, Y20, Y21, Y28, Y2a, AV.cells?, Nat.reduceAdd, Nat.reduceMul]
    rw [storeN_L (tbl_len _) (tbl_scalar _)]
    simp only [nd0, Y1n, Y1o, Y1p, Y1q, Y1w, Y1x, Y1y, Y1z, Y20, Y21, Y28, Y2a, AV.cells?, Nat.reduceAdd, Nat.reduceMul]
    rw [put_all rfl]
    simp only [nd0, Y1n, Y1o, Y1p, Y1q, Y1w, Y1x, Y1y, Y1z, Y20, Y21, Y28, Y2a, AV.cells?, Nat.reduceAdd, Nat.reduceMul]
    rw [sub_all (tbl_len _)]
    simp only [nd0, Y1n, Y1o, Y1p, Y1q, Y1w, Y1x, Y1y, Y1z, Y20, Y21, Y28, Y2a, AV.cells?, Nat.reduceAdd, Nat.reduceMul, retPack, allSome]
    exact hR _ _ (by simp)
  | cons c rest =>
    have h1 : ((pre.length : Int) < ((pre ++ c :: rest).length : Int)) := by simp; omega
    simp only [nd0, Y1n, Y1o, Y1p, Y1q, Y1w, Y1x, Y1y, Y1z, Y20, Y21, Y28, Y2a, AV.cells?, Nat.reduceAdd, Nat.reduceMul, h1]
    rw [idxS (by simp)]
    have hc : c < 128 := hs c (by simp)
    have hc2 : ¬ ((128 : Int) ≤ (c.toNat : Int)) := by
      have : c.toNat < 128 := hc
      omega
    have hc3 := c.toNat_lt
    have hg : (pre ++ c :: rest)[pre.length]'(by simp) = c := by simp
    simp only [nd0, Y1n, Y1o, Y1p, Y1q, Y1w, Y1x, Y1y, Y1z, Y20, Y21, Y28, Y2a, AV.cells?, Nat.reduceAdd, Nat.reduceMul, hg, hc2]
    rw [iaddrArr_L (by omega)]
    simp only [nd0, Y1n, Y1o, Y1p, Y1q, Y1w, Y1x, Y1y, Y1z, Y20, Y21, Y28, Y2a, AV.cells?, Nat.reduceAdd, Nat.reduceMul]
    rw [store1_L rfl]
    simp only [nd0, Y1n, Y1o, Y1p, Y1q, Y1w, Y1x, Y1y, Y1z, Y20, Y21, Y28, Y2a, AV.cells?, Nat.reduceAdd, Nat.reduceMul, tbl_len]
    rw [if_pos (by omega), tbl_set]
    simp only [nd0, Y1n, Y1o, Y1p, Y1q, Y1w, Y1x, Y1y, Y1z, Y20, Y21, Y28, Y2a, AV.cells?, Nat.reduceAdd, Nat.reduceMul]
    rw [binA_succ (by simp at hl; omega)]
    simp only [nd0, Y1n, Y1o, Y1p, Y1q, Y1w, Y1x, Y1y, Y1z, Y20, Y21, Y28, Y2a, AV.cells?, Nat.reduceAdd, Nat.reduceMul]
    refine back1.mk rest.length (by simp) ⟨pre ++ [c], rest, by simp, by simp, rfl, ?_⟩
    simp

theorem trimLA_spec (hB : Body2 E P 10 F.strings_trimLeftASCII) (hc : ∀ p c, FX E P 14 [.ptrF (tbl p) 0, By c] (Bo (p c))) (s : Str) (p : UInt8 → Bool) : FX E P 10 [S s, .ptrF (tbl p) 0] (S (trimL p s)) := by
  refine FX.of' ⟨trivial, by simpa [AV.closed] using tbl_closed p, trivial⟩ trivial fun n R hR => hB _ _ _ _ ?_
  unfold F.strings_trimLeftASCII
  refine wJoin.one (fun t H => t = S (trimL p s)) ?_ (fun t H h => hR _ _ h)
  refine wLoop.one (fun m t H => ∃ r, t = S r ∧ m = r.length ∧ trimL p r = trimL p s) s.length (gh1.mk ⟨s, rfl, rfl, rfl⟩) ?_
  rintro m t H ⟨r, rfl, rfl, hr⟩
  simp only [nd0, Y1n, Y1o, Y1p, Y1q, Y1w, Y1x, Y1y, Y1z, Y20, Y21, Y28, Y2a, AV.cells?, Nat.reduceAdd, Nat.reduceMul]
  cases r with
  | nil =>
    simp only [nd0, Y1n, Y1o, Y1p, Y1q, Y1w, Y1x, Y1y, Y1z, Y20, Y21, Y28, Y2a, AV.cells?, Nat.reduceAdd, Nat.reduceMul, show ¬ ((0 : Int) < ((0 : Nat) : Int)) by simp]
    exact gh1.mk (by rw [← hr]; rfl)
  | cons d r =>
    have h1 : ((0 : Int) < ((r.length + 1 : Nat) : Int)) := by omega
    simp only [nd0, Y1n, Y1o, Y1p, Y1q, Y1w, Y1x, Y1y, Y1z, Y20, Y21, Y28, Y2a, AV.cells?, Nat.reduceAdd, Nat.reduceMul, h1]
    rw [idxS_zero]
    simp only [nd0, Y1n, Y1o, Y1p, Y1q, Y1w, Y1x, Y1y, Y1z, Y20, Y21, Y28, Y2a, AV.cells?, Nat.reduceAdd, Nat.reduceMul]
    refine wCall.fx (hc p d) fun n => ?_
    by_cases hd : p d = true
    · simp only [nd0, Y1n, Y1o, Y1p, Y1q, Y1w, Y1x, Y1y, Y1z, Y20, Y21, Y28, Y2a, AV.cells?, Nat.reduceAdd, Nat.reduceMul, hd]
      rw [sliceS_tail]
      simp only [nd0, Y1n, Y1o, Y1p, Y1q, Y1w, Y1x, Y1y, Y1z, Y20, Y21, Y28, Y2a, AV.cells?, Nat.reduceAdd, Nat.reduceMul]
      exact back1.mk r.length (by simp) ⟨r, rfl, rfl, by rw [← hr]; simp [trimL, hd]⟩
    · simp only [nd0, Y1n, Y1o, Y1p, Y1q, Y1w, Y1x, Y1y, Y1z, Y20, Y21, Y28, Y2a, AV.cells?, Nat.reduceAdd, Nat.reduceMul, hd]
      exact gh1.mk (by rw [← hr]; simp [trimL, hd])
theorem trimRA_spec (hB : Body2 E P 9 F.strings_trimRightASCII) (hc : ∀ p c, FX E P 14 [.ptrF (tbl p) 0, By c] (Bo (p c))) (s : Str) (p : UInt8 → Bool) (hs : s.length < 1099511627776) : FX E P 9 [S s, .ptrF (tbl p) 0] (S (trimR p s)) := by
  refine FX.of' ⟨trivial, by simpa [AV.closed] using tbl_closed p, trivial⟩ trivial fun n R hR => hB _ _ _ _ ?_
  unfold F.strings_trimRightASCII
  refine wJoin.one (fun t H => t = S (trimR p s)) ?_ (fun t H h => hR _ _ h)
  refine wLoop.one (fun m t H => ∃ r, t = S r ∧ m = r.length ∧ r.length ≤ s.length ∧ trimR p r = trimR p s) s.length (gh1.mk ⟨s, rfl, rfl, Nat.le_refl _, rfl⟩) ?_
  rintro m t H ⟨r, rfl, rfl, hle, hr⟩
  simp only [nd0, Y1n, Y1o, Y1p, Y1q, Y1w, Y1x, Y1y, Y1z, Y20, Y21, Y28, Y2a, AV.cells?, Nat.reduceAdd, Nat.reduceMul]
  by_cases h0 : r = []
  · subst h0
    simp only [nd0, Y1n, Y1o, Y1p, Y1q, Y1w, Y1x, Y1y, Y1z, Y20, Y21, Y28, Y2a, AV.cells?, Nat.reduceAdd, Nat.reduceMul, show ¬ ((0 : Int) < ((0 : Nat) : Int)) by simp]
    exact gh1.mk (by rw [← hr]; rfl)
  · obtain ⟨t, d, rfl⟩ := snoc_of h0
    simp only [List.length_append, List.length_singleton] at hle
    have h1 : ((0 : Int) < ((t.length + 1 : Nat) : Int)) := by omega
    have h2 : ((t.length + 1 : Nat) : Int) - 1 = (t.length : Int) := by omega
    simp only [nd0, Y1n, Y1o, Y1p, Y1q, Y1w, Y1x, Y1y, Y1z, Y20, Y21, Y28, Y2a, AV.cells?, Nat.reduceAdd, Nat.reduceMul, len_snoc, h1]
    rw [binA_sub (by omega), h2]
    simp only [nd0, Y1n, Y1o, Y1p, Y1q, Y1w, Y1x, Y1y, Y1z, Y20, Y21, Y28, Y2a, AV.cells?, Nat.reduceAdd, Nat.reduceMul]
    rw [idxS_last]
    simp only [nd0, Y1n, Y1o, Y1p, Y1q, Y1w, Y1x, Y1y, Y1z, Y20, Y21, Y28, Y2a, AV.cells?, Nat.reduceAdd, Nat.reduceMul]
    refine wCall.fx (hc p d) fun n => ?_
    by_cases hd : p d = true
    · simp only [nd0, Y1n, Y1o, Y1p, Y1q, Y1w, Y1x, Y1y, Y1z, Y20, Y21, Y28, Y2a, AV.cells?, Nat.reduceAdd, Nat.reduceMul, hd]
      rw [sliceS_init]
      simp only [nd0, Y1n, Y1o, Y1p, Y1q, Y1w, Y1x, Y1y, Y1z, Y20, Y21, Y28, Y2a, AV.cells?, Nat.reduceAdd, Nat.reduceMul]
      exact back1.mk t.length (by simp) ⟨t, rfl, rfl, by omega, by rw [← hr, trimR_snoc]; simp [hd]⟩
    · simp only [nd0, Y1n, Y1o, Y1p, Y1q, Y1w, Y1x, Y1y, Y1z, Y20, Y21, Y28, Y2a, AV.cells?, Nat.reduceAdd, Nat.reduceMul, hd]
      exact gh1.mk (by rw [← hr, trimR_snoc]; simp [hd])
end
/-- what 'Trim' leaves -/
def trim (cut s : Str) : Str := trimL (fun c => decide (c ∈ cut)) (trimR (fun c => decide (c ∈ cut)) s)
section
variable {E : Env} {P : Program}
structure TrimBodies (E : Env) (P : Program) : Prop where
  trim : Body2 E P 4 F.strings_Trim
  rb : Body2 E P 6 F.strings_trimRightByte
  lb : Body2 E P 7 F.strings_trimLeftByte
  mkSet : Body1 E P 8 F.strings_makeASCIISet
  ra : Body2 E P 9 F.strings_trimRightASCII
  la : Body2 E P 10 F.strings_trimLeftASCII
  has : Body2 E P 14 F.pstrings_asciiSet_contains
theorem Trim_spec (B : TrimBodies E P) (s cut : Str) (hc : ascii cut) (hs : s.length < 1099511627776) (hl : cut.length < 1099511627776) : FX E P 4 [S s, S cut] (S (trim cut s)) := by
  refine FX.of' (by simp [AV.closed, AV.closedL]) trivial fun n R hR => B.trim _ _ _ _ ?_
  unfold F.strings_Trim
  by_cases h1 : s = []
  · subst h1
    simp only [nd0, Y1n, Y1o, Y1p, Y1q, Y1w, Y1x, Y1y, Y1z, Y20, Y21, Y28, Y2a, AV.cells?, Nat.reduceAdd, Nat.reduceMul, show (AV.val (.string ⟨#[]⟩)) = S [] from rfl]
    exact hR _ _ rfl
  by_cases h2 : cut = []
  · subst h2
    simp only [nd0, Y1n, Y1o, Y1p, Y1q, Y1w, Y1x, Y1y, Y1z, Y20, Y21, Y28, Y2a, AV.cells?, Nat.reduceAdd, Nat.reduceMul, show (AV.val (.string ⟨#[]⟩)) = S [] from rfl, h1]
    exact hR _ _ (by
      have : ∀ l : Str, List.dropWhile (fun _ => false) l = l := fun l => by cases l <;> rfl
      simp [trim, trimL, trimR, this])
  simp only [nd0, Y1n, Y1o, Y1p, Y1q, Y1w, Y1x, Y1y, Y1z, Y20, Y21, Y28, Y2a, AV.cells?, Nat.reduceAdd, Nat.reduceMul, show (AV.val (.string ⟨#[]⟩)) = S [] from rfl, h1, h2]
  by_cases h3 : cut.length = 1
  · obtain ⟨c, rfl⟩ := List.length_eq_one_iff.1 h3
    have hc' : c < 128 := hc c (by simp)
    have hc2 : ((c.toNat : Int) < 128) := by
      have : c.toNat < 128 := hc'
      omega
    simp only [nd0, Y1n, Y1o, Y1p, Y1q, Y1w, Y1x, Y1y, Y1z, Y20, Y21, Y28, Y2a, AV.cells?, Nat.reduceAdd, Nat.reduceMul, show (((0 + 1 : Nat) : Int) = 1) from rfl, show (((1 : Nat) : Int) = 1) from rfl]
    rw [idxS_zero]
    simp only [nd0, Y1n, Y1o, Y1p, Y1q, Y1w, Y1x, Y1y, Y1z, Y20, Y21, Y28, Y2a, AV.cells?, Nat.reduceAdd, Nat.reduceMul, hc2]
    refine wCall.fx (trimRB_spec B.rb s c hs) fun n => ?_
    refine wCall.fx (trimLB_spec B.lb _ c) fun n => ?_
    exact hR _ _ (by simp [trim])
  · have : ¬ ((cut.length : Int) = 1) := by omega
    simp only [nd0, Y1n, Y1o, Y1p, Y1q, Y1w, Y1x, Y1y, Y1z, Y20, Y21, Y28, Y2a, AV.cells?, Nat.reduceAdd, Nat.reduceMul, this]
    refine wCall.fx (makeSet_spec B.mkSet cut hc hl) fun n => ?_
    simp only [nd0, Y1n, Y1o, Y1p, Y1q, Y1w, Y1x, Y1y, Y1z, Y20, Y21, Y28, Y2a, AV.cells?, Nat.reduceAdd, Nat.reduceMul]
    refine wNew.L rfl ?_
    simp only [nd0, Y1n, Y1o, Y1p, Y1q, Y1w, Y1x, Y1y, Y1z, Y20, Y21, Y28, Y2a, AV.cells?, Nat.reduceAdd, Nat.reduceMul]
    rw [storeN_L (tbl_len _) (tbl_scalar _)]
    simp only [nd0, Y1n, Y1o, Y1p, Y1q, Y1w, Y1x, Y1y, Y1z, Y20, Y21, Y28, Y2a, AV.cells?, Nat.reduceAdd, Nat.reduceMul]
    rw [put_all (by rw [tbl_len, List.length_replicate])]
    simp only [nd0, Y1n, Y1o, Y1p, Y1q, Y1w, Y1x, Y1y, Y1z, Y20, Y21, Y28, Y2a, AV.cells?, Nat.reduceAdd, Nat.reduceMul]
    have hf : ∀ n m g : Nat, FkL ⟨[.cells g 256 (tbl fun c => decide (c ∈ cut))], m⟩ S0 [.ptrL 0 0 g] [.ptrF (tbl fun c => decide (c ∈ cut)) 0] := fun n m g =>
      .cons (.ptrF 256 rfl rfl (by rw [List.drop_zero, List.take_of_length_le (by rw [tbl_len]; omega)]; exact .same _)) .nil
    refine wCall.bo (trimRA_spec B.ra (asciiHas_spec B.has) s (fun c => decide (c ∈ cut)) hs) trivial (.cons (.same _) (hf 0 _ _)) fun n1 => ?_
    refine wCall.bo (trimLA_spec B.la (asciiHas_spec B.has) _ (fun c => decide (c ∈ cut))) trivial (.cons (.same _) (hf 0 _ _)) fun n1 => ?_
    exact hR _ _ rfl
end
end Go.Sc
namespace Go.Sc
open Go
set_option linter.unusedSimpArgs false
set_option linter.unusedVariables false
def low (c : UInt8) : Bool := decide ((97 : Int) ≤ c.toNat) && decide ((c.toNat : Int) ≤ 122)
def dig (c : UInt8) : Bool := decide ((48 : Int) ≤ c.toNat) && decide ((c.toNat : Int) ≤ 57)
def nch (c : UInt8) : Bool := low c || dig c || decide ((c.toNat : Int) = 95)
def letters : Str := [97, 98, 99, 100, 101, 102, 103, 104, 105, 106, 107, 108, 109, 110, 111, 112, 113, 114, 115, 116, 117, 118, 119, 120, 121, 122, 48, 49, 50, 51, 52, 53, 54, 55, 56, 57, 95]
def words9 : List Str := [[105, 110, 112, 117, 116], [99, 111, 105, 108], [116, 105, 109, 101, 114], [99, 111, 117, 110, 116, 101, 114], [115, 101, 116], [114, 101, 115, 101, 116], [114, 117, 110], [99, 111, 117, 110, 116], [122, 101, 114, 111]]
/-- may a text be a name? -/
def nameOk : Str → Bool
  | [] => false
  | c :: r => low c && r.all nch && decide ((c :: r).length ≤ 8) && !decide ((c :: r) ∈ words9)

theorem mem_letters (c : UInt8) : decide (c ∈ letters) = nch c := by
  have : ∀ i : Fin 256, decide (UInt8.ofNat i.val ∈ letters) = nch (UInt8.ofNat i.val) := by decide +kernel
  have h := this ⟨c.toNat, c.toNat_lt⟩
  simpa using h
theorem dropWhile_nil {p : UInt8 → Bool} {s : Str} : s.dropWhile p = [] ↔ s.all p = true := by
  induction s with
  | nil => simp
  | cons c s ih =>
    simp only [List.dropWhile_cons, List.all_cons, Bool.and_eq_true]
    split
    · rename_i h; simp [h, ih]
    · rename_i h; simp [h]
theorem trim_nil {cut s : Str} : trim cut s = [] ↔ s.all (fun c => decide (c ∈ cut)) = true := by
  unfold trim trimL
  rw [dropWhile_nil]
  have : trimR (fun c => decide (c ∈ cut)) s = [] ∨ ∃ t c, trimR (fun c => decide (c ∈ cut)) s = t ++ [c] ∧ c ∉ cut ∧ c ∈ s := by
    unfold trimR
    cases h : s.reverse.dropWhile (fun c => decide (c ∈ cut)) with
    | nil => exact .inl rfl
    | cons c t =>
      refine .inr ⟨t.reverse, c, by simp, ?_, ?_⟩
      · have := List.head?_dropWhile_not (fun c => decide (c ∈ cut)) s.reverse
        rw [h] at this
        simpa using this
      · have := (List.dropWhile_sublist (fun c => decide (c ∈ cut)) (l := s.reverse)).subset (by rw [h]; exact List.mem_cons_self : c ∈ s.reverse.dropWhile _)
        simpa using this
  rcases this with h | ⟨t, c, h, hc, hs⟩
  · rw [h]
    simp only [List.all_nil, true_iff]
    have : s.reverse.dropWhile (fun c => decide (c ∈ cut)) = [] := by
      unfold trimR at h
      simpa using h
    rw [dropWhile_nil] at this
    simpa using this
  · rw [h]
    constructor
    · intro h2
      simp [hc] at h2
    · intro h2
      rw [List.all_eq_true] at h2
      have := h2 c hs
      simp [hc] at this

section
variable {E : Env} {P : Program}
structure NameBodies (E : Env) (P : Program) : Prop where
  t : TrimBodies E P
  name : Body1 E P 1 F.expr_Name
  contains : Body2 E P 5 F.slices_Contains_Lstring_string
  index : Body2 E P 13 F.slices_Index_Lstring_string
theorem Name_spec (B : NameBodies E P) (s : Str) : FX E P 1 [S s] (Bo (nameOk s)) := by
  refine FX.of' (by simp [AV.closed, AV.closedL]) trivial fun n R hR => B.name _ _ _ ?_
  unfold F.expr_Name
  cases s with
  | nil =>
    simp only [nd0, Y1n, Y1o, Y1p, Y1q, Y1w, Y1x, Y1y, Y1z, Y20, Y21, Y28, Y2a, AV.cells?, Nat.reduceAdd, Nat.reduceMul, show (AV.val (.string ⟨#[]⟩)) = S [] from rfl]
    exact hR _ _ rfl
  | cons c r =>
    simp only [nd0, Y1n, Y1o, Y1p, Y1q, Y1w, Y1x, Y1y, Y1z, Y20, Y21, Y28, Y2a, AV.cells?, Nat.reduceAdd, Nat.reduceMul, show (AV.val (.string ⟨#[]⟩)) = S [] from rfl, show ¬ (c :: r = []) by simp]
    by_cases h1 : r.length + 1 ≤ 8
    case neg =>
      have : ¬ (((r.length + 1 : Nat) : Int) ≤ 8) := by omega
      simp only [nd0, Y1n, Y1o, Y1p, Y1q, Y1w, Y1x, Y1y, Y1z, Y20, Y21, Y28, Y2a, AV.cells?, Nat.reduceAdd, Nat.reduceMul, this]
      exact hR _ _ (by simp [nameOk, h1])
    have h1' : (((r.length + 1 : Nat) : Int) ≤ 8) := by omega
    simp only [nd0, Y1n, Y1o, Y1p, Y1q, Y1w, Y1x, Y1y, Y1z, Y20, Y21, Y28, Y2a, AV.cells?, Nat.reduceAdd, Nat.reduceMul, h1']
    rw [idxS_zero]
    simp only [nd0, Y1n, Y1o, Y1p, Y1q, Y1w, Y1x, Y1y, Y1z, Y20, Y21, Y28, Y2a, AV.cells?, Nat.reduceAdd, Nat.reduceMul]
    by_cases h2 : (97 : Int) ≤ c.toNat
    case neg =>
      simp only [nd0, Y1n, Y1o, Y1p, Y1q, Y1w, Y1x, Y1y, Y1z, Y20, Y21, Y28, Y2a, AV.cells?, Nat.reduceAdd, Nat.reduceMul, h2]
      exact hR _ _ (by simp [nameOk, low, h2])
    simp only [nd0, Y1n, Y1o, Y1p, Y1q, Y1w, Y1x, Y1y, Y1z, Y20, Y21, Y28, Y2a, AV.cells?, Nat.reduceAdd, Nat.reduceMul, h2]
    rw [idxS_zero]
    simp only [nd0, Y1n, Y1o, Y1p, Y1q, Y1w, Y1x, Y1y, Y1z, Y20, Y21, Y28, Y2a, AV.cells?, Nat.reduceAdd, Nat.reduceMul]
    by_cases h3 : (c.toNat : Int) ≤ 122
    case neg =>
      simp only [nd0, Y1n, Y1o, Y1p, Y1q, Y1w, Y1x, Y1y, Y1z, Y20, Y21, Y28, Y2a, AV.cells?, Nat.reduceAdd, Nat.reduceMul, h3]
      exact hR _ _ (by simp [nameOk, low, h3])
    simp only [nd0, Y1n, Y1o, Y1p, Y1q, Y1w, Y1x, Y1y, Y1z, Y20, Y21, Y28, Y2a, AV.cells?, Nat.reduceAdd, Nat.reduceMul, h3]
    have hlow : low c = true := by simp [low]; omega
    refine wCall.fx (Trim_spec B.t (c :: r) letters (by unfold ascii; decide) (by simp; omega) (by decide)) fun n => ?_
    simp only [nd0, Y1n, Y1o, Y1p, Y1q, Y1w, Y1x, Y1y, Y1z, Y20, Y21, Y28, Y2a, AV.cells?, Nat.reduceAdd, Nat.reduceMul, show (AV.val (.string ⟨#[]⟩)) = S [] from rfl, trim_nil]
    by_cases h4 : (c :: r).all (fun c => decide (c ∈ letters)) = true
    case neg =>
      simp only [nd0, Y1n, Y1o, Y1p, Y1q, Y1w, Y1x, Y1y, Y1z, Y20, Y21, Y28, Y2a, AV.cells?, Nat.reduceAdd, Nat.reduceMul, h4]
      refine hR _ _ ?_
      simp only [mem_letters] at h4
      have : ¬ (r.all nch = true) := fun h => h4 (by rw [List.all_cons]; simp [nch, hlow]; simpa [nch] using h)
      simp [nameOk, this]
    simp only [nd0, Y1n, Y1o, Y1p, Y1q, Y1w, Y1x, Y1y, Y1z, Y20, Y21, Y28, Y2a, AV.cells?, Nat.reduceAdd, Nat.reduceMul, h4]
    have hr : r.all nch = true := by
      simp only [mem_letters] at h4
      rw [List.all_cons] at h4
      simp at h4
      simpa using h4.2
    refine wNewS.F' (l := words9.map fun s => S s) rfl rfl ?_
    refine wCall.fx (ContainsS_spec (IndexS_spec B.index) B.contains words9 (c :: r) (by decide)) fun n => ?_
    simp only [nd0, Y1n, Y1o, Y1p, Y1q, Y1w, Y1x, Y1y, Y1z, Y20, Y21, Y28, Y2a, AV.cells?, Nat.reduceAdd, Nat.reduceMul]
    exact hR _ _ (by simp [nameOk, hlow, hr, h1])

end
end Go.Sc
namespace Go.Sc
open Go
set_option linter.unusedSimpArgs false
set_option linter.unusedVariables false
inductive Ex where
  | k (b : Bool)
  | bit (s : Str)
  | rise (s : Str)
  | fall (s : Str)
  | not (x : Ex)
  | and (l : List Ex)
  | or (l : List Ex)
  deriving Inhabited
inductive Rs (α : Type) where
  | ok (x : α) (i : Nat)
  | no (e p : Nat)

/-! ### what is read -/
def skipTo (s : Str) (i : Nat) : Nat := i + ((s.drop i).takeWhile (· == 32)).length
theorem skipTo_le (s : Str) (i : Nat) : i ≤ skipTo s i := by unfold skipTo; omega
theorem skipTo_len {s : Str} {i : Nat} (h : i ≤ s.length) : skipTo s i ≤ s.length := by
  have h1 := List.IsPrefix.length_le (List.takeWhile_prefix (fun c : UInt8 => c == 32) (l := s.drop i))
  rw [List.length_drop] at h1
  unfold skipTo; omega
theorem skipTo_step {s : Str} {i : Nat} (h : s[i]? = some 32) : skipTo s i = skipTo s (i + 1) := by
  have hl := lt_of_get h
  rw [List.getElem?_eq_getElem hl] at h
  injection h with h
  unfold skipTo
  rw [List.drop_eq_getElem_cons hl, h, List.takeWhile_cons]
  simp; omega
theorem skipTo_stop {s : Str} {i : Nat} (h : s[i]? ≠ some 32) : skipTo s i = i := by
  unfold skipTo
  by_cases hl : i < s.length
  · rw [List.getElem?_eq_getElem hl] at h
    rw [List.drop_eq_getElem_cons hl, List.takeWhile_cons]
    have : ¬ s[i] = 32 := fun e => h (by rw [e])
    simp [this]
  · rw [List.drop_eq_nil_of_le (by omega)]; simp
theorem skipTo_at (s : Str) (i : Nat) : s[skipTo s i]? ≠ some 32 := by
  generalize hn : s.length - i = n
  induction n generalizing i with
  | zero =>
    have : skipTo s i = i := skipTo_stop (by rw [List.getElem?_eq_none (by omega)]; simp)
    rw [this, List.getElem?_eq_none (by omega)]; simp
  | succ n ih =>
    by_cases h : s[i]? = some 32
    · rw [skipTo_step h]; exact ih _ (by omega)
    · rw [skipTo_stop h]; exact h
theorem skipTo_idem (s : Str) (i : Nat) : skipTo s (skipTo s i) = skipTo s i := skipTo_stop (skipTo_at s i)

def stop9 : Str := [32, 38, 124, 33, 94, 126, 40, 41, 61]
def stop11 : Str := [32, 38, 124, 33, 94, 126, 40, 41, 48, 49, 61]
/-- does a word that begins at i go on at k? -/
def wc (s : Str) (i k : Nat) : Bool := match s[k]? with
  | none => false
  | some c => !decide (c ∈ stop9) && (decide (i < k) || (!decide (c = 48) && !decide (c = 49)))
theorem wc_lt {s : Str} {i k : Nat} (h : wc s i k = true) : k < s.length := by
  unfold wc at h
  split at h
  · cases h
  · rename_i h1; exact lt_of_get h1
def wEnd (s : Str) (i k : Nat) : Nat := if h : wc s i k = true then wEnd s i (k + 1) else k
termination_by s.length - k
decreasing_by have := wc_lt h; omega
theorem wEnd_step {s : Str} {i k : Nat} (h : wc s i k = true) : wEnd s i k = wEnd s i (k + 1) := by rw [wEnd, dif_pos h]
theorem wEnd_stop {s : Str} {i k : Nat} (h : wc s i k = false) : wEnd s i k = k := by rw [wEnd, dif_neg (by rw [h]; simp)]
theorem wEnd_ge (s : Str) (i k : Nat) : k ≤ wEnd s i k := by
  generalize hn : s.length - k = n
  induction n generalizing k with
  | zero =>
    have : wc s i k = false := by
      cases h : wc s i k
      · rfl
      · have := wc_lt h; omega
    rw [wEnd_stop this]; exact Nat.le_refl _
  | succ n ih =>
    cases h : wc s i k with
    | false => rw [wEnd_stop h]; exact Nat.le_refl _
    | true => rw [wEnd_step h]; have := ih (k + 1) (by omega); omega
theorem wEnd_len {s : Str} {i k : Nat} (hk : k ≤ s.length) : wEnd s i k ≤ s.length := by
  generalize hn : s.length - k = n
  induction n generalizing k with
  | zero =>
    have : wc s i k = false := by
      cases h : wc s i k
      · rfl
      · have := wc_lt h; omega
    rw [wEnd_stop this]; exact hk
  | succ n ih =>
    cases h : wc s i k with
    | false => rw [wEnd_stop h]; exact hk
    | true => rw [wEnd_step h]; exact ih (by have := wc_lt h; omega) (by omega)
def wordAt (s : Str) (i : Nat) : Str := (s.take (wEnd s i i)).drop i
/-- a name -/
def wordR (s : Str) (i : Nat) : Rs Str :=
  if wordAt s (skipTo s i) = [] then .no 3 (skipTo s i) else if nameOk (wordAt s (skipTo s i)) = false then .no 5 (skipTo s i) else .ok (wordAt s (skipTo s i)) (wEnd s (skipTo s i) (skipTo s i))

/-- parts with a sign between -/
def rowR (s : Str) (c : UInt8) (f : Nat → Rs Ex) : Nat → Nat → List Ex → Rs (List Ex)
  | 0, i, _ => .no 3 i
  | n + 1, i, l => match f i with
    | .no e p => .no e p
    | .ok x j => if s[skipTo s j]? = some c then rowR s c f n (skipTo s j + 1) (l ++ [x]) else .ok (l ++ [x]) (skipTo s j)
def foldR (mk : List Ex → Ex) : List Ex → Ex
  | [x] => x
  | l => mk l
def allR (s : Str) (c : UInt8) (mk : List Ex → Ex) (f : Nat → Rs Ex) (i : Nat) : Rs Ex := match rowR s c f (s.length + 1) i [] with
  | .ok l j => .ok (foldR mk l) j
  | .no e p => .no e p
def andR (s : Str) (f : Nat → Rs Ex) : Nat → Rs Ex := allR s 38 .and f
def orR (s : Str) (f : Nat → Rs Ex) : Nat → Rs Ex := allR s 124 .or (andR s f)
def Rs.map {α β : Type} (g : α → β) : Rs α → Rs β
  | .ok x j => .ok (g x) j
  | .no e p => .no e p
def closeR (s : Str) : Rs Ex → Rs Ex
  | .ok x j => if s[skipTo s j]? = some 41 then .ok x (skipTo s j + 1) else .no 3 (skipTo s j)
  | .no e p => .no e p
/-- a contact, or what stands in parentheses -/
def oneR (s : Str) : Nat → Nat → Rs Ex
  | 0, i => .no 4 (skipTo s i)
  | d + 1, i =>
    if s[skipTo s i]? = some 33 then (oneR s d (skipTo s i + 1)).map .not
    else if s[skipTo s i]? = some 40 then closeR s (orR s (oneR s d) (skipTo s i + 1))
    else if s[skipTo s i]? = some 48 then .ok (.k false) (skipTo s i + 1)
    else if s[skipTo s i]? = some 49 then .ok (.k true) (skipTo s i + 1)
    else if s[skipTo s i]? = some 94 then (wordR s (skipTo s i + 1)).map .rise
    else if s[skipTo s i]? = some 126 then (wordR s (skipTo s i + 1)).map .fall
    else (wordR s (skipTo s i)).map .bit
/-- a whole expression: its error without a place is `inl` -/
def parseR (s : Str) : Rs Ex := match orR s (oneR s 20) 0 with
  | .no e p => .no e p
  | .ok x j => if skipTo s j < s.length then .no 3 (skipTo s j) else .ok x (skipTo s j)

/-! ### how great it is -/
mutual
def Ex.wt : Ex → Nat
  | .k _ => 1
  | .bit s => s.length
  | .rise s => s.length + 1
  | .fall s => s.length + 1
  | .not x => x.wt + 1
  | .and l => Ex.wtL l + 3 * l.length + 2
  | .or l => Ex.wtL l + 3 * l.length + 2
def Ex.wtL : List Ex → Nat
  | [] => 0
  | x :: l => x.wt + Ex.wtL l
end
/- names may be, and there are two parts or more -/
mutual
def Ex.fine : Ex → Prop
  | .k _ => True
  | .bit s => nameOk s = true
  | .rise s => nameOk s = true
  | .fall s => nameOk s = true
  | .not x => x.fine
  | .and l => 2 ≤ l.length ∧ Ex.fineL l
  | .or l => 2 ≤ l.length ∧ Ex.fineL l
def Ex.fineL : List Ex → Prop
  | [] => True
  | x :: l => x.fine ∧ Ex.fineL l
end
/-- what a reader comes to: on, and not too great -/
def GoodR (s : Str) (f : Nat → Rs Ex) : Prop := ∀ i x j, i ≤ s.length → f i = .ok x j → i ≤ j ∧ j ≤ s.length ∧ x.wt ≤ 8 * (j - i) ∧ x.fine
theorem wordR_good {s w : Str} {i j : Nat} (hi : i ≤ s.length) (h : wordR s i = .ok w j) : i ≤ j ∧ j ≤ s.length ∧ w.length ≤ j - i ∧ nameOk w = true := by
  unfold wordR at h
  split at h
  · cases h
  split at h
  · cases h
  · rename_i h1 h2
    injection h with h3 h4
    subst h3 h4
    have a1 := skipTo_le s i
    have a2 := skipTo_len hi
    have a3 := wEnd_ge s (skipTo s i) (skipTo s i)
    have a4 := wEnd_len (i := skipTo s i) a2
    refine ⟨by omega, a4, ?_, by simpa using h2⟩
    simp only [wordAt, List.length_drop, List.length_take]
    omega
theorem rowR_good {s : Str} {c : UInt8} {f : Nat → Rs Ex} (hf : GoodR s f) : ∀ (n i : Nat) (l : List Ex) {l' : List Ex} {j : Nat}, i ≤ s.length → rowR s c f n i l = .ok l' j →
    ∃ l1, l' = l ++ l1 ∧ l1 ≠ [] ∧ i ≤ j ∧ j ≤ s.length ∧ Ex.wtL l1 + 8 * (l1.length - 1) ≤ 8 * (j - i) ∧ Ex.fineL l1
  | 0, i, l, l', j, hi, h => by simp [rowR] at h
  | n + 1, i, l, l', j, hi, h => by
    unfold rowR at h
    split at h
    · cases h
    · rename_i x k hx
      obtain ⟨a1, a2, a3, a4⟩ := hf i x k hi hx
      have b1 := skipTo_le s k
      have b2 := skipTo_len a2
      split at h
      · rename_i hc
        have hlt := lt_of_get hc
        obtain ⟨l1, rfl, c1, c2, c3, c4, c5⟩ := rowR_good hf n (skipTo s k + 1) (l ++ [x]) (by omega) h
        refine ⟨x :: l1, by simp, by simp, by omega, c3, ?_, by simp only [Ex.fineL]; exact ⟨a4, c5⟩⟩
        have : 0 < l1.length := List.length_pos_iff.2 c1
        simp only [Ex.wtL, List.length_cons]
        omega
      · injection h with h1 h2
        subst h1 h2
        exact ⟨[x], rfl, by simp, by omega, b2, by simp [Ex.wtL]; omega, by simp [Ex.fineL, a4]⟩
theorem allR_good {s : Str} {c : UInt8} {mk : List Ex → Ex} {f : Nat → Rs Ex} (hm : ∀ l, (mk l).wt = Ex.wtL l + 3 * l.length + 2) (hm2 : ∀ l, 2 ≤ l.length → Ex.fineL l → (mk l).fine) (hf : GoodR s f) : GoodR s (allR s c mk f) := by
  intro i x j hi h
  unfold allR at h
  split at h
  · rename_i l k hl
    injection h with h1 h2
    subst h1 h2
    obtain ⟨l1, rfl, c1, c2, c3, c4, c5⟩ := rowR_good hf _ _ _ hi hl
    refine ⟨c2, c3, ?_⟩
    cases l with
    | nil => exact absurd rfl c1
    | cons y l2 =>
      cases l2 with
      | nil => exact ⟨by simpa [foldR, Ex.wtL] using c4, by simpa [foldR, Ex.fineL] using c5⟩
      | cons z l3 =>
        refine ⟨?_, hm2 _ (by simp) c5⟩
        show (mk (y :: z :: l3)).wt ≤ _
        rw [hm]
        simp only [List.length_cons] at c4 ⊢
        omega
  · cases h
theorem andR_good {s : Str} {f : Nat → Rs Ex} (hf : GoodR s f) : GoodR s (andR s f) := allR_good (fun _ => rfl) (fun _ h1 h2 => ⟨h1, h2⟩) hf
theorem orR_good {s : Str} {f : Nat → Rs Ex} (hf : GoodR s f) : GoodR s (orR s f) := allR_good (fun _ => rfl) (fun _ h1 h2 => ⟨h1, h2⟩) (andR_good hf)
theorem map_ok {α β : Type} {g : α → β} {r : Rs α} {y : β} {j : Nat} (h : r.map g = .ok y j) : ∃ x, r = .ok x j ∧ y = g x := by
  cases r with
  | ok x k => injection h with h1 h2; subst h1 h2; exact ⟨x, rfl, rfl⟩
  | no e p => cases h
theorem oneR_good (s : Str) : ∀ d, GoodR s (oneR s d)
  | 0, i, x, j, hi, h => by simp [oneR] at h
  | d + 1, i, x, j, hi, h => by
    have ih := oneR_good s d
    have b1 := skipTo_le s i
    have b2 := skipTo_len hi
    unfold oneR at h
    split at h
    · rename_i hc
      have hlt := lt_of_get hc
      obtain ⟨y, hy, rfl⟩ := map_ok h
      obtain ⟨a1, a2, a3, a4⟩ := ih _ _ _ (by omega) hy
      exact ⟨by omega, a2, by simp only [Ex.wt]; omega, a4⟩
    split at h
    · rename_i hc
      have hlt := lt_of_get hc
      cases ho : orR s (oneR s d) (skipTo s i + 1) with
      | no e p => rw [ho] at h; cases h
      | ok y k =>
        rw [ho] at h
        obtain ⟨a1, a2, a3, a4⟩ := orR_good ih _ _ _ (by omega) ho
        simp only [closeR] at h
        split at h
        · rename_i hc2
          have hlt2 := lt_of_get hc2
          have := skipTo_le s k
          injection h with h1 h2
          subst h1 h2
          exact ⟨by omega, by omega, by omega, a4⟩
        · cases h
    split at h
    · rename_i hc
      have hlt := lt_of_get hc
      injection h with h1 h2
      subst h1 h2
      exact ⟨by omega, by omega, by simp only [Ex.wt]; omega, trivial⟩
    split at h
    · rename_i hc
      have hlt := lt_of_get hc
      injection h with h1 h2
      subst h1 h2
      exact ⟨by omega, by omega, by simp only [Ex.wt]; omega, trivial⟩
    split at h
    · rename_i hc
      have hlt := lt_of_get hc
      obtain ⟨y, hy, rfl⟩ := map_ok h
      obtain ⟨a1, a2, a3, a4⟩ := wordR_good (by omega) hy
      exact ⟨by omega, a2, by simp only [Ex.wt]; omega, a4⟩
    split at h
    · rename_i hc
      have hlt := lt_of_get hc
      obtain ⟨y, hy, rfl⟩ := map_ok h
      obtain ⟨a1, a2, a3, a4⟩ := wordR_good (by omega) hy
      exact ⟨by omega, a2, by simp only [Ex.wt]; omega, a4⟩
    · obtain ⟨y, hy, rfl⟩ := map_ok h
      obtain ⟨a1, a2, a3, a4⟩ := wordR_good b2 hy
      exact ⟨by omega, a2, by simp only [Ex.wt]; omega, a4⟩
theorem parseR_good {s : Str} {x : Ex} {j : Nat} (h : parseR s = .ok x j) : x.wt ≤ 8 * s.length ∧ x.fine := by
  unfold parseR at h
  split at h
  · cases h
  · rename_i y k hy
    obtain ⟨a1, a2, a3, a4⟩ := orR_good (oneR_good s 20) 0 y k (by omega) hy
    split at h
    · cases h
    · injection h with h1 _
      subst h1
      exact ⟨by omega, a4⟩
/-! ### how it is written -/
def joinS (sep : Str) : List Str → Str
  | [] => []
  | [x] => x
  | x :: y :: l => x ++ sep ++ joinS sep (y :: l)
def around (b : Bool) (t : Str) : Str := if b then 40 :: t ++ [41] else t
mutual
def Ex.wr : Nat → Ex → Str
  | _, .k b => if b then [49] else [48]
  | _, .bit s => s
  | _, .rise s => 94 :: s
  | _, .fall s => 126 :: s
  | _, .not x => 33 :: Ex.wr 2 x
  | st, .and l => around (decide (2 ≤ st)) (joinS [32, 38, 32] (Ex.wrL 2 l))
  | st, .or l => around (decide (1 ≤ st)) (joinS [32, 124, 32] (Ex.wrL 1 l))
def Ex.wrL : Nat → List Ex → List Str
  | _, [] => []
  | st, x :: l => Ex.wr st x :: Ex.wrL st l
end
theorem Ex.wrL_map (st : Nat) : ∀ l : List Ex, Ex.wrL st l = l.map (Ex.wr st)
  | [] => rfl
  | x :: l => by simp [Ex.wrL, Ex.wrL_map st l]
theorem joinS_len (sep : Str) : ∀ l : List Str, (joinS sep l).length ≤ (l.map List.length).sum + sep.length * l.length
  | [] => by simp [joinS]
  | [x] => by simp [joinS]
  | x :: y :: l => by
    have := joinS_len sep (y :: l)
    simp only [joinS, List.length_append, List.map_cons, List.sum_cons, List.length_cons] at this ⊢
    have e : sep.length * (l.length + 1 + 1) = sep.length * (l.length + 1) + sep.length := by rw [Nat.mul_add]; omega
    rw [e]; omega
theorem around_len (b : Bool) (t : Str) : (around b t).length ≤ t.length + 2 := by
  unfold around; split <;> simp
mutual
theorem Ex.wr_len : ∀ (x : Ex) (st : Nat), (x.wr st).length ≤ x.wt
  | .k b, _ => by cases b <;> simp [Ex.wr, Ex.wt]
  | .bit s, _ => by simp [Ex.wr, Ex.wt]
  | .rise s, _ => by simp [Ex.wr, Ex.wt]
  | .fall s, _ => by simp [Ex.wr, Ex.wt]
  | .not x, _ => by have := Ex.wr_len x 2; simp only [Ex.wr, Ex.wt, List.length_cons]; omega
  | .and l, st => by
    have h1 := Ex.wrL_len l 2
    have h2 := around_len (decide (2 ≤ st)) (joinS [32, 38, 32] (Ex.wrL 2 l))
    have h3 := joinS_len [32, 38, 32] (Ex.wrL 2 l)
    simp only [Ex.wr, Ex.wt]
    simp only [List.length_cons, List.length_nil] at h3
    rw [Ex.wrL_map] at h3 h1 h2 ⊢
    rw [List.length_map] at h3
    omega
  | .or l, st => by
    have h1 := Ex.wrL_len l 1
    have h2 := around_len (decide (1 ≤ st)) (joinS [32, 124, 32] (Ex.wrL 1 l))
    have h3 := joinS_len [32, 124, 32] (Ex.wrL 1 l)
    simp only [Ex.wr, Ex.wt]
    simp only [List.length_cons, List.length_nil] at h3
    rw [Ex.wrL_map] at h3 h1 h2 ⊢
    rw [List.length_map] at h3
    omega
theorem Ex.wrL_len : ∀ (l : List Ex) (st : Nat), ((Ex.wrL st l).map List.length).sum ≤ Ex.wtL l
  | [], _ => by simp [Ex.wrL, Ex.wtL]
  | x :: l, st => by
    have h1 := Ex.wr_len x st
    have h2 := Ex.wrL_len l st
    simp only [Ex.wrL, Ex.wtL, List.map_cons, List.sum_cons]; omega
end
/-! ### as values -/
mutual
/-- the program's -/
def Ex.enc : Ex → AV
  | .k b => .ifc 11 (Bo b)
  | .bit s => .ifc 14 (S s)
  | .rise s => .ifc 12 (S s)
  | .fall s => .ifc 13 (S s)
  | .not x => .ifc 10 (.agg [x.enc])
  | .and l => .ifc 9 (.slN (Ex.encL l) l.length)
  | .or l => .ifc 8 (.slN (Ex.encL l) l.length)
def Ex.encL : List Ex → List AV
  | [] => []
  | x :: l => x.enc :: Ex.encL l
end
mutual
/-- the document's -/
def Ex.ref : Ex → AV
  | .k b => .ptrF [S (if b then [49] else [48]), S [], nilS] 0
  | .bit s => .ptrF [S [98, 105, 116], S s, nilS] 0
  | .rise s => .ptrF [S [94], S s, nilS] 0
  | .fall s => .ptrF [S [126], S s, nilS] 0
  | .not x => .ptrF [S [33], S [], .slN [x.ref] 1] 0
  | .and l => .ptrF [S [38], S [], .slN (Ex.refL l) l.length] 0
  | .or l => .ptrF [S [124], S [], .slN (Ex.refL l) l.length] 0
def Ex.refL : List Ex → List AV
  | [] => []
  | x :: l => x.ref :: Ex.refL l
end
theorem Ex.encL_map : ∀ l : List Ex, Ex.encL l = l.map Ex.enc
  | [] => rfl
  | x :: l => by simp [Ex.encL, Ex.encL_map l]
mutual
theorem Ex.enc_closed : ∀ x : Ex, x.enc.closed
  | .k _ => trivial
  | .bit _ => trivial
  | .rise _ => trivial
  | .fall _ => trivial
  | .not x => by simp only [Ex.enc, AV.closed, AV.closedL]; exact ⟨Ex.enc_closed x, trivial⟩
  | .and l => Ex.encL_closed l
  | .or l => Ex.encL_closed l
theorem Ex.encL_closed : ∀ l : List Ex, AV.closedL (Ex.encL l)
  | [] => trivial
  | x :: l => ⟨Ex.enc_closed x, Ex.encL_closed l⟩
end
mutual
theorem Ex.ref_closed : ∀ x : Ex, x.ref.closed
  | .k _ => ⟨trivial, trivial, trivial, trivial⟩
  | .bit _ => ⟨trivial, trivial, trivial, trivial⟩
  | .rise _ => ⟨trivial, trivial, trivial, trivial⟩
  | .fall _ => ⟨trivial, trivial, trivial, trivial⟩
  | .not x => by simp only [Ex.ref, AV.closed, AV.closedL]; exact ⟨trivial, trivial, ⟨Ex.ref_closed x, trivial⟩, trivial⟩
  | .and l => ⟨trivial, trivial, Ex.refL_closed l, trivial⟩
  | .or l => ⟨trivial, trivial, Ex.refL_closed l, trivial⟩
theorem Ex.refL_closed : ∀ l : List Ex, AV.closedL (Ex.refL l)
  | [] => trivial
  | x :: l => ⟨Ex.ref_closed x, Ex.refL_closed l⟩
end
theorem Ex.enc_scalar (x : Ex) : x.enc.scalar = true := by cases x <;> rfl
end Go.Sc
namespace Go.Sc.F
open Go Go.Sc
set_option linter.unusedVariables false
/-- signalbox/expr.Parse -/
def expr_Parse (E : Env) (P : Program) (a0 : AV) (H : AH) (R : Kt) : Prop :=
  wGet (lenS a0) H fun t8 H =>
  wGet (binA .gtr t8 (.val (.int .i64 2000))) H fun t9 H =>
  wIf t9 (
    R (.tup [(.val (.nilIface)), (.ifc 1 (.val (.int .i64 4)))]) H) (
    wAgg (fillA [(.val (.string ⟨#[]⟩)), (.val (.int .i64 0))] [(0, 1, a0)]) H fun t12 H =>
    wNew 2 (AV.cells? t12) H fun t13 H =>
    wCall E P 133 [t13, (.val (.int .i64 20))] H fun t16 H =>
    wGet (extractA t16 0) H fun t17 H =>
    wGet (extractA t16 1) H fun t18 H =>
    wBool (eqA .iface t18 (.val (.nilIface))) H true fun t20 H =>
    wIf t20 (
      R (.tup [(.val (.nilIface)), t18]) H) (
      wCall E P 134 [t13] H fun t23 H =>
      wGet (nilA t13) H fun t25 H =>
      wGet (faddr 1 t25) H fun t26 H =>
      wGet (load1 t26 H) H fun t27 H =>
      wGet (lenS a0) H fun t29 H =>
      wGet (binA .lss t27 t29) H fun t30 H =>
      wIf t30 (
        wCall E P 135 [t13, (.val (.int .i64 3))] H fun t32 H =>
        R (.tup [(.val (.nilIface)), t32]) H) (
        R (.tup [t17, (.val (.nilIface))]) H)))

/-- signalbox/expr.Text -/
def expr_Text (E : Env) (P : Program) (a0 : AV) (H : AH) (R : Kt) : Prop :=
  wBool (eqA .iface a0 (.val (.nilIface))) H false fun t4 H =>
  wIf t4 (
    R (.val (.string ⟨#[]⟩)) H) (
    wInv E P a0 "Text" [] H fun t6 H =>
    R t6 H)

/-- (*signalbox/expr.reader).or -/
def pexpr_reader_or (E : Env) (P : Program) (a0 a1 : AV) (H : AH) (R : Kt) : Prop :=
  wCall E P 140 [a0, (.val (.int .u8 124)), a1, (.fn 139 [a0] [])] H fun t13 H =>
  wGet (extractA t13 0) H fun t14 H =>
  wGet (extractA t13 1) H fun t15 H =>
  wBool (eqA .iface t15 (.val (.nilIface))) H true fun t17 H =>
  wIf t17 (
    R (.tup [(.val (.nilIface)), t15]) H) (
    wGet (lenA t14) H fun t20 H =>
    wGet (binA .eql t20 (.val (.int .i64 1))) H fun t21 H =>
    wIf t21 (
      wGet (iaddr 1 t14 (.val (.int .i64 0))) H fun t23 H =>
      wGet (load1 t23 H) H fun t24 H =>
      R (.tup [t24, (.val (.nilIface))]) H) (
      R (.tup [(.ifc 8 t14), (.val (.nilIface))]) H))

/-- (*signalbox/expr.reader).blanks -/
def pexpr_reader_blanks (E : Env) (P : Program) (a0 : AV) (H : AH) (R : Kt) : Prop :=
  wLoop 0 (fun I1 => I1 H) fun I1 H =>
    wGet (nilA a0) H fun t3 H =>
    wGet (faddr 1 t3) H fun t4 H =>
    wGet (load1 t4 H) H fun t5 H =>
    wGet (nilA a0) H fun t7 H =>
    wGet (faddr 0 t7) H fun t8 H =>
    wGet (load1 t8 H) H fun t9 H =>
    wGet (lenS t9) H fun t10 H =>
    wGet (binA .lss t5 t10) H fun t11 H =>
    wGuard t11 true H (fun k => k a0 H) fun t13 H =>
    wGuard t11 true H (fun k => wGet (nilA t13) H k) fun t14 H =>
    wGuard t11 true H (fun k => wGet (faddr 0 t14) H k) fun t15 H =>
    wGuard t11 true H (fun k => wGet (load1 t15 H) H k) fun t16 H =>
    wGuard t11 true H (fun k => k a0 H) fun t17 H =>
    wGuard t11 true H (fun k => wGet (nilA t17) H k) fun t18 H =>
    wGuard t11 true H (fun k => wGet (faddr 1 t18) H k) fun t19 H =>
    wGuard t11 true H (fun k => wGet (load1 t19 H) H k) fun t20 H =>
    wGuard t11 true H (fun k => wGet (idxStr t16 t20) H k) fun t21 H =>
    wGuard t11 true H (fun k => wGet (binA .eql t21 (.val (.int .u8 32))) H k) fun t22 H =>
    wGet (pickA t11 t22 (.val (.bool false))) H fun t23 H =>
    wIf t23 (
      wGet (nilA a0) H fun t25 H =>
      wGet (faddr 1 t25) H fun t26 H =>
      wGet (load1 t26 H) H fun t27 H =>
      wGet (binA .add t27 (.val (.int .i64 1))) H fun t28 H =>
      wGet (nilA a0) H fun t29 H =>
      wGet (faddr 1 t29) H fun t30 H =>
      wPut (store1 t30 t28 H) fun _u H =>
      I1 H) (
      R (.tup []) H)

/-- (*signalbox/expr.reader).fail -/
def pexpr_reader_fail (E : Env) (P : Program) (a0 a1 : AV) (H : AH) (R : Kt) : Prop :=
  wCall E P 134 [a0] H fun t6 H =>
  wGet (nilA a0) H fun t9 H =>
  wGet (faddr 1 t9) H fun t10 H =>
  wGet (load1 t10 H) H fun t11 H =>
  wAgg (fillA [(.val (.int .i64 0)), (.val (.int .i64 0))] [(0, 1, a1), (1, 1, t11)]) H fun t12 H =>
  wNew 2 (AV.cells? t12) H fun t13 H =>
  R (.ifc 2 t13) H

/-- (*signalbox/expr.reader).several -/
def pexpr_reader_several (E : Env) (P : Program) (a0 a1 a2 a3 : AV) (H : AH) (R : Kt) : Prop :=
  wLoop 1 (fun I1 => I1 (.val (.slice none 0 0)) H) fun I1 t10 H =>
    wCallV E P a3 [a2] H fun t16 H =>
    wGet (extractA t16 0) H fun t17 H =>
    wGet (extractA t16 1) H fun t18 H =>
    wBool (eqA .iface t18 (.val (.nilIface))) H true fun t20 H =>
    wIf t20 (
      R (.tup [(.val (.slice none 0 0)), t18]) H) (
      wNewS 1 1 (fillA (List.replicate 1 [(.val (.nilIface))]).flatten [(0, 1, t17)]) H fun t24 H =>
      wApp 1 16 t10 t24 H fun t25 H =>
      wCall E P 143 [a0, a1] H fun t28 H =>
      wGet (unA .not t28) H fun t29 H =>
      wIf t29 (
        R (.tup [t25, (.val (.nilIface))]) H) (
        I1 t25 H))

/-- (*signalbox/expr.reader).and -/
def pexpr_reader_and (E : Env) (P : Program) (a0 a1 : AV) (H : AH) (R : Kt) : Prop :=
  wCall E P 140 [a0, (.val (.int .u8 38)), a1, (.fn 144 [a0] [])] H fun t13 H =>
  wGet (extractA t13 0) H fun t14 H =>
  wGet (extractA t13 1) H fun t15 H =>
  wBool (eqA .iface t15 (.val (.nilIface))) H true fun t17 H =>
  wIf t17 (
    R (.tup [(.val (.nilIface)), t15]) H) (
    wGet (lenA t14) H fun t20 H =>
    wGet (binA .eql t20 (.val (.int .i64 1))) H fun t21 H =>
    wIf t21 (
      wGet (iaddr 1 t14 (.val (.int .i64 0))) H fun t23 H =>
      wGet (load1 t23 H) H fun t24 H =>
      R (.tup [t24, (.val (.nilIface))]) H) (
      R (.tup [(.ifc 9 t14), (.val (.nilIface))]) H))

/-- (*signalbox/expr.reader).take -/
def pexpr_reader_take (E : Env) (P : Program) (a0 a1 : AV) (H : AH) (R : Kt) : Prop :=
  wCall E P 134 [a0] H fun t6 H =>
  wGet (nilA a0) H fun t8 H =>
  wGet (faddr 1 t8) H fun t9 H =>
  wGet (load1 t9 H) H fun t10 H =>
  wGet (nilA a0) H fun t12 H =>
  wGet (faddr 0 t12) H fun t13 H =>
  wGet (load1 t13 H) H fun t14 H =>
  wGet (lenS t14) H fun t15 H =>
  wGet (binA .lss t10 t15) H fun t16 H =>
  wGuard t16 true H (fun k => k a0 H) fun t18 H =>
  wGuard t16 true H (fun k => wGet (nilA t18) H k) fun t19 H =>
  wGuard t16 true H (fun k => wGet (faddr 0 t19) H k) fun t20 H =>
  wGuard t16 true H (fun k => wGet (load1 t20 H) H k) fun t21 H =>
  wGuard t16 true H (fun k => k a0 H) fun t22 H =>
  wGuard t16 true H (fun k => wGet (nilA t22) H k) fun t23 H =>
  wGuard t16 true H (fun k => wGet (faddr 1 t23) H k) fun t24 H =>
  wGuard t16 true H (fun k => wGet (load1 t24 H) H k) fun t25 H =>
  wGuard t16 true H (fun k => wGet (idxStr t21 t25) H k) fun t26 H =>
  wGuard t16 true H (fun k => k a1 H) fun t27 H =>
  wGuard t16 true H (fun k => wGet (binA .eql t26 t27) H k) fun t28 H =>
  wGet (pickA t16 t28 (.val (.bool false))) H fun t29 H =>
  wIf t29 (
    wGet (nilA a0) H fun t31 H =>
    wGet (faddr 1 t31) H fun t32 H =>
    wGet (load1 t32 H) H fun t33 H =>
    wGet (binA .add t33 (.val (.int .i64 1))) H fun t34 H =>
    wGet (nilA a0) H fun t35 H =>
    wGet (faddr 1 t35) H fun t36 H =>
    wPut (store1 t36 t34 H) fun _u H =>
    R (.val (.bool true)) H) (
    R (.val (.bool false)) H)

/-- (*signalbox/expr.reader).one -/
def pexpr_reader_one (E : Env) (P : Program) (a0 a1 : AV) (H : AH) (R : Kt) : Prop :=
  wGet (binA .eql a1 (.val (.int .i64 0))) H fun t17 H =>
  wIf t17 (
    wCall E P 135 [a0, (.val (.int .i64 4))] H fun t19 H =>
    R (.tup [(.val (.nilIface)), t19]) H) (
    wCall E P 143 [a0, (.val (.int .u8 33))] H fun t22 H =>
    wIf t22 (
      wGet (binA .sub a1 (.val (.int .i64 1))) H fun t26 H =>
      wCall E P 144 [a0, t26] H fun t27 H =>
      wGet (extractA t27 0) H fun t28 H =>
      wGet (extractA t27 1) H fun t29 H =>
      wBool (eqA .iface t29 (.val (.nilIface))) H true fun t31 H =>
      wIf t31 (
        R (.tup [(.val (.nilIface)), t29]) H) (
        wAgg (fillA [(.val (.nilIface))] [(0, 1, t28)]) H fun t34 H =>
        R (.tup [(.ifc 10 t34), (.val (.nilIface))]) H)) (
      wCall E P 143 [a0, (.val (.int .u8 40))] H fun t38 H =>
      wIf t38 (
        wGet (binA .sub a1 (.val (.int .i64 1))) H fun t42 H =>
        wCall E P 133 [a0, t42] H fun t43 H =>
        wGet (extractA t43 0) H fun t44 H =>
        wGet (extractA t43 1) H fun t45 H =>
        wBool (eqA .iface t45 (.val (.nilIface))) H true fun t47 H =>
        wIf t47 (
          R (.tup [(.val (.nilIface)), t45]) H) (
          wCall E P 143 [a0, (.val (.int .u8 41))] H fun t50 H =>
          wGet (unA .not t50) H fun t51 H =>
          wIf t51 (
            wCall E P 135 [a0, (.val (.int .i64 3))] H fun t53 H =>
            R (.tup [(.val (.nilIface)), t53]) H) (
            R (.tup [t44, (.val (.nilIface))]) H))) (
        wCall E P 143 [a0, (.val (.int .u8 48))] H fun t57 H =>
        wIf t57 (
          R (.tup [(.ifc 11 (.val (.bool false))), (.val (.nilIface))]) H) (
          wCall E P 143 [a0, (.val (.int .u8 49))] H fun t61 H =>
          wIf t61 (
            R (.tup [(.ifc 11 (.val (.bool true))), (.val (.nilIface))]) H) (
            wCall E P 143 [a0, (.val (.int .u8 94))] H fun t65 H =>
            wIf t65 (
              wCall E P 145 [a0] H fun t68 H =>
              wGet (extractA t68 0) H fun t69 H =>
              wGet (extractA t68 1) H fun t70 H =>
              R (.tup [(.ifc 12 t69), t70]) H) (
              wCall E P 143 [a0, (.val (.int .u8 126))] H fun t76 H =>
              wIf t76 (
                wCall E P 145 [a0] H fun t79 H =>
                wGet (extractA t79 0) H fun t80 H =>
                wGet (extractA t79 1) H fun t81 H =>
                R (.tup [(.ifc 13 t80), t81]) H) (
                wCall E P 145 [a0] H fun t87 H =>
                wGet (extractA t87 0) H fun t88 H =>
                wGet (extractA t87 1) H fun t89 H =>
                R (.tup [(.ifc 14 t88), t89]) H)))))))

/-- (*signalbox/expr.reader).word -/
def pexpr_reader_word (E : Env) (P : Program) (a0 : AV) (H : AH) (R : Kt) : Prop :=
  wCall E P 134 [a0] H fun t7 H =>
  wGet (nilA a0) H fun t9 H =>
  wGet (faddr 1 t9) H fun t10 H =>
  wGet (load1 t10 H) H fun t11 H =>
  wLoop 1 (fun I1 => I1 t11 H) fun I1 t4 H =>
    wGet (nilA a0) H fun t14 H =>
    wGet (faddr 0 t14) H fun t15 H =>
    wGet (load1 t15 H) H fun t16 H =>
    wGet (lenS t16) H fun t17 H =>
    wGet (binA .lss t4 t17) H fun t18 H =>
    wGuard t18 true H (fun k => k a0 H) fun t20 H =>
    wGuard t18 true H (fun k => wGet (nilA t20) H k) fun t21 H =>
    wGuard t18 true H (fun k => wGet (faddr 0 t21) H k) fun t22 H =>
    wGuard t18 true H (fun k => wGet (load1 t22 H) H k) fun t23 H =>
    wGuard t18 true H (fun k => k t4 H) fun t24 H =>
    wGuard t18 true H (fun k => wGet (idxStr t23 t24) H k) fun t25 H =>
    wGuard t18 true H (fun k => wCall E P 21 [(.val (.string ⟨#[32, 38, 124, 33, 94, 126, 40, 41, 48, 49, 61]⟩)), t25] H k) fun t26 H =>
    wGuard t18 true H (fun k => wGet (binA .lss t26 (.val (.int .i64 0))) H k) fun t27 H =>
    wGet (pickA t18 t27 (.val (.bool false))) H fun t28 H =>
    wGuard t28 false H (fun k => k t4 H) fun t30 H =>
    wGuard t28 false H (fun k => k a0 H) fun t31 H =>
    wGuard t28 false H (fun k => wGet (nilA t31) H k) fun t32 H =>
    wGuard t28 false H (fun k => wGet (faddr 1 t32) H k) fun t33 H =>
    wGuard t28 false H (fun k => wGet (load1 t33 H) H k) fun t34 H =>
    wGuard t28 false H (fun k => wGet (binA .gtr t30 t34) H k) fun t35 H =>
    wGuard t28 false H (fun k => k t35 H) fun t36 H =>
    wGuard t36 true H (fun k => k t4 H) fun t37 H =>
    wGuard t36 true H (fun k => k a0 H) fun t38 H =>
    wGuard t36 true H (fun k => wGet (nilA t38) H k) fun t39 H =>
    wGuard t36 true H (fun k => wGet (faddr 0 t39) H k) fun t40 H =>
    wGuard t36 true H (fun k => wGet (load1 t40 H) H k) fun t41 H =>
    wGuard t36 true H (fun k => wGet (lenS t41) H k) fun t42 H =>
    wGuard t36 true H (fun k => wGet (binA .lss t37 t42) H k) fun t43 H =>
    wGuard t28 false H (fun k => wGet (pickA t36 t43 (.val (.bool false))) H k) fun t44 H =>
    wGuard t28 false H (fun k => k t44 H) fun t45 H =>
    wGuard t45 true H (fun k => k a0 H) fun t46 H =>
    wGuard t45 true H (fun k => wGet (nilA t46) H k) fun t47 H =>
    wGuard t45 true H (fun k => wGet (faddr 0 t47) H k) fun t48 H =>
    wGuard t45 true H (fun k => wGet (load1 t48 H) H k) fun t49 H =>
    wGuard t45 true H (fun k => k t4 H) fun t50 H =>
    wGuard t45 true H (fun k => wGet (idxStr t49 t50) H k) fun t51 H =>
    wGuard t45 true H (fun k => wGet (binA .eql t51 (.val (.int .u8 48))) H k) fun t52 H =>
    wGuard t45 true H (fun k => k t52 H) fun t53 H =>
    wGuard t53 false H (fun k => k a0 H) fun t54 H =>
    wGuard t53 false H (fun k => wGet (nilA t54) H k) fun t55 H =>
    wGuard t53 false H (fun k => wGet (faddr 0 t55) H k) fun t56 H =>
    wGuard t53 false H (fun k => wGet (load1 t56 H) H k) fun t57 H =>
    wGuard t53 false H (fun k => k t4 H) fun t58 H =>
    wGuard t53 false H (fun k => wGet (idxStr t57 t58) H k) fun t59 H =>
    wGuard t53 false H (fun k => wGet (binA .eql t59 (.val (.int .u8 49))) H k) fun t60 H =>
    wGuard t45 true H (fun k => wGet (pickA t53 (.val (.bool true)) t60) H k) fun t61 H =>
    wGuard t28 false H (fun k => wGet (pickA t45 t61 (.val (.bool false))) H k) fun t62 H =>
    wGet (pickA t28 (.val (.bool true)) t62) H fun t63 H =>
    wIf t63 (
      wGet (binA .add t4 (.val (.int .i64 1))) H fun t65 H =>
      I1 t65 H) (
      wGet (nilA a0) H fun t67 H =>
      wGet (faddr 0 t67) H fun t68 H =>
      wGet (load1 t68 H) H fun t69 H =>
      wGet (nilA a0) H fun t71 H =>
      wGet (faddr 1 t71) H fun t72 H =>
      wGet (load1 t72 H) H fun t73 H =>
      wGet (sliceS t69 (some t73) (some t4)) H fun t75 H =>
      wGet (binA .eql t75 (.val (.string ⟨#[]⟩))) H fun t77 H =>
      wIf t77 (
        wCall E P 135 [a0, (.val (.int .i64 3))] H fun t79 H =>
        R (.tup [(.val (.string ⟨#[]⟩)), t79]) H) (
        wCall E P 1 [t75] H fun t81 H =>
        wGet (unA .not t81) H fun t82 H =>
        wIf t82 (
          wCall E P 135 [a0, (.val (.int .i64 5))] H fun t84 H =>
          R (.tup [(.val (.string ⟨#[]⟩)), t84]) H) (
          wGet (nilA a0) H fun t87 H =>
          wGet (faddr 1 t87) H fun t88 H =>
          wPut (store1 t88 t4 H) fun _u H =>
          R (.tup [t75, (.val (.nilIface))]) H)))

/-- strings.IndexRune -/
def strings_IndexRune_ScV11 (E : Env) (P : Program) (a0 a1 : AV) (H : AH) (R : Kt) : Prop :=
  wGet (binA .leq (.val (.int .i32 0)) a1) H fun t162 H =>
  wGuard t162 true H (fun k => k a1 H) fun t164 H =>
  wGuard t162 true H (fun k => wGet (binA .lss t164 (.val (.int .i32 128))) H k) fun t165 H =>
  wGet (pickA t162 t165 (.val (.bool false))) H fun t166 H =>
  wIf t166 (
    wGet (convA (.int .u8) a1) H fun t169 H =>
    wCall E P 21 [a0, t169] H fun t170 H =>
    R t170 H) (
    wGet (binA .eql a1 (.val (.int .i32 65533))) H fun t173 H =>
    wIf t173 (
      False) (
      wCall E P 22 [a1] H fun t185 H =>
      wGet (unA .not t185) H fun t186 H =>
      wIf t186 (
        R (.val (.int .i64 (-1))) H) (
        wGet (convA .string a1) H fun t18 H =>
        wGet (lenS t18) H fun t20 H =>
        wGet (binA .sub t20 (.val (.int .i64 1))) H fun t21 H =>
        wLoop 1 (fun I1 => I1 t21 H) fun I1 t9 H =>
          wGet (lenS a0) H fun t25 H =>
          wGet (binA .lss t9 t25) H fun t26 H =>
          wIf t26 (
            wJoin 1 (fun J2 =>
              wGet (idxStr a0 t9) H fun t29 H =>
              wGet (idxStr t18 t21) H fun t32 H =>
              wGet (binA .neq t29 t32) H fun t33 H =>
              wIf t33 (
                wGet (binA .add t9 (.val (.int .i64 1))) H fun t36 H =>
                wGet (sliceS a0 (some t36) none) H fun t37 H =>
                wGet (idxStr t18 t21) H fun t40 H =>
                wCall E P 21 [t37, t40] H fun t41 H =>
                wGet (binA .lss t41 (.val (.int .i64 0))) H fun t43 H =>
                wIf t43 (
                  R (.val (.int .i64 (-1))) H) (
                  wGet (binA .add t41 (.val (.int .i64 1))) H fun t46 H =>
                  wGet (binA .add t9 t46) H fun t47 H =>
                  J2 t47 H)) (
                J2 t9 H)) fun t9_1 H =>
              wLoop 1 (fun I3 => I3 (.val (.int .i64 1)) H) fun I3 t12 H =>
                wGet (lenS t18) H fun t50 H =>
                wGet (binA .lss t12 t50) H fun t51 H =>
                wIf t51 (
                  wGet (binA .sub t9_1 t12) H fun t57 H =>
                  wGet (idxStr a0 t57) H fun t58 H =>
                  wGet (binA .sub t21 t12) H fun t62 H =>
                  wGet (idxStr t18 t62) H fun t63 H =>
                  wGet (binA .neq t58 t63) H fun t64 H =>
                  wIf t64 (
                    False) (
                    wGet (binA .add t12 (.val (.int .i64 1))) H fun t53 H =>
                    I3 t53 H)) (
                  wGet (binA .sub t9_1 t21) H fun t67 H =>
                  R t67 H)) (
            R (.val (.int .i64 (-1))) H))))

/-- (signalbox/expr.Or).Text -/
def expr_Or_Text (E : Env) (P : Program) (a0 : AV) (H : AH) (R : Kt) : Prop :=
  wCall E P 146 [(.ifc 8 a0), (.val (.int .i64 0))] H fun t5 H =>
  R t5 H

/-- signalbox/expr.write -/
def expr_write (E : Env) (P : Program) (a0 a1 : AV) (H : AH) (R : Kt) : Prop :=
  wGet (assertA 11 (.val (.bool false)) a0) H fun t13 H =>
  wGet (extractA t13 1) H fun t14 H =>
  wGet (extractA t13 0) H fun t15 H =>
  wIf t14 (
    wIf t15 (
      R (.val (.string ⟨#[49]⟩)) H) (
      R (.val (.string ⟨#[48]⟩)) H)) (
    wGet (assertA 14 (.val (.string ⟨#[]⟩)) a0) H fun t17 H =>
    wGet (extractA t17 1) H fun t18 H =>
    wGet (extractA t17 0) H fun t19 H =>
    wIf t18 (
      R t19 H) (
      wGet (assertA 12 (.val (.string ⟨#[]⟩)) a0) H fun t21 H =>
      wGet (extractA t21 1) H fun t22 H =>
      wGet (extractA t21 0) H fun t23 H =>
      wIf t22 (
        wGet (binA .add (.val (.string ⟨#[94]⟩)) t23) H fun t25 H =>
        R t25 H) (
        wGet (assertA 13 (.val (.string ⟨#[]⟩)) a0) H fun t26 H =>
        wGet (extractA t26 1) H fun t27 H =>
        wGet (extractA t26 0) H fun t28 H =>
        wIf t27 (
          wGet (binA .add (.val (.string ⟨#[126]⟩)) t28) H fun t30 H =>
          R t30 H) (
          wGet (assertA 10 (.agg [(.val (.nilIface))]) a0) H fun t31 H =>
          wGet (extractA t31 1) H fun t32 H =>
          wGet (extractA t31 0) H fun t33 H =>
          wIf t32 (
            wNew 1 (some [(.val (.nilIface))]) H fun t9 H =>
            wPut (storeN 1 t9 t33 H) fun _u H =>
            wGet (faddr 0 t9) H fun t34 H =>
            wGet (load1 t34 H) H fun t35 H =>
            wCall E P 146 [t35, (.val (.int .i64 2))] H fun t36 H =>
            wGet (binA .add (.val (.string ⟨#[33]⟩)) t36) H fun t37 H =>
            R t37 H) (
            wGet (assertA 9 (.val (.slice none 0 0)) a0) H fun t38 H =>
            wGet (extractA t38 1) H fun t39 H =>
            wGet (extractA t38 0) H fun t40 H =>
            wIf t39 (
              wGet (binA .geq a1 (.val (.int .i64 2))) H fun t43 H =>
              wCall E P 148 [t40, (.val (.string ⟨#[32, 38, 32]⟩)), (.val (.int .i64 2)), t43] H fun t44 H =>
              R t44 H) (
              wGet (assertA 8 (.val (.slice none 0 0)) a0) H fun t45 H =>
              wGet (extractA t45 1) H fun t46 H =>
              wGet (extractA t45 0) H fun t47 H =>
              wIf t46 (
                wGet (binA .geq a1 (.val (.int .i64 1))) H fun t50 H =>
                wCall E P 148 [t47, (.val (.string ⟨#[32, 124, 32]⟩)), (.val (.int .i64 1)), t50] H fun t51 H =>
                R t51 H) (
                R (.val (.string ⟨#[]⟩)) H)))))))

/-- signalbox/expr.join -/
def expr_join (E : Env) (P : Program) (a0 a1 a2 a3 : AV) (H : AH) (R : Kt) : Prop :=
  wGet (lenA a0) H fun t13 H =>
  wLoop 2 (fun I1 => I1 (.val (.slice none 0 0)) (.val (.int .i64 0)) H) fun I1 t9 t14 H =>
    wGet (binA .lss t14 t13) H fun t15 H =>
    wIf t15 (
      wGet (iaddr 1 a0 t14) H fun t16 H =>
      wGet (load1 t16 H) H fun t17 H =>
      wCall E P 146 [t17, a2] H fun t21 H =>
      wNewS 1 1 (fillA (List.replicate 1 [(.val (.string ⟨#[]⟩))]).flatten [(0, 1, t21)]) H fun t22 H =>
      wApp 1 16 t9 t22 H fun t23 H =>
      wGet (binA .add t14 (.val (.int .i64 1))) H fun t24 H =>
      I1 t23 t24 H) (
      wIf a3 (
        wCall E P 118 [t9, a1] H fun t28 H =>
        wGet (binA .add (.val (.string ⟨#[40]⟩)) t28) H fun t29 H =>
        wGet (binA .add t29 (.val (.string ⟨#[41]⟩))) H fun t30 H =>
        R t30 H) (
        wCall E P 118 [t9, a1] H fun t33 H =>
        R t33 H))

/-- (signalbox/expr.And).Text -/
def expr_And_Text (E : Env) (P : Program) (a0 : AV) (H : AH) (R : Kt) : Prop :=
  wCall E P 146 [(.ifc 9 a0), (.val (.int .i64 0))] H fun t5 H =>
  R t5 H

/-- (signalbox/expr.Not).Text -/
def expr_Not_Text (E : Env) (P : Program) (a0 : AV) (H : AH) (R : Kt) : Prop :=
  wNew 1 (AV.cells? a0) H fun t1 H =>
  wGet (loadN 1 t1 H) H fun t3 H =>
  wCall E P 146 [(.ifc 10 t3), (.val (.int .i64 0))] H fun t5 H =>
  R t5 H

/-- (signalbox/expr.Const).Text -/
def expr_Const_Text (E : Env) (P : Program) (a0 : AV) (H : AH) (R : Kt) : Prop :=
  wCall E P 146 [(.ifc 11 a0), (.val (.int .i64 0))] H fun t5 H =>
  R t5 H

/-- (signalbox/expr.Rise).Text -/
def expr_Rise_Text (E : Env) (P : Program) (a0 : AV) (H : AH) (R : Kt) : Prop :=
  wCall E P 146 [(.ifc 12 a0), (.val (.int .i64 0))] H fun t5 H =>
  R t5 H

/-- (signalbox/expr.Fall).Text -/
def expr_Fall_Text (E : Env) (P : Program) (a0 : AV) (H : AH) (R : Kt) : Prop :=
  wCall E P 146 [(.ifc 13 a0), (.val (.int .i64 0))] H fun t5 H =>
  R t5 H

/-- (signalbox/expr.Bit).Text -/
def expr_Bit_Text (E : Env) (P : Program) (a0 : AV) (H : AH) (R : Kt) : Prop :=
  wCall E P 146 [(.ifc 14 a0), (.val (.int .i64 0))] H fun t5 H =>
  R t5 H

end Go.Sc.F
namespace Go.Sc
open Go
set_option linter.unusedSimpArgs false
set_option linter.unusedVariables false
set_option linter.unnecessarySimpa false
structure RuneBodies (E : Env) (P : Program) : Prop where
  ib : ∀ (s : Str) (c : UInt8), FX E P 21 [S s, By c] (Z (idx s c))
  ir : Body2 E P 19 F.strings_IndexRune_ScV11
  cr : Body2 E P 16 F.strings_ContainsRune
  vr : Body1 E P 22 F.unicode_utf8_ValidRune
section
variable {E : Env} {P : Program}
end
/-! ### the program's reader -/
def rd (s : Str) (i : Nat) : List AV := [S s, Z i]
theorem rd_closed (s : Str) (i : Nat) : AV.closedL (rd s i) := ⟨trivial, trivial, trivial⟩
structure ReadBodies (E : Env) (P : Program) : Prop where
  n : NameBodies E P
  r : RuneBodies E P
  blanks : Body1 E P 134 F.pexpr_reader_blanks
  fail : Body2 E P 135 F.pexpr_reader_fail
  take : Body2 E P 143 F.pexpr_reader_take
  word : Body1 E P 145 F.pexpr_reader_word
section
variable {E : Env} {P : Program}
theorem at_some {s : Str} {i : Nat} (h : i < s.length) : s[i]? = some s[i] := List.getElem?_eq_getElem h
theorem at_eq {s : Str} {i : Nat} (h : i < s.length) {c : UInt8} : s[i]? = some c ↔ (s[i].toNat : Int) = c.toNat := by
  rw [at_some h]
  constructor
  · intro e; injection e with e; rw [e]
  · intro e; rw [show s[i] = c from UInt8.toNat_inj.1 (by omega)]
theorem blanks_spec (B : ReadBodies E P) (s : Str) (i : Nat) (hi : i ≤ s.length) (hs : s.length < 1000000) : PC E P 134 2 (rd s i) (fun b g => [.ptrL b 0 g]) (fun r cs => r = .tup [] ∧ cs = rd s (skipTo s i)) := by
  refine PC.of (fun _ _ => rfl) (rd_closed s i) (by rintro r cs ⟨rfl, rfl⟩; exact ⟨trivial, rd_closed _ _⟩) fun n g R hR => B.blanks _ _ _ ?_
  unfold F.pexpr_reader_blanks
  refine wLoop.zero (fun m H => ∃ j c, m = s.length - j ∧ j ≤ s.length ∧ skipTo s j = skipTo s i ∧ H = ⟨[.cells g 2 [S s, Z j]], c⟩) (s.length - i) (gh0.mk ⟨i, n, rfl, hi, rfl, rfl⟩) ?_
  rintro m H ⟨j, c, rfl, hj, he, rfl⟩
  simp only [nd0, Y1n, Y1o, Y1p, Y1q, Y1w, Y1x, Y1y, Y1z, Y20, Y21, Y28, Y2a, AV.cells?, Nat.reduceAdd, Nat.reduceMul]
  by_cases h : j < s.length
  · simp only [nd0, Y1n, Y1o, Y1p, Y1q, Y1w, Y1x, Y1y, Y1z, Y20, Y21, Y28, Y2a, AV.cells?, Nat.reduceAdd, Nat.reduceMul, decide_eq_true (show (j : Int) < (s.length : Int) by omega)]
    rw [idxS h]
    simp only [nd0, Y1n, Y1o, Y1p, Y1q, Y1w, Y1x, Y1y, Y1z, Y20, Y21, Y28, Y2a, AV.cells?, Nat.reduceAdd, Nat.reduceMul]
    by_cases h2 : (s[j].toNat : Int) = 32
    · simp only [nd0, Y1n, Y1o, Y1p, Y1q, Y1w, Y1x, Y1y, Y1z, Y20, Y21, Y28, Y2a, AV.cells?, Nat.reduceAdd, Nat.reduceMul, decide_eq_true h2]
      rw [binA_succ (by omega)]
      simp only [nd0, Y1n, Y1o, Y1p, Y1q, Y1w, Y1x, Y1y, Y1z, Y20, Y21, Y28, Y2a, AV.cells?, Nat.reduceAdd, Nat.reduceMul]
      rw [store1_L rfl]
      simp only [nd0, Y1n, Y1o, Y1p, Y1q, Y1w, Y1x, Y1y, Y1z, Y20, Y21, Y28, Y2a, AV.cells?, Nat.reduceAdd, Nat.reduceMul, Nat.reduceLT]
      refine back0.mk (s.length - (j + 1)) (by omega) ⟨j + 1, c, rfl, by omega, ?_, rfl⟩
      rw [← he]
      exact (skipTo_step ((at_eq h).2 h2)).symm
    · simp only [nd0, Y1n, Y1o, Y1p, Y1q, Y1w, Y1x, Y1y, Y1z, Y20, Y21, Y28, Y2a, AV.cells?, Nat.reduceAdd, Nat.reduceMul, decide_eq_false h2]
      refine hR _ _ (rd s j) [] c (.same _) ⟨rfl, ?_⟩
      rw [← he, skipTo_stop (fun e => h2 ((at_eq h).1 e))]
  · simp only [nd0, Y1n, Y1o, Y1p, Y1q, Y1w, Y1x, Y1y, Y1z, Y20, Y21, Y28, Y2a, AV.cells?, Nat.reduceAdd, Nat.reduceMul, decide_eq_false (show ¬ (j : Int) < (s.length : Int) by omega)]
    refine hR _ _ (rd s j) [] c (.same _) ⟨rfl, ?_⟩
    rw [← he, skipTo_stop (by rw [List.getElem?_eq_none (by omega)]; simp)]
theorem take_spec (B : ReadBodies E P) (s : Str) (i : Nat) (ch : UInt8) (hi : i ≤ s.length) (hs : s.length < 1000000) : PC E P 143 2 (rd s i) (fun b g => [.ptrL b 0 g, By ch]) (fun r cs => r = Bo (decide (s[skipTo s i]? = some ch)) ∧ cs = rd s (if s[skipTo s i]? = some ch then skipTo s i + 1 else skipTo s i)) := by
  refine PC.of (fun _ _ => rfl) (rd_closed s i) (by rintro r cs ⟨rfl, rfl⟩; exact ⟨trivial, rd_closed _ _⟩) fun n g R hR => B.take _ _ _ _ ?_
  unfold F.pexpr_reader_take
  refine wCall.pc (b := 0) (blanks_spec B s i hi hs) rfl rfl ?_
  rintro r cs n ⟨rfl, rfl⟩
  have hk := skipTo_len hi
  generalize skipTo s i = k at hk hR
  unfold rd
  simp only [nd0, Y1n, Y1o, Y1p, Y1q, Y1w, Y1x, Y1y, Y1z, Y20, Y21, Y28, Y2a, AV.cells?, Nat.reduceAdd, Nat.reduceMul]
  by_cases h : k < s.length
  · simp only [nd0, Y1n, Y1o, Y1p, Y1q, Y1w, Y1x, Y1y, Y1z, Y20, Y21, Y28, Y2a, AV.cells?, Nat.reduceAdd, Nat.reduceMul, decide_eq_true (show (k : Int) < (s.length : Int) by omega)]
    rw [idxS h]
    simp only [nd0, Y1n, Y1o, Y1p, Y1q, Y1w, Y1x, Y1y, Y1z, Y20, Y21, Y28, Y2a, AV.cells?, Nat.reduceAdd, Nat.reduceMul]
    by_cases h2 : (s[k].toNat : Int) = ch.toNat
    · simp only [nd0, Y1n, Y1o, Y1p, Y1q, Y1w, Y1x, Y1y, Y1z, Y20, Y21, Y28, Y2a, AV.cells?, Nat.reduceAdd, Nat.reduceMul, decide_eq_true h2]
      rw [binA_succ (by omega)]
      simp only [nd0, Y1n, Y1o, Y1p, Y1q, Y1w, Y1x, Y1y, Y1z, Y20, Y21, Y28, Y2a, AV.cells?, Nat.reduceAdd, Nat.reduceMul]
      rw [store1_L rfl]
      simp only [nd0, Y1n, Y1o, Y1p, Y1q, Y1w, Y1x, Y1y, Y1z, Y20, Y21, Y28, Y2a, AV.cells?, Nat.reduceAdd, Nat.reduceMul, Nat.reduceLT]
      have h3 := (at_eq h).2 h2
      refine hR _ _ (rd s (k + 1)) [] n (.same _) ?_
      rw [if_pos h3, decide_eq_true h3]
      exact ⟨rfl, rfl⟩
    · simp only [nd0, Y1n, Y1o, Y1p, Y1q, Y1w, Y1x, Y1y, Y1z, Y20, Y21, Y28, Y2a, AV.cells?, Nat.reduceAdd, Nat.reduceMul, decide_eq_false h2]
      have h3 : ¬ s[k]? = some ch := fun e => h2 ((at_eq h).1 e)
      refine hR _ _ (rd s k) [] n (.same _) ?_
      rw [if_neg h3, decide_eq_false h3]
      exact ⟨rfl, rfl⟩
  · simp only [nd0, Y1n, Y1o, Y1p, Y1q, Y1w, Y1x, Y1y, Y1z, Y20, Y21, Y28, Y2a, AV.cells?, Nat.reduceAdd, Nat.reduceMul, decide_eq_false (show ¬ (k : Int) < (s.length : Int) by omega)]
    have h3 : ¬ s[k]? = some ch := by rw [List.getElem?_eq_none (by omega)]; simp
    refine hR _ _ (rd s k) [] n (.same _) ?_
    rw [if_neg h3, decide_eq_false h3]
    exact ⟨rfl, rfl⟩
theorem fail_spec (B : ReadBodies E P) (s : Str) (i e : Nat) (hi : i ≤ s.length) (hs : s.length < 1000000) : PC E P 135 2 (rd s i) (fun b g => [.ptrL b 0 g, Z e]) (fun r cs => r = At e (skipTo s i) ∧ cs = rd s (skipTo s i)) := by
  refine PC.of (fun _ _ => rfl) (rd_closed s i) (by rintro r cs ⟨rfl, rfl⟩; exact ⟨At_closed _ _, rd_closed _ _⟩) fun n g R hR => B.fail _ _ _ _ ?_
  unfold F.pexpr_reader_fail
  refine wCall.pc (b := 0) (blanks_spec B s i hi hs) rfl rfl ?_
  rintro r cs n ⟨rfl, rfl⟩
  generalize skipTo s i = k at hR
  unfold rd
  simp only [nd0, Y1n, Y1o, Y1p, Y1q, Y1w, Y1x, Y1y, Y1z, Y20, Y21, Y28, Y2a, AV.cells?, Nat.reduceAdd, Nat.reduceMul, show fillA [Z 0, Z 0] [(0, 1, Z e), (1, 1, Z k)] = some [Z e, Z k] from rfl]
  refine wNew.F' (l := [Z e, Z k]) rfl ?_
  exact hR _ _ (rd s k) [] n (.same _) ⟨rfl, rfl⟩
theorem mem11 {c : UInt8} : c ∈ stop11 ↔ c ∈ stop9 ∨ c = 48 ∨ c = 49 := by
  simp only [stop11, stop9, List.mem_cons, List.not_mem_nil, or_false]
  constructor
  · rintro (h | h | h | h | h | h | h | h | h | h | h) <;> simp [h]
  · rintro ((h | h | h | h | h | h | h | h | h) | h | h) <;> simp [h]
theorem byk {c : UInt8} {n : Nat} (hn : n < 256) : ((c.toNat : Int) = n) ↔ c = UInt8.ofNat n := by
  constructor
  · intro h
    apply UInt8.toNat_inj.1
    rw [UInt8.toNat_ofNat']
    omega
  · rintro rfl
    rw [UInt8.toNat_ofNat']
    omega
theorem word_cond (B : ReadBodies E P) {s : Str} {k j g c : Nat} {K : Kt} (hkj : k ≤ j) (hj : j ≤ s.length) (hs : s.length < 1000000) (h : ∀ c, K (Bo (wc s k j)) ⟨[.cells g 2 [S s, Z k]], c⟩) :
  wGet (nilA (.ptrL 0 0 g)) ⟨[.cells g 2 [S s, Z k]], c⟩ fun t14 H =>
  wGet (faddr 0 t14) H fun t15 H =>
  wGet (load1 t15 H) H fun t16 H =>
  wGet (lenS t16) H fun t17 H =>
  wGet (binA .lss (Z j) t17) H fun t18 H =>
  wGuard t18 true H (fun k => k (.ptrL 0 0 g) H) fun t20 H =>
  wGuard t18 true H (fun k => wGet (nilA t20) H k) fun t21 H =>
  wGuard t18 true H (fun k => wGet (faddr 0 t21) H k) fun t22 H =>
  wGuard t18 true H (fun k => wGet (load1 t22 H) H k) fun t23 H =>
  wGuard t18 true H (fun k => k (Z j) H) fun t24 H =>
  wGuard t18 true H (fun k => wGet (idxStr t23 t24) H k) fun t25 H =>
  wGuard t18 true H (fun k => wCall E P 21 [(.val (.string ⟨#[32, 38, 124, 33, 94, 126, 40, 41, 48, 49, 61]⟩)), t25] H k) fun t26 H =>
  wGuard t18 true H (fun k => wGet (binA .lss t26 (.val (.int .i64 0))) H k) fun t27 H =>
  wGet (pickA t18 t27 (.val (.bool false))) H fun t28 H =>
  wGuard t28 false H (fun k => k (Z j) H) fun t30 H =>
  wGuard t28 false H (fun k => k (.ptrL 0 0 g) H) fun t31 H =>
  wGuard t28 false H (fun k => wGet (nilA t31) H k) fun t32 H =>
  wGuard t28 false H (fun k => wGet (faddr 1 t32) H k) fun t33 H =>
  wGuard t28 false H (fun k => wGet (load1 t33 H) H k) fun t34 H =>
  wGuard t28 false H (fun k => wGet (binA .gtr t30 t34) H k) fun t35 H =>
  wGuard t28 false H (fun k => k t35 H) fun t36 H =>
  wGuard t36 true H (fun k => k (Z j) H) fun t37 H =>
  wGuard t36 true H (fun k => k (.ptrL 0 0 g) H) fun t38 H =>
  wGuard t36 true H (fun k => wGet (nilA t38) H k) fun t39 H =>
  wGuard t36 true H (fun k => wGet (faddr 0 t39) H k) fun t40 H =>
  wGuard t36 true H (fun k => wGet (load1 t40 H) H k) fun t41 H =>
  wGuard t36 true H (fun k => wGet (lenS t41) H k) fun t42 H =>
  wGuard t36 true H (fun k => wGet (binA .lss t37 t42) H k) fun t43 H =>
  wGuard t28 false H (fun k => wGet (pickA t36 t43 (.val (.bool false))) H k) fun t44 H =>
  wGuard t28 false H (fun k => k t44 H) fun t45 H =>
  wGuard t45 true H (fun k => k (.ptrL 0 0 g) H) fun t46 H =>
  wGuard t45 true H (fun k => wGet (nilA t46) H k) fun t47 H =>
  wGuard t45 true H (fun k => wGet (faddr 0 t47) H k) fun t48 H =>
  wGuard t45 true H (fun k => wGet (load1 t48 H) H k) fun t49 H =>
  wGuard t45 true H (fun k => k (Z j) H) fun t50 H =>
  wGuard t45 true H (fun k => wGet (idxStr t49 t50) H k) fun t51 H =>
  wGuard t45 true H (fun k => wGet (binA .eql t51 (.val (.int .u8 48))) H k) fun t52 H =>
  wGuard t45 true H (fun k => k t52 H) fun t53 H =>
  wGuard t53 false H (fun k => k (.ptrL 0 0 g) H) fun t54 H =>
  wGuard t53 false H (fun k => wGet (nilA t54) H k) fun t55 H =>
  wGuard t53 false H (fun k => wGet (faddr 0 t55) H k) fun t56 H =>
  wGuard t53 false H (fun k => wGet (load1 t56 H) H k) fun t57 H =>
  wGuard t53 false H (fun k => k (Z j) H) fun t58 H =>
  wGuard t53 false H (fun k => wGet (idxStr t57 t58) H k) fun t59 H =>
  wGuard t53 false H (fun k => wGet (binA .eql t59 (.val (.int .u8 49))) H k) fun t60 H =>
  wGuard t45 true H (fun k => wGet (pickA t53 (.val (.bool true)) t60) H k) fun t61 H =>
  wGuard t28 false H (fun k => wGet (pickA t45 t61 (.val (.bool false))) H k) fun t62 H =>
  wGet (pickA t28 (.val (.bool true)) t62) H K := by
  simp only [nd0, Y1n, Y1o, Y1p, Y1q, Y1w, Y1x, Y1y, Y1z, Y20, Y21, Y28, Y2a, AV.cells?, Nat.reduceAdd, Nat.reduceMul]
  by_cases hl : j < s.length
  · have hat := at_some hl
    simp only [nd0, Y1n, Y1o, Y1p, Y1q, Y1w, Y1x, Y1y, Y1z, Y20, Y21, Y28, Y2a, AV.cells?, Nat.reduceAdd, Nat.reduceMul, decide_eq_true (show (j : Int) < (s.length : Int) by omega)]
    rw [idxS hl]
    simp only [nd0, Y1n, Y1o, Y1p, Y1q, Y1w, Y1x, Y1y, Y1z, Y20, Y21, Y28, Y2a, AV.cells?, Nat.reduceAdd, Nat.reduceMul]
    refine wCall.fx (B.r.ib stop11 s[j]) fun n2 => ?_
    simp only [nd0, Y1n, Y1o, Y1p, Y1q, Y1w, Y1x, Y1y, Y1z, Y20, Y21, Y28, Y2a, AV.cells?, Nat.reduceAdd, Nat.reduceMul]
    by_cases hm : s[j] ∈ stop11
    · simp only [nd0, Y1n, Y1o, Y1p, Y1q, Y1w, Y1x, Y1y, Y1z, Y20, Y21, Y28, Y2a, AV.cells?, Nat.reduceAdd, Nat.reduceMul, decide_eq_false (show ¬ idx stop11 s[j] < 0 from fun e => idx_neg.1 e hm)]
      by_cases hjk : k < j
      · simp only [nd0, Y1n, Y1o, Y1p, Y1q, Y1w, Y1x, Y1y, Y1z, Y20, Y21, Y28, Y2a, AV.cells?, Nat.reduceAdd, Nat.reduceMul, decide_eq_true (show (k : Int) < (j : Int) by omega), decide_eq_true (show (j : Int) < (s.length : Int) by omega)]
        rw [idxS hl]
        simp only [nd0, Y1n, Y1o, Y1p, Y1q, Y1w, Y1x, Y1y, Y1z, Y20, Y21, Y28, Y2a, AV.cells?, Nat.reduceAdd, Nat.reduceMul]
        by_cases h48 : (s[j].toNat : Int) = 48
        · simp only [nd0, Y1n, Y1o, Y1p, Y1q, Y1w, Y1x, Y1y, Y1z, Y20, Y21, Y28, Y2a, AV.cells?, Nat.reduceAdd, Nat.reduceMul, decide_eq_true h48]
          have e := (byk (n := 48) (by omega)).1 h48
          have : wc s k j = true := by simp only [wc, hat, e]; simp [stop9, hjk]
          rw [this] at h
          exact h _
        · simp only [nd0, Y1n, Y1o, Y1p, Y1q, Y1w, Y1x, Y1y, Y1z, Y20, Y21, Y28, Y2a, AV.cells?, Nat.reduceAdd, Nat.reduceMul, decide_eq_false h48]
          rw [idxS hl]
          simp only [nd0, Y1n, Y1o, Y1p, Y1q, Y1w, Y1x, Y1y, Y1z, Y20, Y21, Y28, Y2a, AV.cells?, Nat.reduceAdd, Nat.reduceMul]
          by_cases h49 : (s[j].toNat : Int) = 49
          · simp only [nd0, Y1n, Y1o, Y1p, Y1q, Y1w, Y1x, Y1y, Y1z, Y20, Y21, Y28, Y2a, AV.cells?, Nat.reduceAdd, Nat.reduceMul, decide_eq_true h49]
            have e := (byk (n := 49) (by omega)).1 h49
            have : wc s k j = true := by simp only [wc, hat, e]; simp [stop9, hjk]
            rw [this] at h
            exact h _
          · simp only [nd0, Y1n, Y1o, Y1p, Y1q, Y1w, Y1x, Y1y, Y1z, Y20, Y21, Y28, Y2a, AV.cells?, Nat.reduceAdd, Nat.reduceMul, decide_eq_false h49]
            have h9 : s[j] ∈ stop9 := (mem11.1 hm).resolve_right (by
              rintro (e | e)
              · exact h48 ((byk (n := 48) (by omega)).2 e)
              · exact h49 ((byk (n := 49) (by omega)).2 e))
            have : wc s k j = false := by simp only [wc, hat, decide_eq_true h9]; simp
            rw [this] at h
            exact h _
      · simp only [nd0, Y1n, Y1o, Y1p, Y1q, Y1w, Y1x, Y1y, Y1z, Y20, Y21, Y28, Y2a, AV.cells?, Nat.reduceAdd, Nat.reduceMul, decide_eq_false (show ¬ (k : Int) < (j : Int) by omega)]
        have : wc s k j = false := by
          simp only [wc, hat, decide_eq_false hjk]
          rcases mem11.1 hm with h9 | h9 | h9
          · simp [h9]
          · simp [h9]
          · simp [h9]
        rw [this] at h
        exact h _
    · simp only [nd0, Y1n, Y1o, Y1p, Y1q, Y1w, Y1x, Y1y, Y1z, Y20, Y21, Y28, Y2a, AV.cells?, Nat.reduceAdd, Nat.reduceMul, decide_eq_true (show idx stop11 s[j] < 0 from idx_neg.2 hm)]
      have : wc s k j = true := by
        simp only [wc, hat]
        have := fun e => hm (mem11.2 e)
        have h9 : s[j] ∉ stop9 := fun e => this (.inl e)
        have h48 : s[j] ≠ 48 := fun e => this (.inr (.inl e))
        have h49 : s[j] ≠ 49 := fun e => this (.inr (.inr e))
        simp [h9, h48, h49]
      rw [this] at h
      exact h _
  · have : wc s k j = false := by
      cases hw : wc s k j
      · rfl
      · exact absurd (wc_lt hw) hl
    rw [this] at h
    simp only [nd0, Y1n, Y1o, Y1p, Y1q, Y1w, Y1x, Y1y, Y1z, Y20, Y21, Y28, Y2a, AV.cells?, Nat.reduceAdd, Nat.reduceMul, decide_eq_false (show ¬ (j : Int) < (s.length : Int) by omega)]
    by_cases hjk : k < j
    · simp only [nd0, Y1n, Y1o, Y1p, Y1q, Y1w, Y1x, Y1y, Y1z, Y20, Y21, Y28, Y2a, AV.cells?, Nat.reduceAdd, Nat.reduceMul, decide_eq_true (show (k : Int) < (j : Int) by omega), decide_eq_false (show ¬ (j : Int) < (s.length : Int) by omega)]
      exact h _
    · simp only [nd0, Y1n, Y1o, Y1p, Y1q, Y1w, Y1x, Y1y, Y1z, Y20, Y21, Y28, Y2a, AV.cells?, Nat.reduceAdd, Nat.reduceMul, decide_eq_false (show ¬ (k : Int) < (j : Int) by omega)]
      exact h _
/-- the name at a place, if it may be one -/
theorem word_spec (B : ReadBodies E P) (s : Str) (i : Nat) (hi : i ≤ s.length) (hs : s.length < 1000000) : PC E P 145 2 (rd s i) (fun b g => [.ptrL b 0 g]) (fun r cs => match wordR s i with
    | .ok w j => r = .tup [S w, nilE] ∧ cs = rd s j
    | .no e p => r = .tup [S [], At e p] ∧ ∃ j, cs = rd s j) := by
  refine PC.of (fun _ _ => rfl) (rd_closed s i) ?_ fun n g R hR => B.word _ _ _ ?_
  · intro r cs h
    cases hw : wordR s i with
    | ok w j => rw [hw] at h; obtain ⟨rfl, rfl⟩ := h; exact ⟨⟨trivial, trivial, trivial⟩, rd_closed _ _⟩
    | no e p => rw [hw] at h; obtain ⟨rfl, j, rfl⟩ := h; exact ⟨⟨trivial, At_closed _ _, trivial⟩, rd_closed _ _⟩
  unfold F.pexpr_reader_word
  refine wCall.pc (b := 0) (blanks_spec B s i hi hs) rfl rfl ?_
  rintro r cs n ⟨rfl, rfl⟩
  have hk := skipTo_len hi
  have hid := skipTo_idem s i
  unfold wordR at hR
  generalize skipTo s i = k at hk hR hid
  refine wGet_some.2 (wGet_some.2 ⟨⟨Z k, by simp [load1, AH.cells, rd], ?_⟩⟩)
  have hwe := wEnd_ge s k k
  have hwl := wEnd_len (i := k) hk
  refine wLoop.one (fun m t H => ∃ j c, m = s.length - j ∧ k ≤ j ∧ j ≤ s.length ∧ wEnd s k j = wEnd s k k ∧ t = Z j ∧ H = ⟨[.cells g 2 [S s, Z k]], c⟩) (s.length - k) (gh1.mk ⟨k, n, rfl, Nat.le_refl _, hk, rfl, rfl, rfl⟩) ?_
  rintro m t H ⟨j, c, rfl, hkj, hj, he, rfl, rfl⟩
  refine word_cond B hkj hj hs fun c => ?_
  cases hw : wc s k j with
  | true =>
    have := wc_lt hw
    simp only [nd0, Y1n, Y1o, Y1p, Y1q, Y1w, Y1x, Y1y, Y1z, Y20, Y21, Y28, Y2a, AV.cells?, Nat.reduceAdd, Nat.reduceMul]
    rw [binA_succ (by omega)]
    simp only [nd0, Y1n, Y1o, Y1p, Y1q, Y1w, Y1x, Y1y, Y1z, Y20, Y21, Y28, Y2a, AV.cells?, Nat.reduceAdd, Nat.reduceMul]
    exact back1.mk (s.length - (j + 1)) (by omega) ⟨j + 1, c, rfl, by omega, by omega, by rw [← he, wEnd_step hw], rfl, rfl⟩
  | false =>
    simp only [nd0, Y1n, Y1o, Y1p, Y1q, Y1w, Y1x, Y1y, Y1z, Y20, Y21, Y28, Y2a, AV.cells?, Nat.reduceAdd, Nat.reduceMul]
    rw [wEnd_stop hw] at he
    rw [sliceS_S (l := k) (h := j) rfl rfl (by omega) (by omega) (by omega)]
    have hwd : (s.take ((j : Int)).toNat).drop ((k : Int)).toNat = wordAt s k := by
      rw [wordAt, ← he]; simp
    rw [hwd]
    simp only [nd0, Y1n, Y1o, Y1p, Y1q, Y1w, Y1x, Y1y, Y1z, Y20, Y21, Y28, Y2a, AV.cells?, Nat.reduceAdd, Nat.reduceMul, show (AV.val (.string ⟨#[]⟩)) = S [] from rfl]
    by_cases h1 : wordAt s k = []
    · rw [if_pos h1] at hR
      simp only [nd0, Y1n, Y1o, Y1p, Y1q, Y1w, Y1x, Y1y, Y1z, Y20, Y21, Y28, Y2a, AV.cells?, Nat.reduceAdd, Nat.reduceMul, decide_eq_true h1]
      refine wCall.pc (b := 0) (fail_spec B s k 3 hk hs) rfl rfl ?_
      rintro r cs n ⟨rfl, rfl⟩
      exact hR _ _ _ [] n (.same _) ⟨by rw [hid], _, rfl⟩
    · rw [if_neg h1] at hR
      simp only [nd0, Y1n, Y1o, Y1p, Y1q, Y1w, Y1x, Y1y, Y1z, Y20, Y21, Y28, Y2a, AV.cells?, Nat.reduceAdd, Nat.reduceMul, decide_eq_false h1]
      refine wCall.fx (Name_spec B.n (wordAt s k)) fun n => ?_
      simp only [nd0, Y1n, Y1o, Y1p, Y1q, Y1w, Y1x, Y1y, Y1z, Y20, Y21, Y28, Y2a, AV.cells?, Nat.reduceAdd, Nat.reduceMul]
      by_cases h2 : nameOk (wordAt s k) = false
      · rw [if_pos h2] at hR
        simp only [nd0, Y1n, Y1o, Y1p, Y1q, Y1w, Y1x, Y1y, Y1z, Y20, Y21, Y28, Y2a, AV.cells?, Nat.reduceAdd, Nat.reduceMul, h2]
        refine wCall.pc (b := 0) (fail_spec B s k 5 hk hs) rfl rfl ?_
        rintro r cs n ⟨rfl, rfl⟩
        exact hR _ _ _ [] n (.same _) ⟨by rw [hid], _, rfl⟩
      · rw [if_neg h2] at hR
        simp only [nd0, Y1n, Y1o, Y1p, Y1q, Y1w, Y1x, Y1y, Y1z, Y20, Y21, Y28, Y2a, AV.cells?, Nat.reduceAdd, Nat.reduceMul, show nameOk (wordAt s k) = true by simpa using h2]
        rw [store1_L rfl]
        simp only [nd0, Y1n, Y1o, Y1p, Y1q, Y1w, Y1x, Y1y, Y1z, Y20, Y21, Y28, Y2a, AV.cells?, Nat.reduceAdd, Nat.reduceMul, Nat.reduceLT]
        exact hR _ _ (rd s j) [] n (.same _) ⟨rfl, by rw [← he]⟩
end
end Go.Sc
