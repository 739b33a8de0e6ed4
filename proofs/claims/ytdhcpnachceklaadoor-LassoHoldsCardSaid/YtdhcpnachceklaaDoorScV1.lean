/- of the seat YtdhcpnachceklaaDoor, printed by a program of ours -/
import Derived.Test.YtdhcpnachceklaaDoorScC
namespace Go.Sc.F
open Go Go.Sc
set_option linter.unusedVariables false

/-- signalbox/signalboxlaw.ExprNames -/
def law_ExprNames (E : Env) (P : Program) (a0 : AV) (H : AH) (R : Kt) : Prop :=
  wGet (lenS a0) H fun t4 H =>
  wGet (binA .gtr t4 (.val (.int .i64 50))) H fun t5 H =>
  wGuard t5 false H (fun k => k a0 H) fun t7 H =>
  wGuard t5 false H (fun k => wCall E P 1 [t7] H k) fun t8 H =>
  wGuard t5 false H (fun k => k a0 H) fun t9 H =>
  wGuard t5 false H (fun k => wCall E P 2 [t9] H k) fun t10 H =>
  wGuard t5 false H (fun k => wBool (eqA .bool t8 t10) H false k) fun t11 H =>
  wGet (pickA t5 (.val (.bool true)) t11) H fun t12 H =>
  R t12 H

/-- signalbox/expr.Name -/
def expr_Name (E : Env) (P : Program) (a0 : AV) (H : AH) (R : Kt) : Prop :=
  wGet (binA .neq a0 (.val (.string ⟨#[]⟩))) H fun t4 H =>
  wGuard t4 true H (fun k => k a0 H) fun t6 H =>
  wGuard t4 true H (fun k => wGet (lenS t6) H k) fun t7 H =>
  wGuard t4 true H (fun k => wGet (binA .leq t7 (.val (.int .i64 8))) H k) fun t8 H =>
  wGet (pickA t4 t8 (.val (.bool false))) H fun t9 H =>
  wGuard t9 true H (fun k => k a0 H) fun t11 H =>
  wGuard t9 true H (fun k => wGet (idxStr t11 (.val (.int .i64 0))) H k) fun t12 H =>
  wGuard t9 true H (fun k => wGet (binA .geq t12 (.val (.int .u8 97))) H k) fun t13 H =>
  wGet (pickA t9 t13 (.val (.bool false))) H fun t14 H =>
  wGuard t14 true H (fun k => k a0 H) fun t16 H =>
  wGuard t14 true H (fun k => wGet (idxStr t16 (.val (.int .i64 0))) H k) fun t17 H =>
  wGuard t14 true H (fun k => wGet (binA .leq t17 (.val (.int .u8 122))) H k) fun t18 H =>
  wGet (pickA t14 t18 (.val (.bool false))) H fun t19 H =>
  wGuard t19 true H (fun k => k a0 H) fun t21 H =>
  wGuard t19 true H (fun k => wCall E P 4 [t21, (.val (.string ⟨#[97, 98, 99, 100, 101, 102, 103, 104, 105, 106, 107, 108, 109, 110, 111, 112, 113, 114, 115, 116, 117, 118, 119, 120, 121, 122, 48, 49, 50, 51, 52, 53, 54, 55, 56, 57, 95]⟩))] H k) fun t22 H =>
  wGuard t19 true H (fun k => wGet (binA .eql t22 (.val (.string ⟨#[]⟩))) H k) fun t23 H =>
  wGet (pickA t19 t23 (.val (.bool false))) H fun t24 H =>
  wGuard t24 true H (fun k => wNewS 1 9 (fillA (List.replicate 9 [(.val (.string ⟨#[]⟩))]).flatten [(0, 1, (.val (.string ⟨#[105, 110, 112, 117, 116]⟩))), (1, 1, (.val (.string ⟨#[99, 111, 105, 108]⟩))), (2, 1, (.val (.string ⟨#[116, 105, 109, 101, 114]⟩))), (3, 1, (.val (.string ⟨#[99, 111, 117, 110, 116, 101, 114]⟩))), (4, 1, (.val (.string ⟨#[115, 101, 116]⟩))), (5, 1, (.val (.string ⟨#[114, 101, 115, 101, 116]⟩))), (6, 1, (.val (.string ⟨#[114, 117, 110]⟩))), (7, 1, (.val (.string ⟨#[99, 111, 117, 110, 116]⟩))), (8, 1, (.val (.string ⟨#[122, 101, 114, 111]⟩)))]) H k) fun t26 H =>
  wGuard t24 true H (fun k => k a0 H) fun t27 H =>
  wGuard t24 true H (fun k => wCall E P 5 [t26, t27] H k) fun t28 H =>
  wGuard t24 true H (fun k => wGet (unA .not t28) H k) fun t29 H =>
  wGet (pickA t24 t29 (.val (.bool false))) H fun t30 H =>
  R t30 H

/-- signalbox/signalboxref.NameCheck -/
def ref_NameCheck (E : Env) (P : Program) (a0 : AV) (H : AH) (R : Kt) : Prop :=
  wGet (lenS a0) H fun t7 H =>
  wLoop 1 (fun I1 => I1 (.val (.int .i64 0)) H) fun I1 t8 H =>
    wGet (binA .lss t8 t7) H fun t9 H =>
    wIf t9 (
      wGet (idxStr a0 t8) H fun t13 H =>
      wGet (binA .geq t13 (.val (.int .u8 97))) H fun t15 H =>
      wGuard t15 true H (fun k => k t13 H) fun t17 H =>
      wGuard t15 true H (fun k => wGet (binA .leq t17 (.val (.int .u8 122))) H k) fun t18 H =>
      wGet (pickA t15 t18 (.val (.bool false))) H fun t19 H =>
      wGet (unA .not t19) H fun t21 H =>
      wGuard t21 true H (fun k => k t8 H) fun t23 H =>
      wGuard t21 true H (fun k => wGet (binA .eql t23 (.val (.int .i64 0))) H k) fun t24 H =>
      wGuard t21 true H (fun k => k t24 H) fun t25 H =>
      wGuard t25 false H (fun k => k t13 H) fun t26 H =>
      wGuard t25 false H (fun k => wGet (binA .geq t26 (.val (.int .u8 48))) H k) fun t27 H =>
      wGuard t25 false H (fun k => k t27 H) fun t28 H =>
      wGuard t28 true H (fun k => k t13 H) fun t29 H =>
      wGuard t28 true H (fun k => wGet (binA .leq t29 (.val (.int .u8 57))) H k) fun t30 H =>
      wGuard t25 false H (fun k => wGet (pickA t28 t30 (.val (.bool false))) H k) fun t31 H =>
      wGuard t25 false H (fun k => k t31 H) fun t32 H =>
      wGuard t32 false H (fun k => k t13 H) fun t33 H =>
      wGuard t32 false H (fun k => wGet (binA .eql t33 (.val (.int .u8 95))) H k) fun t34 H =>
      wGuard t25 false H (fun k => wGet (pickA t32 (.val (.bool true)) t34) H k) fun t35 H =>
      wGuard t25 false H (fun k => wGet (unA .not t35) H k) fun t36 H =>
      wGuard t21 true H (fun k => wGet (pickA t25 (.val (.bool true)) t36) H k) fun t37 H =>
      wGet (pickA t21 t37 (.val (.bool false))) H fun t38 H =>
      wIf t38 (
        R (.val (.bool false)) H) (
        wGet (binA .add t8 (.val (.int .i64 1))) H fun t39 H =>
        I1 t39 H)) (
      wJoin 1 (fun J2 =>
        wGet (binA .eql a0 (.val (.string ⟨#[]⟩))) H fun t42 H =>
        wIf t42 (
          J2 t42 H) (
          wGet (binA .eql a0 (.val (.string ⟨#[105, 110, 112, 117, 116]⟩))) H fun t43 H =>
          wIf t43 (
            J2 t43 H) (
            wGet (binA .eql a0 (.val (.string ⟨#[99, 111, 105, 108]⟩))) H fun t44 H =>
            wIf t44 (
              J2 t44 H) (
              wGet (binA .eql a0 (.val (.string ⟨#[116, 105, 109, 101, 114]⟩))) H fun t45 H =>
              wIf t45 (
                J2 t45 H) (
                wGet (binA .eql a0 (.val (.string ⟨#[99, 111, 117, 110, 116, 101, 114]⟩))) H fun t46 H =>
                wIf t46 (
                  J2 t46 H) (
                  wGet (binA .eql a0 (.val (.string ⟨#[115, 101, 116]⟩))) H fun t47 H =>
                  wIf t47 (
                    J2 t47 H) (
                    wGet (binA .eql a0 (.val (.string ⟨#[114, 101, 115, 101, 116]⟩))) H fun t48 H =>
                    wIf t48 (
                      J2 t48 H) (
                      wGet (binA .eql a0 (.val (.string ⟨#[114, 117, 110]⟩))) H fun t49 H =>
                      wIf t49 (
                        J2 t49 H) (
                        wGet (binA .eql a0 (.val (.string ⟨#[99, 111, 117, 110, 116]⟩))) H fun t50 H =>
                        wIf t50 (
                          J2 t50 H) (
                          wGet (binA .eql a0 (.val (.string ⟨#[122, 101, 114, 111]⟩))) H fun t51 H =>
                          J2 t51 H)))))))))) fun t41 H =>
        wIf t41 (
          R (.val (.bool false)) H) (
          wGet (lenS a0) H fun t53 H =>
          wGet (binA .leq t53 (.val (.int .i64 8))) H fun t54 H =>
          R t54 H))

/-- strings.Trim -/
def strings_Trim (E : Env) (P : Program) (a0 a1 : AV) (H : AH) (R : Kt) : Prop :=
  wGet (binA .eql a0 (.val (.string ⟨#[]⟩))) H fun t8 H =>
  wGuard t8 false H (fun k => k a1 H) fun t10 H =>
  wGuard t8 false H (fun k => wGet (binA .eql t10 (.val (.string ⟨#[]⟩))) H k) fun t11 H =>
  wGet (pickA t8 (.val (.bool true)) t11) H fun t12 H =>
  wIf t12 (
    R a0 H) (
    wGet (lenS a1) H fun t15 H =>
    wGet (binA .eql t15 (.val (.int .i64 1))) H fun t16 H =>
    wGuard t16 true H (fun k => k a1 H) fun t18 H =>
    wGuard t16 true H (fun k => wGet (idxStr t18 (.val (.int .i64 0))) H k) fun t19 H =>
    wGuard t16 true H (fun k => wGet (binA .lss t19 (.val (.int .u8 128))) H k) fun t20 H =>
    wGet (pickA t16 t20 (.val (.bool false))) H fun t21 H =>
    wIf t21 (
      wGet (idxStr a1 (.val (.int .i64 0))) H fun t24 H =>
      wGet (idxStr a1 (.val (.int .i64 0))) H fun t27 H =>
      wCall E P 6 [a0, t24] H fun t25 H =>
      wCall E P 7 [t25, t27] H fun t28 H =>
      R t28 H) (
      wCall E P 8 [a1] H fun t31 H =>
      wGet (extractA t31 0) H fun t32 H =>
      wGet (extractA t31 1) H fun t33 H =>
      wNew 256 (some (List.replicate 256 (.val (.bool false)))) H fun t5 H =>
      wPut (storeN 256 t5 t32 H) fun _u H =>
      wIf t33 (
        wCall E P 9 [a0, t5] H fun t36 H =>
        wCall E P 10 [t36, t5] H fun t37 H =>
        R t37 H) (
        wCall E P 11 [a0, a1] H fun t40 H =>
        wCall E P 12 [t40, a1] H fun t42 H =>
        R t42 H)))

/-- slices.Contains[[]string,string] -/
def slices_Contains_Lstring_string (E : Env) (P : Program) (a0 a1 : AV) (H : AH) (R : Kt) : Prop :=
  wCall E P 13 [a0, a1] H fun t7 H =>
  wGet (binA .geq t7 (.val (.int .i64 0))) H fun t8 H =>
  R t8 H

/-- strings.trimLeftByte -/
def strings_trimLeftByte (E : Env) (P : Program) (a0 a1 : AV) (H : AH) (R : Kt) : Prop :=
  wLoop 1 (fun I1 => I1 a0 H) fun I1 t0 H =>
    wGet (lenS t0) H fun t6 H =>
    wGet (binA .gtr t6 (.val (.int .i64 0))) H fun t7 H =>
    wGuard t7 true H (fun k => k t0 H) fun t9 H =>
    wGuard t7 true H (fun k => wGet (idxStr t9 (.val (.int .i64 0))) H k) fun t10 H =>
    wGuard t7 true H (fun k => k a1 H) fun t11 H =>
    wGuard t7 true H (fun k => wGet (binA .eql t10 t11) H k) fun t12 H =>
    wGet (pickA t7 t12 (.val (.bool false))) H fun t13 H =>
    wIf t13 (
      wGet (sliceS t0 (some (.val (.int .i64 1))) none) H fun t15 H =>
      I1 t15 H) (
      R t0 H)

/-- strings.trimRightByte -/
def strings_trimRightByte (E : Env) (P : Program) (a0 a1 : AV) (H : AH) (R : Kt) : Prop :=
  wLoop 1 (fun I1 => I1 a0 H) fun I1 t0 H =>
    wGet (lenS t0) H fun t6 H =>
    wGet (binA .gtr t6 (.val (.int .i64 0))) H fun t7 H =>
    wGuard t7 true H (fun k => k t0 H) fun t9 H =>
    wGuard t7 true H (fun k => k t0 H) fun t10 H =>
    wGuard t7 true H (fun k => wGet (lenS t10) H k) fun t11 H =>
    wGuard t7 true H (fun k => wGet (binA .sub t11 (.val (.int .i64 1))) H k) fun t12 H =>
    wGuard t7 true H (fun k => wGet (idxStr t9 t12) H k) fun t13 H =>
    wGuard t7 true H (fun k => k a1 H) fun t14 H =>
    wGuard t7 true H (fun k => wGet (binA .eql t13 t14) H k) fun t15 H =>
    wGet (pickA t7 t15 (.val (.bool false))) H fun t16 H =>
    wIf t16 (
      wGet (lenS t0) H fun t19 H =>
      wGet (binA .sub t19 (.val (.int .i64 1))) H fun t20 H =>
      wGet (sliceS t0 none (some t20)) H fun t21 H =>
      I1 t21 H) (
      R t0 H)

/-- strings.makeASCIISet -/
def strings_makeASCIISet (E : Env) (P : Program) (a0 : AV) (H : AH) (R : Kt) : Prop :=
  wNew 256 (some (List.replicate 256 (.val (.bool false)))) H fun t2 H =>
  wLoop 1 (fun I1 => I1 (.val (.int .i64 0)) H) fun I1 t4 H =>
    wGet (lenS a0) H fun t8 H =>
    wGet (binA .lss t4 t8) H fun t9 H =>
    wIf t9 (
      wGet (idxStr a0 t4) H fun t14 H =>
      wGet (binA .geq t14 (.val (.int .u8 128))) H fun t16 H =>
      wIf t16 (
        wGet (loadN 256 t2 H) H fun t17 H =>
        wPut (storeN 256 t2 t17 H) fun _u H =>
        wGet (retPack [loadN 256 t2 H, some (.val (.bool false))]) H R) (
        wGet (iaddrArr 1 256 t2 t14) H fun t19 H =>
        wPut (store1 t19 (.val (.bool true)) H) fun _u H =>
        wGet (binA .add t4 (.val (.int .i64 1))) H fun t11 H =>
        I1 t11 H)) (
      wGet (loadN 256 t2 H) H fun t20 H =>
      wPut (storeN 256 t2 t20 H) fun _u H =>
      wGet (retPack [loadN 256 t2 H, some (.val (.bool true))]) H R)

/-- strings.trimLeftASCII -/
def strings_trimLeftASCII (E : Env) (P : Program) (a0 a1 : AV) (H : AH) (R : Kt) : Prop :=
  wJoin 1 (fun J1 =>
    wLoop 1 (fun I2 => I2 a0 H) fun I2 t0 H =>
      wGet (lenS t0) H fun t6 H =>
      wGet (binA .gtr t6 (.val (.int .i64 0))) H fun t7 H =>
      wIf t7 (
        wGet (idxStr t0 (.val (.int .i64 0))) H fun t10 H =>
        wCall E P 14 [a1, t10] H fun t11 H =>
        wGet (unA .not t11) H fun t12 H =>
        wIf t12 (
          J1 t0 H) (
          wGet (sliceS t0 (some (.val (.int .i64 1))) none) H fun t14 H =>
          I2 t14 H)) (
        J1 t0 H)) fun t0_1 H =>
    R t0_1 H

/-- strings.trimRightASCII -/
def strings_trimRightASCII (E : Env) (P : Program) (a0 a1 : AV) (H : AH) (R : Kt) : Prop :=
  wJoin 1 (fun J1 =>
    wLoop 1 (fun I2 => I2 a0 H) fun I2 t0 H =>
      wGet (lenS t0) H fun t6 H =>
      wGet (binA .gtr t6 (.val (.int .i64 0))) H fun t7 H =>
      wIf t7 (
        wGet (lenS t0) H fun t11 H =>
        wGet (binA .sub t11 (.val (.int .i64 1))) H fun t12 H =>
        wGet (idxStr t0 t12) H fun t13 H =>
        wCall E P 14 [a1, t13] H fun t14 H =>
        wGet (unA .not t14) H fun t15 H =>
        wIf t15 (
          J1 t0 H) (
          wGet (lenS t0) H fun t18 H =>
          wGet (binA .sub t18 (.val (.int .i64 1))) H fun t19 H =>
          wGet (sliceS t0 none (some t19)) H fun t20 H =>
          I2 t20 H)) (
        J1 t0 H)) fun t0_1 H =>
    R t0_1 H

/-- strings.trimLeftUnicode -/
def strings_trimLeftUnicode (E : Env) (P : Program) (a0 a1 : AV) (H : AH) (R : Kt) : Prop :=
  wJoin 1 (fun J1 =>
    wLoop 1 (fun I2 => I2 a0 H) fun I2 t0 H =>
      wGet (lenS t0) H fun t8 H =>
      wGet (binA .gtr t8 (.val (.int .i64 0))) H fun t9 H =>
      wIf t9 (
        wCall E P 15 [t0] H fun t12 H =>
        wGet (extractA t12 0) H fun t13 H =>
        wGet (extractA t12 1) H fun t14 H =>
        wCall E P 16 [a1, t13] H fun t17 H =>
        wGet (unA .not t17) H fun t18 H =>
        wIf t18 (
          J1 t0 H) (
          wGet (sliceS t0 (some t14) none) H fun t21 H =>
          I2 t21 H)) (
        J1 t0 H)) fun t0_1 H =>
    R t0_1 H

/-- strings.trimRightUnicode -/
def strings_trimRightUnicode (E : Env) (P : Program) (a0 a1 : AV) (H : AH) (R : Kt) : Prop :=
  wJoin 1 (fun J1 =>
    wLoop 1 (fun I2 => I2 a0 H) fun I2 t0 H =>
      wGet (lenS t0) H fun t8 H =>
      wGet (binA .gtr t8 (.val (.int .i64 0))) H fun t9 H =>
      wIf t9 (
        wGet (lenS t0) H fun t12 H =>
        wGet (binA .sub t12 (.val (.int .i64 1))) H fun t13 H =>
        wGet (idxStr t0 t13) H fun t14 H =>
        wGet (convA (.int .i32) t14) H fun t15 H =>
        wJoin 2 (fun J3 =>
          wGet (binA .geq t15 (.val (.int .i32 128))) H fun t17 H =>
          wIf t17 (
            wCall E P 17 [t0] H fun t20 H =>
            wGet (extractA t20 0) H fun t21 H =>
            wGet (extractA t20 1) H fun t22 H =>
            J3 t21 t22 H) (
            J3 t15 (.val (.int .i64 1)) H)) fun t5 t6 H =>
          wCall E P 16 [a1, t5] H fun t25 H =>
          wGet (unA .not t25) H fun t26 H =>
          wIf t26 (
            J1 t0 H) (
            wGet (lenS t0) H fun t29 H =>
            wGet (binA .sub t29 t6) H fun t31 H =>
            wGet (sliceS t0 none (some t31)) H fun t32 H =>
            I2 t32 H)) (
        J1 t0 H)) fun t0_1 H =>
    R t0_1 H

/-- slices.Index[[]string,string] -/
def slices_Index_Lstring_string (E : Env) (P : Program) (a0 a1 : AV) (H : AH) (R : Kt) : Prop :=
  wGet (lenA a0) H fun t7 H =>
  wLoop 1 (fun I1 => I1 (.val (.int .i64 0)) H) fun I1 t8 H =>
    wGet (binA .lss t8 t7) H fun t9 H =>
    wIf t9 (
      wGet (iaddr 1 a0 t8) H fun t14 H =>
      wGet (load1 t14 H) H fun t15 H =>
      wGet (binA .eql a1 t15) H fun t16 H =>
      wIf t16 (
        R t8 H) (
        wGet (binA .add t8 (.val (.int .i64 1))) H fun t18 H =>
        I1 t18 H)) (
      R (.val (.int .i64 (-1))) H)

/-- (*strings.asciiSet).contains -/
def pstrings_asciiSet_contains (E : Env) (P : Program) (a0 a1 : AV) (H : AH) (R : Kt) : Prop :=
  wGet (nilA a0) H fun t7 H =>
  wGet (iaddrArr 1 256 t7 a1) H fun t8 H =>
  wGet (load1 t8 H) H fun t9 H =>
  R t9 H

/-- unicode/utf8.DecodeRuneInString -/
def unicode_utf8_DecodeRuneInString (E : Env) (P : Program) (a0 : AV) (H : AH) (R : Kt) : Prop :=
  wGet (binA .neq a0 (.val (.string ⟨#[]⟩))) H fun t5 H =>
  wGuard t5 true H (fun k => k a0 H) fun t7 H =>
  wGuard t5 true H (fun k => wGet (idxStr t7 (.val (.int .i64 0))) H k) fun t8 H =>
  wGuard t5 true H (fun k => wGet (binA .lss t8 (.val (.int .u8 128))) H k) fun t9 H =>
  wGet (pickA t5 t9 (.val (.bool false))) H fun t10 H =>
  wIf t10 (
    wGet (idxStr a0 (.val (.int .i64 0))) H fun t12 H =>
    wGet (convA (.int .i32) t12) H fun t13 H =>
    R (.tup [t13, (.val (.int .i64 1))]) H) (
    wCall E P 18 [a0] H fun t16 H =>
    wGet (extractA t16 0) H fun t17 H =>
    wGet (extractA t16 1) H fun t18 H =>
    R (.tup [t17, t18]) H)

/-- strings.ContainsRune -/
def strings_ContainsRune (E : Env) (P : Program) (a0 a1 : AV) (H : AH) (R : Kt) : Prop :=
  wCall E P 19 [a0, a1] H fun t7 H =>
  wGet (binA .geq t7 (.val (.int .i64 0))) H fun t8 H =>
  R t8 H

/-- unicode/utf8.DecodeLastRuneInString -/
def unicode_utf8_DecodeLastRuneInString (E : Env) (P : Program) (a0 : AV) (H : AH) (R : Kt) : Prop :=
  wGet (lenS a0) H fun t8 H =>
  wGet (binA .eql t8 (.val (.int .i64 0))) H fun t10 H =>
  wIf t10 (
    R (.tup [(.val (.int .i32 65533)), (.val (.int .i64 0))]) H) (
    wGet (binA .sub t8 (.val (.int .i64 1))) H fun t12 H =>
    wGet (idxStr a0 t12) H fun t15 H =>
    wGet (convA (.int .i32) t15) H fun t16 H =>
    wGet (binA .lss t16 (.val (.int .i32 128))) H fun t18 H =>
    wIf t18 (
      R (.tup [t16, (.val (.int .i64 1))]) H) (
      wGet (binA .sub t8 (.val (.int .i64 4))) H fun t21 H =>
      wGet (minA true t21 (.val (.int .i64 0))) H fun t22 H =>
      wJoin 1 (fun J1 =>
        wGet (binA .sub t12 (.val (.int .i64 1))) H fun t24 H =>
        wLoop 1 (fun I2 => I2 t24 H) fun I2 t5 H =>
          wGet (binA .geq t5 t22) H fun t27 H =>
          wIf t27 (
            wGet (idxStr a0 t5) H fun t32 H =>
            wCall E P 20 [t32] H fun t33 H =>
            wIf t33 (
              J1 t5 H) (
              wGet (binA .sub t5 (.val (.int .i64 1))) H fun t29 H =>
              I2 t29 H)) (
            J1 t5 H)) fun t5_1 H =>
        wJoin 1 (fun J3 =>
          wGet (binA .lss t5_1 (.val (.int .i64 0))) H fun t35 H =>
          wIf t35 (
            J3 (.val (.int .i64 0)) H) (
            J3 t5_1 H)) fun t5_2 H =>
          wGet (sliceS a0 (some t5_2) (some t8)) H fun t40 H =>
          wCall E P 15 [t40] H fun t41 H =>
          wGet (extractA t41 0) H fun t42 H =>
          wGet (extractA t41 1) H fun t43 H =>
          wGet (binA .add t5_2 t43) H fun t46 H =>
          wGet (binA .neq t46 t8) H fun t48 H =>
          wIf t48 (
            R (.tup [(.val (.int .i32 65533)), (.val (.int .i64 1))]) H) (
            R (.tup [t42, t43]) H)))

/-- unicode/utf8.decodeRuneInStringSlow -/
def unicode_utf8_decodeRuneInStringSlow (E : Env) (P : Program) (a0 : AV) (H : AH) (R : Kt) : Prop :=
  wGet (lenS a0) H fun t14 H =>
  wGet (binA .lss t14 (.val (.int .i64 1))) H fun t16 H =>
  wIf t16 (
    R (.tup [(.val (.int .i32 65533)), (.val (.int .i64 0))]) H) (
    wGet (idxStr a0 (.val (.int .i64 0))) H fun t18 H =>
    wGet (iaddrArr 1 256 (gptr E 1) t18) H fun t20 H =>
    wGet (load1 t20 H) H fun t21 H =>
    wGet (binA .geq t21 (.val (.int .u8 240))) H fun t23 H =>
    wIf t23 (
      wGet (convA (.int .i32) t21) H fun t25 H =>
      wGet (binA .shl t25 (.val (.int .u64 31))) H fun t26 H =>
      wGet (binA .shr t26 (.val (.int .u64 31))) H fun t27 H =>
      wGet (idxStr a0 (.val (.int .i64 0))) H fun t29 H =>
      wGet (convA (.int .i32) t29) H fun t30 H =>
      wGet (binA .andNot t30 t27) H fun t32 H =>
      wGet (binA .and (.val (.int .i32 65533)) t27) H fun t34 H =>
      wGet (binA .or t32 t34) H fun t35 H =>
      R (.tup [t35, (.val (.int .i64 1))]) H) (
      wGet (binA .and t21 (.val (.int .u8 7))) H fun t37 H =>
      wGet (convA (.int .i64) t37) H fun t38 H =>
      wGet (binA .shr t21 (.val (.int .u64 4))) H fun t40 H =>
      wGet (iaddrArr 2 16 (gptr E 2) t40) H fun t41 H =>
      wGet (loadN 2 t41 H) H fun t42 H =>
      wNew 2 (some [(.val (.int .u8 0)), (.val (.int .u8 0))]) H fun t9 H =>
      wPut (storeN 2 t9 t42 H) fun _u H =>
      wGet (binA .lss t14 t38) H fun t45 H =>
      wIf t45 (
        R (.tup [(.val (.int .i32 65533)), (.val (.int .i64 1))]) H) (
        wGet (idxStr a0 (.val (.int .i64 1))) H fun t47 H =>
        wGet (faddr 0 t9) H fun t49 H =>
        wGet (load1 t49 H) H fun t50 H =>
        wGet (binA .lss t47 t50) H fun t51 H =>
        wGuard t51 false H (fun k => wGet (faddr 1 t9) H k) fun t53 H =>
        wGuard t51 false H (fun k => wGet (load1 t53 H) H k) fun t54 H =>
        wGuard t51 false H (fun k => k t47 H) fun t55 H =>
        wGuard t51 false H (fun k => wGet (binA .lss t54 t55) H k) fun t56 H =>
        wGet (pickA t51 (.val (.bool true)) t56) H fun t57 H =>
        wIf t57 (
          R (.tup [(.val (.int .i32 65533)), (.val (.int .i64 1))]) H) (
          wGet (binA .leq t38 (.val (.int .i64 2))) H fun t59 H =>
          wIf t59 (
            wGet (binA .and t18 (.val (.int .u8 31))) H fun t61 H =>
            wGet (convA (.int .i32) t61) H fun t62 H =>
            wGet (binA .shl t62 (.val (.int .u64 6))) H fun t63 H =>
            wGet (binA .and t47 (.val (.int .u8 63))) H fun t65 H =>
            wGet (convA (.int .i32) t65) H fun t66 H =>
            wGet (binA .or t63 t66) H fun t67 H =>
            R (.tup [t67, (.val (.int .i64 2))]) H) (
            wGet (idxStr a0 (.val (.int .i64 2))) H fun t69 H =>
            wGet (binA .lss t69 (.val (.int .u8 128))) H fun t71 H =>
            wGuard t71 false H (fun k => k t69 H) fun t73 H =>
            wGuard t71 false H (fun k => wGet (binA .lss (.val (.int .u8 191)) t73) H k) fun t74 H =>
            wGet (pickA t71 (.val (.bool true)) t74) H fun t75 H =>
            wIf t75 (
              R (.tup [(.val (.int .i32 65533)), (.val (.int .i64 1))]) H) (
              wGet (binA .leq t38 (.val (.int .i64 3))) H fun t77 H =>
              wIf t77 (
                wGet (binA .and t18 (.val (.int .u8 15))) H fun t79 H =>
                wGet (convA (.int .i32) t79) H fun t80 H =>
                wGet (binA .shl t80 (.val (.int .u64 12))) H fun t81 H =>
                wGet (binA .and t47 (.val (.int .u8 63))) H fun t83 H =>
                wGet (convA (.int .i32) t83) H fun t84 H =>
                wGet (binA .shl t84 (.val (.int .u64 6))) H fun t85 H =>
                wGet (binA .or t81 t85) H fun t86 H =>
                wGet (binA .and t69 (.val (.int .u8 63))) H fun t88 H =>
                wGet (convA (.int .i32) t88) H fun t89 H =>
                wGet (binA .or t86 t89) H fun t90 H =>
                R (.tup [t90, (.val (.int .i64 3))]) H) (
                wGet (idxStr a0 (.val (.int .i64 3))) H fun t92 H =>
                wGet (binA .lss t92 (.val (.int .u8 128))) H fun t94 H =>
                wGuard t94 false H (fun k => k t92 H) fun t96 H =>
                wGuard t94 false H (fun k => wGet (binA .lss (.val (.int .u8 191)) t96) H k) fun t97 H =>
                wGet (pickA t94 (.val (.bool true)) t97) H fun t98 H =>
                wIf t98 (
                  R (.tup [(.val (.int .i32 65533)), (.val (.int .i64 1))]) H) (
                  wGet (binA .and t18 (.val (.int .u8 7))) H fun t100 H =>
                  wGet (convA (.int .i32) t100) H fun t101 H =>
                  wGet (binA .shl t101 (.val (.int .u64 18))) H fun t102 H =>
                  wGet (binA .and t47 (.val (.int .u8 63))) H fun t104 H =>
                  wGet (convA (.int .i32) t104) H fun t105 H =>
                  wGet (binA .shl t105 (.val (.int .u64 12))) H fun t106 H =>
                  wGet (binA .or t102 t106) H fun t107 H =>
                  wGet (binA .and t69 (.val (.int .u8 63))) H fun t109 H =>
                  wGet (convA (.int .i32) t109) H fun t110 H =>
                  wGet (binA .shl t110 (.val (.int .u64 6))) H fun t111 H =>
                  wGet (binA .or t107 t111) H fun t112 H =>
                  wGet (binA .and t92 (.val (.int .u8 63))) H fun t114 H =>
                  wGet (convA (.int .i32) t114) H fun t115 H =>
                  wGet (binA .or t112 t115) H fun t116 H =>
                  R (.tup [t116, (.val (.int .i64 4))]) H))))))))

/-- strings.IndexRune -/
def strings_IndexRune (E : Env) (P : Program) (a0 a1 : AV) (H : AH) (R : Kt) : Prop :=
  wGet (binA .leq (.val (.int .i32 0)) a1) H fun t162 H =>
  wGuard t162 true H (fun k => k a1 H) fun t164 H =>
  wGuard t162 true H (fun k => wGet (binA .lss t164 (.val (.int .i32 128))) H k) fun t165 H =>
  wGet (pickA t162 t165 (.val (.bool false))) H fun t166 H =>
  wIf t166 (
    wGet (convA (.int .u8) a1) H fun t169 H =>
    wCall E P 21 [a0, t169] H fun t170 H =>
    R t170 H) (
    wGet (binA .eql a1 (.val (.int .i32 65533))) H fun t173 H =>
    wIf t173 (
      False) (
      wCall E P 22 [a1] H fun t185 H =>
      wGet (unA .not t185) H fun t186 H =>
      wIf t186 (
        R (.val (.int .i64 (-1))) H) (
        False)))

/-- unicode/utf8.RuneStart -/
def unicode_utf8_RuneStart (E : Env) (P : Program) (a0 : AV) (H : AH) (R : Kt) : Prop :=
  wGet (binA .and a0 (.val (.int .u8 192))) H fun t4 H =>
  wGet (binA .neq t4 (.val (.int .u8 128))) H fun t5 H =>
  R t5 H

/-- strings.IndexByte -/
def strings_IndexByte (E : Env) (P : Program) (a0 a1 : AV) (H : AH) (R : Kt) : Prop :=
  wCall E P 23 [a0, a1] H fun t7 H =>
  R t7 H

/-- unicode/utf8.ValidRune -/
def unicode_utf8_ValidRune (E : Env) (P : Program) (a0 : AV) (H : AH) (R : Kt) : Prop :=
  wGet (binA .leq (.val (.int .i32 0)) a0) H fun t5 H =>
  wGuard t5 true H (fun k => k a0 H) fun t7 H =>
  wGuard t5 true H (fun k => wGet (binA .lss t7 (.val (.int .i32 55296))) H k) fun t8 H =>
  wGet (pickA t5 t8 (.val (.bool false))) H fun t9 H =>
  wIf t9 (
    R (.val (.bool true)) H) (
    wGet (binA .lss (.val (.int .i32 57343)) a0) H fun t12 H =>
    wGuard t12 true H (fun k => k a0 H) fun t14 H =>
    wGuard t12 true H (fun k => wGet (binA .leq t14 (.val (.int .i32 1114111))) H k) fun t15 H =>
    wGet (pickA t12 t15 (.val (.bool false))) H fun t16 H =>
    wIf t16 (
      R (.val (.bool true)) H) (
      R (.val (.bool false)) H))

/-- internal/bytealg.Cutover -/
def internal_bytealg_Cutover (E : Env) (P : Program) (a0 : AV) (H : AH) (R : Kt) : Prop :=
  wGet (binA .add a0 (.val (.int .i64 16))) H fun t4 H =>
  wGet (binA .quo t4 (.val (.int .i64 8))) H fun t5 H =>
  R t5 H

/-- internal/stringslite.IndexByte -/
def internal_stringslite_IndexByte (E : Env) (P : Program) (a0 a1 : AV) (H : AH) (R : Kt) : Prop :=
  wCall E P 25 [a0, a1] H fun t7 H =>
  R t7 H

end Go.Sc.F
