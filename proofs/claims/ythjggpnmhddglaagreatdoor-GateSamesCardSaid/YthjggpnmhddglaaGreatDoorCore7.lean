/- CONTRACTS: bytes and runes in texts; how package expr's reader reads blanks, signs and names. CONTRACTS: package expr: how a text is read as an expression. CONTRACTS: package signalboxref: how a text is read as an expression. (of the seat YthjggpnmhddglaaGreatDoor) -/
import Derived.Test.YthjggpnmhddglaaGreatDoorCore6
namespace Go.Sc.F
open Go Go.Sc
set_option linter.unusedVariables false
/-- signalbox/signalboxref.ExprParse -/
def ref_ExprParse (E : Env) (P : Program) (a0 : AV) (H : AH) (R : Kt) : Prop :=
  wNew 2 (some [(.val (.int .i64 0)), (.val (.int .i64 0))]) H fun t3 H =>
  wGet (lenS a0) H fun t7 H =>
  wGet (binA .gtr t7 (.val (.int .i64 2000))) H fun t8 H =>
  wIf t8 (
    wCall E P 87 [(.val (.int .i64 4))] H fun t9 H =>
    wPut (storeN 2 t3 t9 H) fun _u H =>
    wGet (retPack [some (.val (.pointer none)), loadN 2 t3 H]) H R) (
    wGet (loadN 2 (gptr E 5) H) H fun t11 H =>
    wAgg (fillA [(.val (.string ⟨#[]⟩)), (.val (.int .i64 0)), (.val (.int .i64 0)), (.val (.int .i64 0))] [(0, 1, a0), (2, 2, t11)]) H fun t12 H =>
    wNew 4 (AV.cells? t12) H fun t13 H =>
    wCall E P 130 [t13, (.val (.int .i64 0))] H fun t15 H =>
    wJoin 0 (fun J1 =>
      wGet (nilA t13) H fun t17 H =>
      wGet (faddr 2 t17) H fun t18 H =>
      wGet (faddr 0 t18) H fun t19 H =>
      wGet (load1 t19 H) H fun t20 H =>
      wGet (binA .eql t20 (.val (.int .i64 0))) H fun t21 H =>
      wGuard t21 true H (fun k => k t13 H) fun t23 H =>
      wGuard t21 true H (fun k => wCall E P 131 [t23] H k) fun t24 H =>
      wGuard t21 true H (fun k => wGet (binA .neq t24 (.val (.int .u8 0))) H k) fun t25 H =>
      wGet (pickA t21 t25 (.val (.bool false))) H fun t26 H =>
      wGuard t26 false H (fun k => k t13 H) fun t28 H =>
      wGuard t26 false H (fun k => wGet (nilA t28) H k) fun t29 H =>
      wGuard t26 false H (fun k => wGet (faddr 2 t29) H k) fun t30 H =>
      wGuard t26 false H (fun k => wGet (faddr 0 t30) H k) fun t31 H =>
      wGuard t26 false H (fun k => wGet (load1 t31 H) H k) fun t32 H =>
      wGuard t26 false H (fun k => wGet (binA .eql t32 (.val (.int .i64 0))) H k) fun t33 H =>
      wGuard t26 false H (fun k => k t33 H) fun t34 H =>
      wGuard t34 true H (fun k => k t13 H) fun t35 H =>
      wGuard t34 true H (fun k => wGet (nilA t35) H k) fun t36 H =>
      wGuard t34 true H (fun k => wGet (faddr 1 t36) H k) fun t37 H =>
      wGuard t34 true H (fun k => wGet (load1 t37 H) H k) fun t38 H =>
      wGuard t34 true H (fun k => k a0 H) fun t39 H =>
      wGuard t34 true H (fun k => wGet (lenS t39) H k) fun t40 H =>
      wGuard t34 true H (fun k => wGet (binA .lss t38 t40) H k) fun t41 H =>
      wGuard t26 false H (fun k => wGet (pickA t34 t41 (.val (.bool false))) H k) fun t42 H =>
      wGet (pickA t26 (.val (.bool true)) t42) H fun t43 H =>
      wIf t43 (
        wCall E P 132 [t13, (.val (.int .i64 3))] H fun t45 H =>
        J1 H) (
        J1 H)) fun H =>
      wGet (nilA t13) H fun t47 H =>
      wGet (faddr 2 t47) H fun t48 H =>
      wGet (faddr 0 t48) H fun t49 H =>
      wGet (load1 t49 H) H fun t50 H =>
      wGet (binA .neq t50 (.val (.int .i64 0))) H fun t51 H =>
      wIf t51 (
        wGet (nilA t13) H fun t53 H =>
        wGet (faddr 2 t53) H fun t54 H =>
        wGet (loadN 2 t54 H) H fun t55 H =>
        (wGet (loadN 2 t54 H) H (fun y H2 => y = t55 ∧ H2 = H)) ∧
        wPut (storeN 2 t3 t55 H) fun _u H =>
        wGet (retPack [some (.val (.pointer none)), loadN 2 t3 H]) H R) (
        wGet (loadN 2 (gptr E 5) H) H fun t57 H =>
        (wGet (loadN 2 (gptr E 5) H) H (fun y H2 => y = t57 ∧ H2 = H)) ∧
        wPut (storeN 2 t3 t57 H) fun _u H =>
        wGet (retPack [some t15, loadN 2 t3 H]) H R))

/-- signalbox/expr.Parse -/
def expr_Parse (E : Env) (P : Program) (a0 : AV) (H : AH) (R : Kt) : Prop :=
  wGet (lenS a0) H fun t8 H =>
  wGet (binA .gtr t8 (.val (.int .i64 2000))) H fun t9 H =>
  wIf t9 (
    R (.tup [(.val (.nilIface)), (.ifc 1 (.val (.int .i64 4)))]) H) (
    wAgg (fillA [(.val (.string ⟨#[]⟩)), (.val (.int .i64 0))] [(0, 1, a0)]) H fun t12 H =>
    wNew 2 (AV.cells? t12) H fun t13 H =>
    wCall E P 133 [t13, (.val (.int .i64 20))] H fun t16 H =>
    wGet (extractA t16 0) H fun t17 H =>
    wGet (extractA t16 1) H fun t18 H =>
    wBool (eqA .iface t18 (.val (.nilIface))) H true fun t20 H =>
    wIf t20 (
      R (.tup [(.val (.nilIface)), t18]) H) (
      wCall E P 134 [t13] H fun t23 H =>
      wGet (nilA t13) H fun t25 H =>
      wGet (faddr 1 t25) H fun t26 H =>
      wGet (load1 t26 H) H fun t27 H =>
      wGet (lenS a0) H fun t29 H =>
      wGet (binA .lss t27 t29) H fun t30 H =>
      wIf t30 (
        wCall E P 135 [t13, (.val (.int .i64 3))] H fun t32 H =>
        R (.tup [(.val (.nilIface)), t32]) H) (
        R (.tup [t17, (.val (.nilIface))]) H)))

/-- (*signalbox/signalboxref.parser).whole -/
def pref_parser_whole (E : Env) (P : Program) (a0 a1 : AV) (H : AH) (R : Kt) : Prop :=
  wNew 1 (AV.cells? a0) H fun t2 H =>
  wGet (load1 t2 H) H fun t5 H =>
  wCall E P 137 [t5, (.val (.int .u8 124)), a1, (.fn 136 [] [t2])] H fun t8 H =>
  R t8 H

/-- (*signalbox/signalboxref.parser).next -/
def pref_parser_next (E : Env) (P : Program) (a0 : AV) (H : AH) (R : Kt) : Prop :=
  wCall E P 138 [a0] H fun t4 H =>
  wGet (nilA a0) H fun t6 H =>
  wGet (faddr 1 t6) H fun t7 H =>
  wGet (load1 t7 H) H fun t8 H =>
  wGet (nilA a0) H fun t10 H =>
  wGet (faddr 0 t10) H fun t11 H =>
  wGet (load1 t11 H) H fun t12 H =>
  wGet (lenS t12) H fun t13 H =>
  wGet (binA .lss t8 t13) H fun t14 H =>
  wIf t14 (
    wGet (nilA a0) H fun t16 H =>
    wGet (faddr 0 t16) H fun t17 H =>
    wGet (load1 t17 H) H fun t18 H =>
    wGet (nilA a0) H fun t20 H =>
    wGet (faddr 1 t20) H fun t21 H =>
    wGet (load1 t21 H) H fun t22 H =>
    wGet (idxStr t18 t22) H fun t23 H =>
    R t23 H) (
    R (.val (.int .u8 0)) H)

/-- (*signalbox/signalboxref.parser).fail -/
def pref_parser_fail (E : Env) (P : Program) (a0 a1 : AV) (H : AH) (R : Kt) : Prop :=
  wCall E P 138 [a0] H fun t6 H =>
  wJoin 0 (fun J1 =>
    wGet (nilA a0) H fun t8 H =>
    wGet (faddr 2 t8) H fun t9 H =>
    wGet (faddr 0 t9) H fun t10 H =>
    wGet (load1 t10 H) H fun t11 H =>
    wGet (binA .eql t11 (.val (.int .i64 0))) H fun t12 H =>
    wIf t12 (
      wGet (nilA a0) H fun t16 H =>
      wGet (faddr 1 t16) H fun t17 H =>
      wGet (load1 t17 H) H fun t18 H =>
      wAgg (fillA [(.val (.int .i64 0)), (.val (.int .i64 0))] [(0, 1, a1), (1, 1, t18)]) H fun t19 H =>
      wGet (nilA a0) H fun t20 H =>
      wGet (faddr 2 t20) H fun t21 H =>
      wPut (storeN 2 t21 t19 H) fun _u H =>
      J1 H) (
      J1 H)) fun H =>
    R (.val (.pointer none)) H

/-- (*signalbox/expr.reader).or -/
def pexpr_reader_or (E : Env) (P : Program) (a0 a1 : AV) (H : AH) (R : Kt) : Prop :=
  wCall E P 140 [a0, (.val (.int .u8 124)), a1, (.fn 139 [a0] [])] H fun t13 H =>
  wGet (extractA t13 0) H fun t14 H =>
  wGet (extractA t13 1) H fun t15 H =>
  wBool (eqA .iface t15 (.val (.nilIface))) H true fun t17 H =>
  wIf t17 (
    R (.tup [(.val (.nilIface)), t15]) H) (
    wGet (lenA t14) H fun t20 H =>
    wGet (binA .eql t20 (.val (.int .i64 1))) H fun t21 H =>
    wIf t21 (
      wGet (iaddr 1 t14 (.val (.int .i64 0))) H fun t23 H =>
      wGet (load1 t23 H) H fun t24 H =>
      R (.tup [t24, (.val (.nilIface))]) H) (
      R (.tup [(.ifc 8 t14), (.val (.nilIface))]) H))

/-- (*signalbox/expr.reader).blanks -/
def pexpr_reader_blanks (E : Env) (P : Program) (a0 : AV) (H : AH) (R : Kt) : Prop :=
  wLoop 0 (fun I1 => I1 H) fun I1 H =>
    wGet (nilA a0) H fun t3 H =>
    wGet (faddr 1 t3) H fun t4 H =>
    wGet (load1 t4 H) H fun t5 H =>
    wGet (nilA a0) H fun t7 H =>
    wGet (faddr 0 t7) H fun t8 H =>
    wGet (load1 t8 H) H fun t9 H =>
    wGet (lenS t9) H fun t10 H =>
    wGet (binA .lss t5 t10) H fun t11 H =>
    wGuard t11 true H (fun k => k a0 H) fun t13 H =>
    wGuard t11 true H (fun k => wGet (nilA t13) H k) fun t14 H =>
    wGuard t11 true H (fun k => wGet (faddr 0 t14) H k) fun t15 H =>
    wGuard t11 true H (fun k => wGet (load1 t15 H) H k) fun t16 H =>
    wGuard t11 true H (fun k => k a0 H) fun t17 H =>
    wGuard t11 true H (fun k => wGet (nilA t17) H k) fun t18 H =>
    wGuard t11 true H (fun k => wGet (faddr 1 t18) H k) fun t19 H =>
    wGuard t11 true H (fun k => wGet (load1 t19 H) H k) fun t20 H =>
    wGuard t11 true H (fun k => wGet (idxStr t16 t20) H k) fun t21 H =>
    wGuard t11 true H (fun k => wGet (binA .eql t21 (.val (.int .u8 32))) H k) fun t22 H =>
    wGet (pickA t11 t22 (.val (.bool false))) H fun t23 H =>
    wIf t23 (
      wGet (nilA a0) H fun t25 H =>
      wGet (faddr 1 t25) H fun t26 H =>
      wGet (load1 t26 H) H fun t27 H =>
      wGet (binA .add t27 (.val (.int .i64 1))) H fun t28 H =>
      wGet (nilA a0) H fun t29 H =>
      wGet (faddr 1 t29) H fun t30 H =>
      wPut (store1 t30 t28 H) fun _u H =>
      I1 H) (
      R (.tup []) H)

/-- (*signalbox/expr.reader).fail -/
def pexpr_reader_fail (E : Env) (P : Program) (a0 a1 : AV) (H : AH) (R : Kt) : Prop :=
  wCall E P 134 [a0] H fun t6 H =>
  wGet (nilA a0) H fun t9 H =>
  wGet (faddr 1 t9) H fun t10 H =>
  wGet (load1 t10 H) H fun t11 H =>
  wAgg (fillA [(.val (.int .i64 0)), (.val (.int .i64 0))] [(0, 1, a1), (1, 1, t11)]) H fun t12 H =>
  wNew 2 (AV.cells? t12) H fun t13 H =>
  R (.ifc 2 t13) H

/-- (*signalbox/signalboxref.parser).row -/
def pref_parser_row (E : Env) (P : Program) (a0 a1 a2 a3 : AV) (H : AH) (R : Kt) : Prop :=
  wCallV E P a3 [a2] H fun t12 H =>
  wNewS 1 1 (fillA (List.replicate 1 [(.val (.pointer none))]).flatten [(0, 1, t12)]) H fun t13 H =>
  wLoop 1 (fun I1 => I1 t13 H) fun I1 t9 H =>
    wGet (nilA a0) H fun t15 H =>
    wGet (faddr 2 t15) H fun t16 H =>
    wGet (faddr 0 t16) H fun t17 H =>
    wGet (load1 t17 H) H fun t18 H =>
    wGet (binA .eql t18 (.val (.int .i64 0))) H fun t19 H =>
    wGuard t19 true H (fun k => k a0 H) fun t21 H =>
    wGuard t19 true H (fun k => wCall E P 131 [t21] H k) fun t22 H =>
    wGuard t19 true H (fun k => k a1 H) fun t23 H =>
    wGuard t19 true H (fun k => wGet (binA .eql t22 t23) H k) fun t24 H =>
    wGet (pickA t19 t24 (.val (.bool false))) H fun t25 H =>
    wIf t25 (
      wGet (nilA a0) H fun t27 H =>
      wGet (faddr 1 t27) H fun t28 H =>
      wGet (load1 t28 H) H fun t29 H =>
      wGet (binA .add t29 (.val (.int .i64 1))) H fun t30 H =>
      wGet (nilA a0) H fun t31 H =>
      wGet (faddr 1 t31) H fun t32 H =>
      wPut (store1 t32 t30 H) fun _u H =>
      wCallV E P a3 [a2] H fun t36 H =>
      wNewS 1 1 (fillA (List.replicate 1 [(.val (.pointer none))]).flatten [(0, 1, t36)]) H fun t37 H =>
      wApp 1 8 t9 t37 H fun t38 H =>
      I1 t38 H) (
      wGet (lenA t9) H fun t40 H =>
      wGet (binA .eql t40 (.val (.int .i64 1))) H fun t41 H =>
      wIf t41 (
        wGet (iaddr 1 t9 (.val (.int .i64 0))) H fun t43 H =>
        wGet (load1 t43 H) H fun t44 H =>
        R t44 H) (
        wGet (convA .string a1) H fun t46 H =>
        wAgg (fillA [(.val (.string ⟨#[]⟩)), (.val (.string ⟨#[]⟩)), (.val (.slice none 0 0))] [(0, 1, t46), (2, 1, t9)]) H fun t48 H =>
        wNew 3 (AV.cells? t48) H fun t49 H =>
        R t49 H))

/-- (*signalbox/signalboxref.parser).whole$1 -/
def pref_parser_whole_c1 (E : Env) (P : Program) (a0 a1 : AV) (H : AH) (R : Kt) : Prop :=
  wGet (load1 a1 H) H fun t4 H =>
  wGet (load1 a1 H) H fun t6 H =>
  wCall E P 137 [t4, (.val (.int .u8 38)), a0, (.fn 141 [t6] [])] H fun t8 H =>
  R t8 H

/-- (*signalbox/signalboxref.parser).piece -/
def pref_parser_piece (E : Env) (P : Program) (a0 a1 : AV) (H : AH) (R : Kt) : Prop :=
  wGet (nilA a0) H fun t8 H =>
  wGet (faddr 2 t8) H fun t9 H =>
  wGet (faddr 0 t9) H fun t10 H =>
  wGet (load1 t10 H) H fun t11 H =>
  wGet (binA .neq t11 (.val (.int .i64 0))) H fun t12 H =>
  wIf t12 (
    R (.val (.pointer none)) H) (
    wGet (binA .geq a1 (.val (.int .i64 20))) H fun t14 H =>
    wIf t14 (
      wCall E P 132 [a0, (.val (.int .i64 4))] H fun t16 H =>
      R t16 H) (
      wCall E P 131 [a0] H fun t18 H =>
      wGet (binA .eql t18 (.val (.int .u8 33))) H fun t21 H =>
      wIf t21 (
        wGet (nilA a0) H fun t23 H =>
        wGet (faddr 1 t23) H fun t24 H =>
        wGet (load1 t24 H) H fun t25 H =>
        wGet (binA .add t25 (.val (.int .i64 1))) H fun t26 H =>
        wGet (nilA a0) H fun t27 H =>
        wGet (faddr 1 t27) H fun t28 H =>
        wPut (store1 t28 t26 H) fun _u H =>
        wGet (binA .add a1 (.val (.int .i64 1))) H fun t31 H =>
        wCall E P 141 [a0, t31] H fun t32 H =>
        wNewS 1 1 (fillA (List.replicate 1 [(.val (.pointer none))]).flatten [(0, 1, t32)]) H fun t33 H =>
        wAgg (fillA [(.val (.string ⟨#[]⟩)), (.val (.string ⟨#[]⟩)), (.val (.slice none 0 0))] [(0, 1, (.val (.string ⟨#[33]⟩))), (2, 1, t33)]) H fun t34 H =>
        wNew 3 (AV.cells? t34) H fun t35 H =>
        R t35 H) (
        wGet (binA .eql t18 (.val (.int .u8 40))) H fun t37 H =>
        wIf t37 (
          wGet (nilA a0) H fun t39 H =>
          wGet (faddr 1 t39) H fun t40 H =>
          wGet (load1 t40 H) H fun t41 H =>
          wGet (binA .add t41 (.val (.int .i64 1))) H fun t42 H =>
          wGet (nilA a0) H fun t43 H =>
          wGet (faddr 1 t43) H fun t44 H =>
          wPut (store1 t44 t42 H) fun _u H =>
          wGet (binA .add a1 (.val (.int .i64 1))) H fun t47 H =>
          wCall E P 130 [a0, t47] H fun t48 H =>
          wGet (nilA a0) H fun t50 H =>
          wGet (faddr 2 t50) H fun t51 H =>
          wGet (faddr 0 t51) H fun t52 H =>
          wGet (load1 t52 H) H fun t53 H =>
          wGet (binA .eql t53 (.val (.int .i64 0))) H fun t54 H =>
          wGuard t54 true H (fun k => k a0 H) fun t56 H =>
          wGuard t54 true H (fun k => wCall E P 131 [t56] H k) fun t57 H =>
          wGuard t54 true H (fun k => wGet (binA .neq t57 (.val (.int .u8 41))) H k) fun t58 H =>
          wGet (pickA t54 t58 (.val (.bool false))) H fun t59 H =>
          wIf t59 (
            wCall E P 132 [a0, (.val (.int .i64 3))] H fun t61 H =>
            R t61 H) (
            wGet (nilA a0) H fun t63 H =>
            wGet (faddr 1 t63) H fun t64 H =>
            wGet (load1 t64 H) H fun t65 H =>
            wGet (binA .add t65 (.val (.int .i64 1))) H fun t66 H =>
            wGet (nilA a0) H fun t67 H =>
            wGet (faddr 1 t67) H fun t68 H =>
            wPut (store1 t68 t66 H) fun _u H =>
            R t48 H)) (
          wJoin 1 (fun J1 =>
            wGet (binA .eql t18 (.val (.int .u8 48))) H fun t71 H =>
            wIf t71 (
              J1 t71 H) (
              wGet (binA .eql t18 (.val (.int .u8 49))) H fun t72 H =>
              J1 t72 H)) fun t70 H =>
            wIf t70 (
              wGet (nilA a0) H fun t74 H =>
              wGet (faddr 1 t74) H fun t75 H =>
              wGet (load1 t75 H) H fun t76 H =>
              wGet (binA .add t76 (.val (.int .i64 1))) H fun t77 H =>
              wGet (nilA a0) H fun t78 H =>
              wGet (faddr 1 t78) H fun t79 H =>
              wPut (store1 t79 t77 H) fun _u H =>
              wGet (convA .string t18) H fun t81 H =>
              wAgg (fillA [(.val (.string ⟨#[]⟩)), (.val (.string ⟨#[]⟩)), (.val (.slice none 0 0))] [(0, 1, t81)]) H fun t82 H =>
              wNew 3 (AV.cells? t82) H fun t83 H =>
              R t83 H) (
              wJoin 1 (fun J2 =>
                wGet (binA .eql t18 (.val (.int .u8 94))) H fun t85 H =>
                wIf t85 (
                  J2 t85 H) (
                  wGet (binA .eql t18 (.val (.int .u8 126))) H fun t86 H =>
                  J2 t86 H)) fun t84 H =>
                wIf t84 (
                  wGet (nilA a0) H fun t88 H =>
                  wGet (faddr 1 t88) H fun t89 H =>
                  wGet (load1 t89 H) H fun t90 H =>
                  wGet (binA .add t90 (.val (.int .i64 1))) H fun t91 H =>
                  wGet (nilA a0) H fun t92 H =>
                  wGet (faddr 1 t92) H fun t93 H =>
                  wPut (store1 t93 t91 H) fun _u H =>
                  wGet (convA .string t18) H fun t95 H =>
                  wCall E P 142 [a0] H fun t97 H =>
                  wAgg (fillA [(.val (.string ⟨#[]⟩)), (.val (.string ⟨#[]⟩)), (.val (.slice none 0 0))] [(0, 1, t95), (1, 1, t97)]) H fun t98 H =>
                  wNew 3 (AV.cells? t98) H fun t99 H =>
                  R t99 H) (
                  wCall E P 142 [a0] H fun t101 H =>
                  wAgg (fillA [(.val (.string ⟨#[]⟩)), (.val (.string ⟨#[]⟩)), (.val (.slice none 0 0))] [(0, 1, (.val (.string ⟨#[98, 105, 116]⟩))), (1, 1, t101)]) H fun t102 H =>
                  wNew 3 (AV.cells? t102) H fun t103 H =>
                  R t103 H))))))

/-- (*signalbox/signalboxref.parser).skip -/
def pref_parser_skip (E : Env) (P : Program) (a0 : AV) (H : AH) (R : Kt) : Prop :=
  wLoop 0 (fun I1 => I1 H) fun I1 H =>
    wGet (nilA a0) H fun t3 H =>
    wGet (faddr 1 t3) H fun t4 H =>
    wGet (load1 t4 H) H fun t5 H =>
    wGet (nilA a0) H fun t7 H =>
    wGet (faddr 0 t7) H fun t8 H =>
    wGet (load1 t8 H) H fun t9 H =>
    wGet (lenS t9) H fun t10 H =>
    wGet (binA .lss t5 t10) H fun t11 H =>
    wGuard t11 true H (fun k => k a0 H) fun t13 H =>
    wGuard t11 true H (fun k => wGet (nilA t13) H k) fun t14 H =>
    wGuard t11 true H (fun k => wGet (faddr 0 t14) H k) fun t15 H =>
    wGuard t11 true H (fun k => wGet (load1 t15 H) H k) fun t16 H =>
    wGuard t11 true H (fun k => k a0 H) fun t17 H =>
    wGuard t11 true H (fun k => wGet (nilA t17) H k) fun t18 H =>
    wGuard t11 true H (fun k => wGet (faddr 1 t18) H k) fun t19 H =>
    wGuard t11 true H (fun k => wGet (load1 t19 H) H k) fun t20 H =>
    wGuard t11 true H (fun k => wGet (idxStr t16 t20) H k) fun t21 H =>
    wGuard t11 true H (fun k => wGet (binA .eql t21 (.val (.int .u8 32))) H k) fun t22 H =>
    wGet (pickA t11 t22 (.val (.bool false))) H fun t23 H =>
    wIf t23 (
      wGet (nilA a0) H fun t25 H =>
      wGet (faddr 1 t25) H fun t26 H =>
      wGet (load1 t26 H) H fun t27 H =>
      wGet (binA .add t27 (.val (.int .i64 1))) H fun t28 H =>
      wGet (nilA a0) H fun t29 H =>
      wGet (faddr 1 t29) H fun t30 H =>
      wPut (store1 t30 t28 H) fun _u H =>
      I1 H) (
      R (.tup []) H)

/-- (*signalbox/expr.reader).several -/
def pexpr_reader_several (E : Env) (P : Program) (a0 a1 a2 a3 : AV) (H : AH) (R : Kt) : Prop :=
  wLoop 1 (fun I1 => I1 (.val (.slice none 0 0)) H) fun I1 t10 H =>
    wCallV E P a3 [a2] H fun t16 H =>
    wGet (extractA t16 0) H fun t17 H =>
    wGet (extractA t16 1) H fun t18 H =>
    wBool (eqA .iface t18 (.val (.nilIface))) H true fun t20 H =>
    wIf t20 (
      R (.tup [(.val (.slice none 0 0)), t18]) H) (
      wNewS 1 1 (fillA (List.replicate 1 [(.val (.nilIface))]).flatten [(0, 1, t17)]) H fun t24 H =>
      wApp 1 16 t10 t24 H fun t25 H =>
      wCall E P 143 [a0, a1] H fun t28 H =>
      wGet (unA .not t28) H fun t29 H =>
      wIf t29 (
        R (.tup [t25, (.val (.nilIface))]) H) (
        I1 t25 H))

/-- (*signalbox/expr.reader).and -/
def pexpr_reader_and (E : Env) (P : Program) (a0 a1 : AV) (H : AH) (R : Kt) : Prop :=
  wCall E P 140 [a0, (.val (.int .u8 38)), a1, (.fn 144 [a0] [])] H fun t13 H =>
  wGet (extractA t13 0) H fun t14 H =>
  wGet (extractA t13 1) H fun t15 H =>
  wBool (eqA .iface t15 (.val (.nilIface))) H true fun t17 H =>
  wIf t17 (
    R (.tup [(.val (.nilIface)), t15]) H) (
    wGet (lenA t14) H fun t20 H =>
    wGet (binA .eql t20 (.val (.int .i64 1))) H fun t21 H =>
    wIf t21 (
      wGet (iaddr 1 t14 (.val (.int .i64 0))) H fun t23 H =>
      wGet (load1 t23 H) H fun t24 H =>
      R (.tup [t24, (.val (.nilIface))]) H) (
      R (.tup [(.ifc 9 t14), (.val (.nilIface))]) H))

/-- (*signalbox/signalboxref.parser).word -/
def pref_parser_word (E : Env) (P : Program) (a0 : AV) (H : AH) (R : Kt) : Prop :=
  wCall E P 138 [a0] H fun t6 H =>
  wGet (nilA a0) H fun t8 H =>
  wGet (faddr 1 t8) H fun t9 H =>
  wGet (load1 t9 H) H fun t10 H =>
  wLoop 1 (fun I1 => I1 t10 H) fun I1 t3 H =>
    wGet (nilA a0) H fun t13 H =>
    wGet (faddr 0 t13) H fun t14 H =>
    wGet (load1 t14 H) H fun t15 H =>
    wGet (lenS t15) H fun t16 H =>
    wGet (binA .lss t3 t16) H fun t17 H =>
    wGuard t17 true H (fun k => k a0 H) fun t19 H =>
    wGuard t17 true H (fun k => wGet (nilA t19) H k) fun t20 H =>
    wGuard t17 true H (fun k => wGet (faddr 0 t20) H k) fun t21 H =>
    wGuard t17 true H (fun k => wGet (load1 t21 H) H k) fun t22 H =>
    wGuard t17 true H (fun k => k t3 H) fun t23 H =>
    wGuard t17 true H (fun k => wGet (idxStr t22 t23) H k) fun t24 H =>
    wGuard t17 true H (fun k => wGet (convA (.int .i32) t24) H k) fun t25 H =>
    wGuard t17 true H (fun k => wCall E P 16 [(.val (.string ⟨#[32, 38, 124, 33, 94, 126, 40, 41, 61]⟩)), t25] H k) fun t26 H =>
    wGuard t17 true H (fun k => wGet (unA .not t26) H k) fun t27 H =>
    wGet (pickA t17 t27 (.val (.bool false))) H fun t28 H =>
    wGuard t28 true H (fun k => k t3 H) fun t30 H =>
    wGuard t28 true H (fun k => k a0 H) fun t31 H =>
    wGuard t28 true H (fun k => wGet (nilA t31) H k) fun t32 H =>
    wGuard t28 true H (fun k => wGet (faddr 1 t32) H k) fun t33 H =>
    wGuard t28 true H (fun k => wGet (load1 t33 H) H k) fun t34 H =>
    wGuard t28 true H (fun k => wGet (binA .gtr t30 t34) H k) fun t35 H =>
    wGuard t28 true H (fun k => k t35 H) fun t36 H =>
    wGuard t36 false H (fun k => k a0 H) fun t37 H =>
    wGuard t36 false H (fun k => wGet (nilA t37) H k) fun t38 H =>
    wGuard t36 false H (fun k => wGet (faddr 0 t38) H k) fun t39 H =>
    wGuard t36 false H (fun k => wGet (load1 t39 H) H k) fun t40 H =>
    wGuard t36 false H (fun k => k t3 H) fun t41 H =>
    wGuard t36 false H (fun k => wGet (idxStr t40 t41) H k) fun t42 H =>
    wGuard t36 false H (fun k => wGet (binA .neq t42 (.val (.int .u8 48))) H k) fun t43 H =>
    wGuard t36 false H (fun k => k t43 H) fun t44 H =>
    wGuard t44 true H (fun k => k a0 H) fun t45 H =>
    wGuard t44 true H (fun k => wGet (nilA t45) H k) fun t46 H =>
    wGuard t44 true H (fun k => wGet (faddr 0 t46) H k) fun t47 H =>
    wGuard t44 true H (fun k => wGet (load1 t47 H) H k) fun t48 H =>
    wGuard t44 true H (fun k => k t3 H) fun t49 H =>
    wGuard t44 true H (fun k => wGet (idxStr t48 t49) H k) fun t50 H =>
    wGuard t44 true H (fun k => wGet (binA .neq t50 (.val (.int .u8 49))) H k) fun t51 H =>
    wGuard t36 false H (fun k => wGet (pickA t44 t51 (.val (.bool false))) H k) fun t52 H =>
    wGuard t28 true H (fun k => wGet (pickA t36 (.val (.bool true)) t52) H k) fun t53 H =>
    wGet (pickA t28 t53 (.val (.bool false))) H fun t54 H =>
    wIf t54 (
      wGet (binA .add t3 (.val (.int .i64 1))) H fun t56 H =>
      I1 t56 H) (
      wGet (nilA a0) H fun t58 H =>
      wGet (faddr 0 t58) H fun t59 H =>
      wGet (load1 t59 H) H fun t60 H =>
      wGet (nilA a0) H fun t62 H =>
      wGet (faddr 1 t62) H fun t63 H =>
      wGet (load1 t63 H) H fun t64 H =>
      wGet (sliceS t60 (some t64) (some t3)) H fun t66 H =>
      wJoin 0 (fun J2 =>
        wGet (binA .eql t66 (.val (.string ⟨#[]⟩))) H fun t73 H =>
        wIf t73 (
          wCall E P 132 [a0, (.val (.int .i64 3))] H fun t75 H =>
          J2 H) (
          wCall E P 2 [t66] H fun t78 H =>
          wGet (unA .not t78) H fun t79 H =>
          wIf t79 (
            wCall E P 132 [a0, (.val (.int .i64 5))] H fun t81 H =>
            J2 H) (
            wGet (nilA a0) H fun t69 H =>
            wGet (faddr 1 t69) H fun t70 H =>
            wPut (store1 t70 t3 H) fun _u H =>
            J2 H))) fun H =>
        R t66 H)

/-- (*signalbox/expr.reader).take -/
def pexpr_reader_take (E : Env) (P : Program) (a0 a1 : AV) (H : AH) (R : Kt) : Prop :=
  wCall E P 134 [a0] H fun t6 H =>
  wGet (nilA a0) H fun t8 H =>
  wGet (faddr 1 t8) H fun t9 H =>
  wGet (load1 t9 H) H fun t10 H =>
  wGet (nilA a0) H fun t12 H =>
  wGet (faddr 0 t12) H fun t13 H =>
  wGet (load1 t13 H) H fun t14 H =>
  wGet (lenS t14) H fun t15 H =>
  wGet (binA .lss t10 t15) H fun t16 H =>
  wGuard t16 true H (fun k => k a0 H) fun t18 H =>
  wGuard t16 true H (fun k => wGet (nilA t18) H k) fun t19 H =>
  wGuard t16 true H (fun k => wGet (faddr 0 t19) H k) fun t20 H =>
  wGuard t16 true H (fun k => wGet (load1 t20 H) H k) fun t21 H =>
  wGuard t16 true H (fun k => k a0 H) fun t22 H =>
  wGuard t16 true H (fun k => wGet (nilA t22) H k) fun t23 H =>
  wGuard t16 true H (fun k => wGet (faddr 1 t23) H k) fun t24 H =>
  wGuard t16 true H (fun k => wGet (load1 t24 H) H k) fun t25 H =>
  wGuard t16 true H (fun k => wGet (idxStr t21 t25) H k) fun t26 H =>
  wGuard t16 true H (fun k => k a1 H) fun t27 H =>
  wGuard t16 true H (fun k => wGet (binA .eql t26 t27) H k) fun t28 H =>
  wGet (pickA t16 t28 (.val (.bool false))) H fun t29 H =>
  wIf t29 (
    wGet (nilA a0) H fun t31 H =>
    wGet (faddr 1 t31) H fun t32 H =>
    wGet (load1 t32 H) H fun t33 H =>
    wGet (binA .add t33 (.val (.int .i64 1))) H fun t34 H =>
    wGet (nilA a0) H fun t35 H =>
    wGet (faddr 1 t35) H fun t36 H =>
    wPut (store1 t36 t34 H) fun _u H =>
    R (.val (.bool true)) H) (
    R (.val (.bool false)) H)

/-- (*signalbox/expr.reader).one -/
def pexpr_reader_one (E : Env) (P : Program) (a0 a1 : AV) (H : AH) (R : Kt) : Prop :=
  wGet (binA .eql a1 (.val (.int .i64 0))) H fun t17 H =>
  wIf t17 (
    wCall E P 135 [a0, (.val (.int .i64 4))] H fun t19 H =>
    R (.tup [(.val (.nilIface)), t19]) H) (
    wCall E P 143 [a0, (.val (.int .u8 33))] H fun t22 H =>
    wIf t22 (
      wGet (binA .sub a1 (.val (.int .i64 1))) H fun t26 H =>
      wCall E P 144 [a0, t26] H fun t27 H =>
      wGet (extractA t27 0) H fun t28 H =>
      wGet (extractA t27 1) H fun t29 H =>
      wBool (eqA .iface t29 (.val (.nilIface))) H true fun t31 H =>
      wIf t31 (
        R (.tup [(.val (.nilIface)), t29]) H) (
        wAgg (fillA [(.val (.nilIface))] [(0, 1, t28)]) H fun t34 H =>
        R (.tup [(.ifc 10 t34), (.val (.nilIface))]) H)) (
      wCall E P 143 [a0, (.val (.int .u8 40))] H fun t38 H =>
      wIf t38 (
        wGet (binA .sub a1 (.val (.int .i64 1))) H fun t42 H =>
        wCall E P 133 [a0, t42] H fun t43 H =>
        wGet (extractA t43 0) H fun t44 H =>
        wGet (extractA t43 1) H fun t45 H =>
        wBool (eqA .iface t45 (.val (.nilIface))) H true fun t47 H =>
        wIf t47 (
          R (.tup [(.val (.nilIface)), t45]) H) (
          wCall E P 143 [a0, (.val (.int .u8 41))] H fun t50 H =>
          wGet (unA .not t50) H fun t51 H =>
          wIf t51 (
            wCall E P 135 [a0, (.val (.int .i64 3))] H fun t53 H =>
            R (.tup [(.val (.nilIface)), t53]) H) (
            R (.tup [t44, (.val (.nilIface))]) H))) (
        wCall E P 143 [a0, (.val (.int .u8 48))] H fun t57 H =>
        wIf t57 (
          R (.tup [(.ifc 11 (.val (.bool false))), (.val (.nilIface))]) H) (
          wCall E P 143 [a0, (.val (.int .u8 49))] H fun t61 H =>
          wIf t61 (
            R (.tup [(.ifc 11 (.val (.bool true))), (.val (.nilIface))]) H) (
            wCall E P 143 [a0, (.val (.int .u8 94))] H fun t65 H =>
            wIf t65 (
              wCall E P 145 [a0] H fun t68 H =>
              wGet (extractA t68 0) H fun t69 H =>
              wGet (extractA t68 1) H fun t70 H =>
              R (.tup [(.ifc 12 t69), t70]) H) (
              wCall E P 143 [a0, (.val (.int .u8 126))] H fun t76 H =>
              wIf t76 (
                wCall E P 145 [a0] H fun t79 H =>
                wGet (extractA t79 0) H fun t80 H =>
                wGet (extractA t79 1) H fun t81 H =>
                R (.tup [(.ifc 13 t80), t81]) H) (
                wCall E P 145 [a0] H fun t87 H =>
                wGet (extractA t87 0) H fun t88 H =>
                wGet (extractA t87 1) H fun t89 H =>
                R (.tup [(.ifc 14 t88), t89]) H)))))))

/-- (*signalbox/expr.reader).word -/
def pexpr_reader_word (E : Env) (P : Program) (a0 : AV) (H : AH) (R : Kt) : Prop :=
  wCall E P 134 [a0] H fun t7 H =>
  wGet (nilA a0) H fun t9 H =>
  wGet (faddr 1 t9) H fun t10 H =>
  wGet (load1 t10 H) H fun t11 H =>
  wLoop 1 (fun I1 => I1 t11 H) fun I1 t4 H =>
    wGet (nilA a0) H fun t14 H =>
    wGet (faddr 0 t14) H fun t15 H =>
    wGet (load1 t15 H) H fun t16 H =>
    wGet (lenS t16) H fun t17 H =>
    wGet (binA .lss t4 t17) H fun t18 H =>
    wGuard t18 true H (fun k => k a0 H) fun t20 H =>
    wGuard t18 true H (fun k => wGet (nilA t20) H k) fun t21 H =>
    wGuard t18 true H (fun k => wGet (faddr 0 t21) H k) fun t22 H =>
    wGuard t18 true H (fun k => wGet (load1 t22 H) H k) fun t23 H =>
    wGuard t18 true H (fun k => k t4 H) fun t24 H =>
    wGuard t18 true H (fun k => wGet (idxStr t23 t24) H k) fun t25 H =>
    wGuard t18 true H (fun k => wCall E P 21 [(.val (.string ⟨#[32, 38, 124, 33, 94, 126, 40, 41, 48, 49, 61]⟩)), t25] H k) fun t26 H =>
    wGuard t18 true H (fun k => wGet (binA .lss t26 (.val (.int .i64 0))) H k) fun t27 H =>
    wGet (pickA t18 t27 (.val (.bool false))) H fun t28 H =>
    wGuard t28 false H (fun k => k t4 H) fun t30 H =>
    wGuard t28 false H (fun k => k a0 H) fun t31 H =>
    wGuard t28 false H (fun k => wGet (nilA t31) H k) fun t32 H =>
    wGuard t28 false H (fun k => wGet (faddr 1 t32) H k) fun t33 H =>
    wGuard t28 false H (fun k => wGet (load1 t33 H) H k) fun t34 H =>
    wGuard t28 false H (fun k => wGet (binA .gtr t30 t34) H k) fun t35 H =>
    wGuard t28 false H (fun k => k t35 H) fun t36 H =>
    wGuard t36 true H (fun k => k t4 H) fun t37 H =>
    wGuard t36 true H (fun k => k a0 H) fun t38 H =>
    wGuard t36 true H (fun k => wGet (nilA t38) H k) fun t39 H =>
    wGuard t36 true H (fun k => wGet (faddr 0 t39) H k) fun t40 H =>
    wGuard t36 true H (fun k => wGet (load1 t40 H) H k) fun t41 H =>
    wGuard t36 true H (fun k => wGet (lenS t41) H k) fun t42 H =>
    wGuard t36 true H (fun k => wGet (binA .lss t37 t42) H k) fun t43 H =>
    wGuard t28 false H (fun k => wGet (pickA t36 t43 (.val (.bool false))) H k) fun t44 H =>
    wGuard t28 false H (fun k => k t44 H) fun t45 H =>
    wGuard t45 true H (fun k => k a0 H) fun t46 H =>
    wGuard t45 true H (fun k => wGet (nilA t46) H k) fun t47 H =>
    wGuard t45 true H (fun k => wGet (faddr 0 t47) H k) fun t48 H =>
    wGuard t45 true H (fun k => wGet (load1 t48 H) H k) fun t49 H =>
    wGuard t45 true H (fun k => k t4 H) fun t50 H =>
    wGuard t45 true H (fun k => wGet (idxStr t49 t50) H k) fun t51 H =>
    wGuard t45 true H (fun k => wGet (binA .eql t51 (.val (.int .u8 48))) H k) fun t52 H =>
    wGuard t45 true H (fun k => k t52 H) fun t53 H =>
    wGuard t53 false H (fun k => k a0 H) fun t54 H =>
    wGuard t53 false H (fun k => wGet (nilA t54) H k) fun t55 H =>
    wGuard t53 false H (fun k => wGet (faddr 0 t55) H k) fun t56 H =>
    wGuard t53 false H (fun k => wGet (load1 t56 H) H k) fun t57 H =>
    wGuard t53 false H (fun k => k t4 H) fun t58 H =>
    wGuard t53 false H (fun k => wGet (idxStr t57 t58) H k) fun t59 H =>
    wGuard t53 false H (fun k => wGet (binA .eql t59 (.val (.int .u8 49))) H k) fun t60 H =>
    wGuard t45 true H (fun k => wGet (pickA t53 (.val (.bool true)) t60) H k) fun t61 H =>
    wGuard t28 false H (fun k => wGet (pickA t45 t61 (.val (.bool false))) H k) fun t62 H =>
    wGet (pickA t28 (.val (.bool true)) t62) H fun t63 H =>
    wIf t63 (
      wGet (binA .add t4 (.val (.int .i64 1))) H fun t65 H =>
      I1 t65 H) (
      wGet (nilA a0) H fun t67 H =>
      wGet (faddr 0 t67) H fun t68 H =>
      wGet (load1 t68 H) H fun t69 H =>
      wGet (nilA a0) H fun t71 H =>
      wGet (faddr 1 t71) H fun t72 H =>
      wGet (load1 t72 H) H fun t73 H =>
      wGet (sliceS t69 (some t73) (some t4)) H fun t75 H =>
      wGet (binA .eql t75 (.val (.string ⟨#[]⟩))) H fun t77 H =>
      wIf t77 (
        wCall E P 135 [a0, (.val (.int .i64 3))] H fun t79 H =>
        R (.tup [(.val (.string ⟨#[]⟩)), t79]) H) (
        wCall E P 1 [t75] H fun t81 H =>
        wGet (unA .not t81) H fun t82 H =>
        wIf t82 (
          wCall E P 135 [a0, (.val (.int .i64 5))] H fun t84 H =>
          R (.tup [(.val (.string ⟨#[]⟩)), t84]) H) (
          wGet (nilA a0) H fun t87 H =>
          wGet (faddr 1 t87) H fun t88 H =>
          wPut (store1 t88 t4 H) fun _u H =>
          R (.tup [t75, (.val (.nilIface))]) H)))

/-- strings.IndexRune -/
def strings_IndexRune_ScV11 (E : Env) (P : Program) (a0 a1 : AV) (H : AH) (R : Kt) : Prop :=
  wGet (binA .leq (.val (.int .i32 0)) a1) H fun t162 H =>
  wGuard t162 true H (fun k => k a1 H) fun t164 H =>
  wGuard t162 true H (fun k => wGet (binA .lss t164 (.val (.int .i32 128))) H k) fun t165 H =>
  wGet (pickA t162 t165 (.val (.bool false))) H fun t166 H =>
  wIf t166 (
    wGet (convA (.int .u8) a1) H fun t169 H =>
    wCall E P 21 [a0, t169] H fun t170 H =>
    R t170 H) (
    wGet (binA .eql a1 (.val (.int .i32 65533))) H fun t173 H =>
    wIf t173 (
      False) (
      wCall E P 22 [a1] H fun t185 H =>
      wGet (unA .not t185) H fun t186 H =>
      wIf t186 (
        R (.val (.int .i64 (-1))) H) (
        wGet (convA .string a1) H fun t18 H =>
        wGet (lenS t18) H fun t20 H =>
        wGet (binA .sub t20 (.val (.int .i64 1))) H fun t21 H =>
        wLoop 1 (fun I1 => I1 t21 H) fun I1 t9 H =>
          wGet (lenS a0) H fun t25 H =>
          wGet (binA .lss t9 t25) H fun t26 H =>
          wIf t26 (
            wJoin 1 (fun J2 =>
              wGet (idxStr a0 t9) H fun t29 H =>
              wGet (idxStr t18 t21) H fun t32 H =>
              wGet (binA .neq t29 t32) H fun t33 H =>
              wIf t33 (
                wGet (binA .add t9 (.val (.int .i64 1))) H fun t36 H =>
                wGet (sliceS a0 (some t36) none) H fun t37 H =>
                wGet (idxStr t18 t21) H fun t40 H =>
                wCall E P 21 [t37, t40] H fun t41 H =>
                wGet (binA .lss t41 (.val (.int .i64 0))) H fun t43 H =>
                wIf t43 (
                  R (.val (.int .i64 (-1))) H) (
                  wGet (binA .add t41 (.val (.int .i64 1))) H fun t46 H =>
                  wGet (binA .add t9 t46) H fun t47 H =>
                  J2 t47 H)) (
                J2 t9 H)) fun t9_1 H =>
              wLoop 1 (fun I3 => I3 (.val (.int .i64 1)) H) fun I3 t12 H =>
                wGet (lenS t18) H fun t50 H =>
                wGet (binA .lss t12 t50) H fun t51 H =>
                wIf t51 (
                  wGet (binA .sub t9_1 t12) H fun t57 H =>
                  wGet (idxStr a0 t57) H fun t58 H =>
                  wGet (binA .sub t21 t12) H fun t62 H =>
                  wGet (idxStr t18 t62) H fun t63 H =>
                  wGet (binA .neq t58 t63) H fun t64 H =>
                  wIf t64 (
                    False) (
                    wGet (binA .add t12 (.val (.int .i64 1))) H fun t53 H =>
                    I3 t53 H)) (
                  wGet (binA .sub t9_1 t21) H fun t67 H =>
                  R t67 H)) (
            R (.val (.int .i64 (-1))) H))))

end Go.Sc.F
namespace Go.Sc
open Go
set_option linter.unusedSimpArgs false
set_option linter.unusedVariables false
set_option linter.unnecessarySimpa false
structure RuneBodies (E : Env) (P : Program) : Prop where
  ib : ∀ (s : Str) (c : UInt8), FX E P 21 [S s, By c] (Z (idx s c))
  ir : Body2 E P 19 F.strings_IndexRune_ScV11
  cr : Body2 E P 16 F.strings_ContainsRune
  vr : Body1 E P 22 F.unicode_utf8_ValidRune
section
variable {E : Env} {P : Program}
abbrev Ru (n : Nat) : AV := .val (.int .i32 n)
theorem ValidRune_spec (B : RuneBodies E P) {n : Nat} (h : n < 55296) : FX E P 22 [Ru n] (Bo true) := by
  refine FX.of' (by simp [AV.closed, AV.closedL]) trivial fun m R hR => B.vr _ _ _ ?_
  unfold F.unicode_utf8_ValidRune
  simp only [nd0, Y1n, Y1o, Y1p, Y1q, Y1w, Y1x, Y1y, Y1z, Y20, Y21, Y28, Y2a, AV.cells?, Nat.reduceAdd, Nat.reduceMul, decide_eq_true (show (0 : Int) ≤ (n : Int) by omega), decide_eq_true (show (n : Int) < 55296 by omega)]
  exact hR _ _ rfl
theorem enc2 (c : UInt8) (h : 128 ≤ c.toNat) : Utf8.encode (c.toNat : Int) = ⟨[UInt8.ofNat (192 + c.toNat / 64), UInt8.ofNat (128 + c.toNat % 64)].toArray⟩ := by
  have h2 := c.toNat_lt
  unfold Utf8.encode
  have hv : Utf8.valid (c.toNat : Int) = true := by unfold Utf8.valid; simp; omega
  simp only [hv, if_true, Int.toNat_natCast]
  rw [if_neg (by omega), if_pos (by omega)]
theorem wrap_u8 (c : UInt8) : IntKind.u8.wrap (c.toNat : Int) = c.toNat := by
  have h2 := c.toNat_lt
  simp [IntKind.wrap, IntKind.bits, IntKind.signed]
  omega
theorem wrap_i32 (c : UInt8) : IntKind.i32.wrap (c.toNat : Int) = c.toNat := by
  have h2 := c.toNat_lt
  simp [IntKind.wrap, IntKind.bits, IntKind.signed]
  omega
theorem idx_none {s : Str} {c : UInt8} (h : c ∉ s) : idx s c = -1 := by simp [idx, h]
theorem IndexRune_spec (B : RuneBodies E P) (s : Str) (c : UInt8) (ha : ascii s) (hs : s.length < 1000000) : FX E P 19 [S s, Ru c.toNat] (Z (idx s c)) := by
  refine FX.of' (by simp [AV.closed, AV.closedL]) trivial fun m R hR => B.ir _ _ _ _ ?_
  have hc := c.toNat_lt
  unfold F.strings_IndexRune_ScV11
  simp only [nd0, Y1n, Y1o, Y1p, Y1q, Y1w, Y1x, Y1y, Y1z, Y20, Y21, Y28, Y2a, AV.cells?, Nat.reduceAdd, Nat.reduceMul, decide_eq_true (show (0 : Int) ≤ (c.toNat : Int) by omega)]
  by_cases h : c.toNat < 128
  · simp only [nd0, Y1n, Y1o, Y1p, Y1q, Y1w, Y1x, Y1y, Y1z, Y20, Y21, Y28, Y2a, AV.cells?, Nat.reduceAdd, Nat.reduceMul, decide_eq_true (show (c.toNat : Int) < 128 by omega), wrap_u8]
    refine wCall.fx (B.ib s c) fun n => ?_
    exact hR _ _ rfl
  · simp only [nd0, Y1n, Y1o, Y1p, Y1q, Y1w, Y1x, Y1y, Y1z, Y20, Y21, Y28, Y2a, AV.cells?, Nat.reduceAdd, Nat.reduceMul, decide_eq_false (show ¬ (c.toNat : Int) < 128 by omega), decide_eq_false (show ¬ (c.toNat : Int) = 65533 by omega)]
    refine wCall.fx (ValidRune_spec B (by omega)) fun n => ?_
    simp only [nd0, Y1n, Y1o, Y1p, Y1q, Y1w, Y1x, Y1y, Y1z, Y20, Y21, Y28, Y2a, AV.cells?, Nat.reduceAdd, Nat.reduceMul]
    have hnot : c ∉ s := fun hm => h (by have := ha c hm; exact this)
    have hcv : convA .string (Ru c.toNat) = some (S [UInt8.ofNat (192 + c.toNat / 64), UInt8.ofNat (128 + c.toNat % 64)]) := by
      simp only [convA]; rw [enc2 c (by omega)]
    have hlast : 128 ≤ (UInt8.ofNat (128 + c.toNat % 64)).toNat := by
      rw [UInt8.toNat_ofNat']; omega
    generalize UInt8.ofNat (128 + c.toNat % 64) = b at hcv hlast
    generalize UInt8.ofNat (192 + c.toNat / 64) = a at hcv
    rw [hcv]
    simp only [nd0, Y1n, Y1o, Y1p, Y1q, Y1w, Y1x, Y1y, Y1z, Y20, Y21, Y28, Y2a, AV.cells?, Nat.reduceAdd, Nat.reduceMul]
    rw [show (((1 + 1 : Nat) : Int)) = 2 from rfl, binA_sub (by omega)]
    simp only [nd0, Y1n, Y1o, Y1p, Y1q, Y1w, Y1x, Y1y, Y1z, Y20, Y21, Y28, Y2a, AV.cells?, Nat.reduceAdd, Nat.reduceMul]
    refine wLoop.one (fun m t H => t = Z 1 ∧ ∃ n, H = ⟨[], n⟩) 0 (gh1.mk ⟨rfl, _, rfl⟩) ?_
    rintro m t H ⟨rfl, n, rfl⟩
    simp only [nd0, Y1n, Y1o, Y1p, Y1q, Y1w, Y1x, Y1y, Y1z, Y20, Y21, Y28, Y2a, AV.cells?, Nat.reduceAdd, Nat.reduceMul]
    by_cases hl : 1 < s.length
    · simp only [nd0, Y1n, Y1o, Y1p, Y1q, Y1w, Y1x, Y1y, Y1z, Y20, Y21, Y28, Y2a, AV.cells?, Nat.reduceAdd, Nat.reduceMul, decide_eq_true (show (1 : Int) < (s.length : Int) by omega)]
      refine wJoin.one (fun _ _ => False) ?_ (fun _ _ h => h.elim)
      have i1 : idxStr (S s) (Z 1) = some (By s[1]) := by have := idxS (s := s) (i := 1) hl; exact this
      have i2 : idxStr (S [a, b]) (Z 1) = some (By b) := by have := idxS (s := [a, b]) (i := 1) (by simp); exact this
      rw [show (2 : Int) - 1 = 1 from rfl]
      rw [i1, i2]
      simp only [nd0, Y1n, Y1o, Y1p, Y1q, Y1w, Y1x, Y1y, Y1z, Y20, Y21, Y28, Y2a, AV.cells?, Nat.reduceAdd, Nat.reduceMul]
      have hne : ¬ ((s[1].toNat : Int) = (b.toNat : Int)) := by
        have : s[1].toNat < 128 := ha s[1] (List.getElem_mem _)
        omega
      simp only [nd0, Y1n, Y1o, Y1p, Y1q, Y1w, Y1x, Y1y, Y1z, Y20, Y21, Y28, Y2a, AV.cells?, Nat.reduceAdd, Nat.reduceMul, decide_eq_false hne]
      rw [binA_add (by omega)]
      simp only [nd0, Y1n, Y1o, Y1p, Y1q, Y1w, Y1x, Y1y, Y1z, Y20, Y21, Y28, Y2a, AV.cells?, Nat.reduceAdd, Nat.reduceMul]
      rw [sliceS_S (l := 2) (h := s.length) rfl rfl (by omega) (by omega) (by omega)]
      simp only [nd0, Y1n, Y1o, Y1p, Y1q, Y1w, Y1x, Y1y, Y1z, Y20, Y21, Y28, Y2a, AV.cells?, Nat.reduceAdd, Nat.reduceMul]
      have hn2 : b ∉ ((s.take s.length).drop (2 : Int).toNat) := fun hm => by
        have : b < 128 := ha b (List.mem_of_mem_take (List.mem_of_mem_drop hm))
        have : b.toNat < 128 := this
        omega
      refine wCall.fx (B.ib _ b) fun n => ?_
      rw [idx_none hn2]
      simp only [nd0, Y1n, Y1o, Y1p, Y1q, Y1w, Y1x, Y1y, Y1z, Y20, Y21, Y28, Y2a, AV.cells?, Nat.reduceAdd, Nat.reduceMul, decide_eq_true (show (-1 : Int) < 0 by omega)]
      exact hR _ _ (by rw [idx_none hnot])
    · simp only [nd0, Y1n, Y1o, Y1p, Y1q, Y1w, Y1x, Y1y, Y1z, Y20, Y21, Y28, Y2a, AV.cells?, Nat.reduceAdd, Nat.reduceMul, decide_eq_false (show ¬ (1 : Int) < (s.length : Int) by omega)]
      exact hR _ _ (by rw [idx_none hnot])
theorem ContainsRune_spec (B : RuneBodies E P) (s : Str) (c : UInt8) (ha : ascii s) (hs : s.length < 1000000) : FX E P 16 [S s, Ru c.toNat] (Bo (decide (c ∈ s))) := by
  refine FX.of' (by simp [AV.closed, AV.closedL]) trivial fun m R hR => B.cr _ _ _ _ ?_
  unfold F.strings_ContainsRune
  refine wCall.fx (IndexRune_spec B s c ha hs) fun n => ?_
  simp only [nd0, Y1n, Y1o, Y1p, Y1q, Y1w, Y1x, Y1y, Y1z, Y20, Y21, Y28, Y2a, AV.cells?, Nat.reduceAdd, Nat.reduceMul]
  refine hR _ _ ?_
  congr 2
  exact decide_eq_decide.2 (by
    have := idx_neg (l := s) (x := c)
    constructor
    · intro h1
      by_cases h : c ∈ s
      · exact h
      · have := this.2 h; omega
    · intro h1
      by_cases h : idx s c < 0
      · exact absurd h1 (this.1 h)
      · omega)
end
/-! ### the program's reader -/
def rd (s : Str) (i : Nat) : List AV := [S s, Z i]
theorem rd_closed (s : Str) (i : Nat) : AV.closedL (rd s i) := ⟨trivial, trivial, trivial⟩
structure ReadBodies (E : Env) (P : Program) : Prop where
  n : NameBodies E P
  r : RuneBodies E P
  blanks : Body1 E P 134 F.pexpr_reader_blanks
  fail : Body2 E P 135 F.pexpr_reader_fail
  take : Body2 E P 143 F.pexpr_reader_take
  word : Body1 E P 145 F.pexpr_reader_word
section
variable {E : Env} {P : Program}
theorem at_some {s : Str} {i : Nat} (h : i < s.length) : s[i]? = some s[i] := List.getElem?_eq_getElem h
theorem at_eq {s : Str} {i : Nat} (h : i < s.length) {c : UInt8} : s[i]? = some c ↔ (s[i].toNat : Int) = c.toNat := by
  rw [at_some h]
  constructor
  · intro e; injection e with e; rw [e]
  · intro e; rw [show s[i] = c from UInt8.toNat_inj.1 (by omega)]
theorem blanks_spec (B : ReadBodies E P) (s : Str) (i : Nat) (hi : i ≤ s.length) (hs : s.length < 1000000) : PC E P 134 2 (rd s i) (fun b g => [.ptrL b 0 g]) (fun r cs => r = .tup [] ∧ cs = rd s (skipTo s i)) := by
  refine PC.of (fun _ _ => rfl) (rd_closed s i) (by rintro r cs ⟨rfl, rfl⟩; exact ⟨trivial, rd_closed _ _⟩) fun n g R hR => B.blanks _ _ _ ?_
  unfold F.pexpr_reader_blanks
  refine wLoop.zero (fun m H => ∃ j c, m = s.length - j ∧ j ≤ s.length ∧ skipTo s j = skipTo s i ∧ H = ⟨[.cells g 2 [S s, Z j]], c⟩) (s.length - i) (gh0.mk ⟨i, n, rfl, hi, rfl, rfl⟩) ?_
  rintro m H ⟨j, c, rfl, hj, he, rfl⟩
  simp only [nd0, Y1n, Y1o, Y1p, Y1q, Y1w, Y1x, Y1y, Y1z, Y20, Y21, Y28, Y2a, AV.cells?, Nat.reduceAdd, Nat.reduceMul]
  by_cases h : j < s.length
  · simp only [nd0, Y1n, Y1o, Y1p, Y1q, Y1w, Y1x, Y1y, Y1z, Y20, Y21, Y28, Y2a, AV.cells?, Nat.reduceAdd, Nat.reduceMul, decide_eq_true (show (j : Int) < (s.length : Int) by omega)]
    rw [idxS h]
    simp only [nd0, Y1n, Y1o, Y1p, Y1q, Y1w, Y1x, Y1y, Y1z, Y20, Y21, Y28, Y2a, AV.cells?, Nat.reduceAdd, Nat.reduceMul]
    by_cases h2 : (s[j].toNat : Int) = 32
    · simp only [nd0, Y1n, Y1o, Y1p, Y1q, Y1w, Y1x, Y1y, Y1z, Y20, Y21, Y28, Y2a, AV.cells?, Nat.reduceAdd, Nat.reduceMul, decide_eq_true h2]
      rw [binA_succ (by omega)]
      simp only [nd0, Y1n, Y1o, Y1p, Y1q, Y1w, Y1x, Y1y, Y1z, Y20, Y21, Y28, Y2a, AV.cells?, Nat.reduceAdd, Nat.reduceMul]
      rw [store1_L rfl]
      simp only [nd0, Y1n, Y1o, Y1p, Y1q, Y1w, Y1x, Y1y, Y1z, Y20, Y21, Y28, Y2a, AV.cells?, Nat.reduceAdd, Nat.reduceMul, Nat.reduceLT]
      refine back0.mk (s.length - (j + 1)) (by omega) ⟨j + 1, c, rfl, by omega, ?_, rfl⟩
      rw [← he]
      exact (skipTo_step ((at_eq h).2 h2)).symm
    · simp only [nd0, Y1n, Y1o, Y1p, Y1q, Y1w, Y1x, Y1y, Y1z, Y20, Y21, Y28, Y2a, AV.cells?, Nat.reduceAdd, Nat.reduceMul, decide_eq_false h2]
      refine hR _ _ (rd s j) [] c (.same _) ⟨rfl, ?_⟩
      rw [← he, skipTo_stop (fun e => h2 ((at_eq h).1 e))]
  · simp only [nd0, Y1n, Y1o, Y1p, Y1q, Y1w, Y1x, Y1y, Y1z, Y20, Y21, Y28, Y2a, AV.cells?, Nat.reduceAdd, Nat.reduceMul, decide_eq_false (show ¬ (j : Int) < (s.length : Int) by omega)]
    refine hR _ _ (rd s j) [] c (.same _) ⟨rfl, ?_⟩
    rw [← he, skipTo_stop (by rw [List.getElem?_eq_none (by omega)]; simp)]
theorem take_spec (B : ReadBodies E P) (s : Str) (i : Nat) (ch : UInt8) (hi : i ≤ s.length) (hs : s.length < 1000000) : PC E P 143 2 (rd s i) (fun b g => [.ptrL b 0 g, By ch]) (fun r cs => r = Bo (decide (s[skipTo s i]? = some ch)) ∧ cs = rd s (if s[skipTo s i]? = some ch then skipTo s i + 1 else skipTo s i)) := by
  refine PC.of (fun _ _ => rfl) (rd_closed s i) (by rintro r cs ⟨rfl, rfl⟩; exact ⟨trivial, rd_closed _ _⟩) fun n g R hR => B.take _ _ _ _ ?_
  unfold F.pexpr_reader_take
  refine wCall.pc (b := 0) (blanks_spec B s i hi hs) rfl rfl ?_
  rintro r cs n ⟨rfl, rfl⟩
  have hk := skipTo_len hi
  generalize skipTo s i = k at hk hR
  unfold rd
  simp only [nd0, Y1n, Y1o, Y1p, Y1q, Y1w, Y1x, Y1y, Y1z, Y20, Y21, Y28, Y2a, AV.cells?, Nat.reduceAdd, Nat.reduceMul]
  by_cases h : k < s.length
  · simp only [nd0, Y1n, Y1o, Y1p, Y1q, Y1w, Y1x, Y1y, Y1z, Y20, Y21, Y28, Y2a, AV.cells?, Nat.reduceAdd, Nat.reduceMul, decide_eq_true (show (k : Int) < (s.length : Int) by omega)]
    rw [idxS h]
    simp only [nd0, Y1n, Y1o, Y1p, Y1q, Y1w, Y1x, Y1y, Y1z, Y20, Y21, Y28, Y2a, AV.cells?, Nat.reduceAdd, Nat.reduceMul]
    by_cases h2 : (s[k].toNat : Int) = ch.toNat
    · simp only [nd0, Y1n, Y1o, Y1p, Y1q, Y1w, Y1x, Y1y, Y1z, Y20, Y21, Y28, Y2a, AV.cells?, Nat.reduceAdd, Nat.reduceMul, decide_eq_true h2]
      rw [binA_succ (by omega)]
      simp only [nd0, Y1n, Y1o, Y1p, Y1q, Y1w, Y1x, Y1y, Y1z, Y20, Y21, Y28, Y2a, AV.cells?, Nat.reduceAdd, Nat.reduceMul]
      rw [store1_L rfl]
      simp only [nd0, Y1n, Y1o, Y1p, Y1q, Y1w, Y1x, Y1y, Y1z, Y20, Y21, Y28, Y2a, AV.cells?, Nat.reduceAdd, Nat.reduceMul, Nat.reduceLT]
      have h3 := (at_eq h).2 h2
      refine hR _ _ (rd s (k + 1)) [] n (.same _) ?_
      rw [if_pos h3, decide_eq_true h3]
      exact ⟨rfl, rfl⟩
    · simp only [nd0, Y1n, Y1o, Y1p, Y1q, Y1w, Y1x, Y1y, Y1z, Y20, Y21, Y28, Y2a, AV.cells?, Nat.reduceAdd, Nat.reduceMul, decide_eq_false h2]
      have h3 : ¬ s[k]? = some ch := fun e => h2 ((at_eq h).1 e)
      refine hR _ _ (rd s k) [] n (.same _) ?_
      rw [if_neg h3, decide_eq_false h3]
      exact ⟨rfl, rfl⟩
  · simp only [nd0, Y1n, Y1o, Y1p, Y1q, Y1w, Y1x, Y1y, Y1z, Y20, Y21, Y28, Y2a, AV.cells?, Nat.reduceAdd, Nat.reduceMul, decide_eq_false (show ¬ (k : Int) < (s.length : Int) by omega)]
    have h3 : ¬ s[k]? = some ch := by rw [List.getElem?_eq_none (by omega)]; simp
    refine hR _ _ (rd s k) [] n (.same _) ?_
    rw [if_neg h3, decide_eq_false h3]
    exact ⟨rfl, rfl⟩
theorem fail_spec (B : ReadBodies E P) (s : Str) (i e : Nat) (hi : i ≤ s.length) (hs : s.length < 1000000) : PC E P 135 2 (rd s i) (fun b g => [.ptrL b 0 g, Z e]) (fun r cs => r = At e (skipTo s i) ∧ cs = rd s (skipTo s i)) := by
  refine PC.of (fun _ _ => rfl) (rd_closed s i) (by rintro r cs ⟨rfl, rfl⟩; exact ⟨At_closed _ _, rd_closed _ _⟩) fun n g R hR => B.fail _ _ _ _ ?_
  unfold F.pexpr_reader_fail
  refine wCall.pc (b := 0) (blanks_spec B s i hi hs) rfl rfl ?_
  rintro r cs n ⟨rfl, rfl⟩
  generalize skipTo s i = k at hR
  unfold rd
  simp only [nd0, Y1n, Y1o, Y1p, Y1q, Y1w, Y1x, Y1y, Y1z, Y20, Y21, Y28, Y2a, AV.cells?, Nat.reduceAdd, Nat.reduceMul, show fillA [Z 0, Z 0] [(0, 1, Z e), (1, 1, Z k)] = some [Z e, Z k] from rfl]
  refine wNew.F' (l := [Z e, Z k]) rfl ?_
  exact hR _ _ (rd s k) [] n (.same _) ⟨rfl, rfl⟩
theorem mem11 {c : UInt8} : c ∈ stop11 ↔ c ∈ stop9 ∨ c = 48 ∨ c = 49 := by
  simp only [stop11, stop9, List.mem_cons, List.not_mem_nil, or_false]
  constructor
  · rintro (h | h | h | h | h | h | h | h | h | h | h) <;> simp [h]
  · rintro ((h | h | h | h | h | h | h | h | h) | h | h) <;> simp [h]
theorem byk {c : UInt8} {n : Nat} (hn : n < 256) : ((c.toNat : Int) = n) ↔ c = UInt8.ofNat n := by
  constructor
  · intro h
    apply UInt8.toNat_inj.1
    rw [UInt8.toNat_ofNat']
    omega
  · rintro rfl
    rw [UInt8.toNat_ofNat']
    omega
theorem word_cond (B : ReadBodies E P) {s : Str} {k j g c : Nat} {K : Kt} (hkj : k ≤ j) (hj : j ≤ s.length) (hs : s.length < 1000000) (h : ∀ c, K (Bo (wc s k j)) ⟨[.cells g 2 [S s, Z k]], c⟩) :
  wGet (nilA (.ptrL 0 0 g)) ⟨[.cells g 2 [S s, Z k]], c⟩ fun t14 H =>
  wGet (faddr 0 t14) H fun t15 H =>
  wGet (load1 t15 H) H fun t16 H =>
  wGet (lenS t16) H fun t17 H =>
  wGet (binA .lss (Z j) t17) H fun t18 H =>
  wGuard t18 true H (fun k => k (.ptrL 0 0 g) H) fun t20 H =>
  wGuard t18 true H (fun k => wGet (nilA t20) H k) fun t21 H =>
  wGuard t18 true H (fun k => wGet (faddr 0 t21) H k) fun t22 H =>
  wGuard t18 true H (fun k => wGet (load1 t22 H) H k) fun t23 H =>
  wGuard t18 true H (fun k => k (Z j) H) fun t24 H =>
  wGuard t18 true H (fun k => wGet (idxStr t23 t24) H k) fun t25 H =>
  wGuard t18 true H (fun k => wCall E P 21 [(.val (.string ⟨#[32, 38, 124, 33, 94, 126, 40, 41, 48, 49, 61]⟩)), t25] H k) fun t26 H =>
  wGuard t18 true H (fun k => wGet (binA .lss t26 (.val (.int .i64 0))) H k) fun t27 H =>
  wGet (pickA t18 t27 (.val (.bool false))) H fun t28 H =>
  wGuard t28 false H (fun k => k (Z j) H) fun t30 H =>
  wGuard t28 false H (fun k => k (.ptrL 0 0 g) H) fun t31 H =>
  wGuard t28 false H (fun k => wGet (nilA t31) H k) fun t32 H =>
  wGuard t28 false H (fun k => wGet (faddr 1 t32) H k) fun t33 H =>
  wGuard t28 false H (fun k => wGet (load1 t33 H) H k) fun t34 H =>
  wGuard t28 false H (fun k => wGet (binA .gtr t30 t34) H k) fun t35 H =>
  wGuard t28 false H (fun k => k t35 H) fun t36 H =>
  wGuard t36 true H (fun k => k (Z j) H) fun t37 H =>
  wGuard t36 true H (fun k => k (.ptrL 0 0 g) H) fun t38 H =>
  wGuard t36 true H (fun k => wGet (nilA t38) H k) fun t39 H =>
  wGuard t36 true H (fun k => wGet (faddr 0 t39) H k) fun t40 H =>
  wGuard t36 true H (fun k => wGet (load1 t40 H) H k) fun t41 H =>
  wGuard t36 true H (fun k => wGet (lenS t41) H k) fun t42 H =>
  wGuard t36 true H (fun k => wGet (binA .lss t37 t42) H k) fun t43 H =>
  wGuard t28 false H (fun k => wGet (pickA t36 t43 (.val (.bool false))) H k) fun t44 H =>
  wGuard t28 false H (fun k => k t44 H) fun t45 H =>
  wGuard t45 true H (fun k => k (.ptrL 0 0 g) H) fun t46 H =>
  wGuard t45 true H (fun k => wGet (nilA t46) H k) fun t47 H =>
  wGuard t45 true H (fun k => wGet (faddr 0 t47) H k) fun t48 H =>
  wGuard t45 true H (fun k => wGet (load1 t48 H) H k) fun t49 H =>
  wGuard t45 true H (fun k => k (Z j) H) fun t50 H =>
  wGuard t45 true H (fun k => wGet (idxStr t49 t50) H k) fun t51 H =>
  wGuard t45 true H (fun k => wGet (binA .eql t51 (.val (.int .u8 48))) H k) fun t52 H =>
  wGuard t45 true H (fun k => k t52 H) fun t53 H =>
  wGuard t53 false H (fun k => k (.ptrL 0 0 g) H) fun t54 H =>
  wGuard t53 false H (fun k => wGet (nilA t54) H k) fun t55 H =>
  wGuard t53 false H (fun k => wGet (faddr 0 t55) H k) fun t56 H =>
  wGuard t53 false H (fun k => wGet (load1 t56 H) H k) fun t57 H =>
  wGuard t53 false H (fun k => k (Z j) H) fun t58 H =>
  wGuard t53 false H (fun k => wGet (idxStr t57 t58) H k) fun t59 H =>
  wGuard t53 false H (fun k => wGet (binA .eql t59 (.val (.int .u8 49))) H k) fun t60 H =>
  wGuard t45 true H (fun k => wGet (pickA t53 (.val (.bool true)) t60) H k) fun t61 H =>
  wGuard t28 false H (fun k => wGet (pickA t45 t61 (.val (.bool false))) H k) fun t62 H =>
  wGet (pickA t28 (.val (.bool true)) t62) H K := by
  simp only [nd0, Y1n, Y1o, Y1p, Y1q, Y1w, Y1x, Y1y, Y1z, Y20, Y21, Y28, Y2a, AV.cells?, Nat.reduceAdd, Nat.reduceMul]
  by_cases hl : j < s.length
  · have hat := at_some hl
    simp only [nd0, Y1n, Y1o, Y1p, Y1q, Y1w, Y1x, Y1y, Y1z, Y20, Y21, Y28, Y2a, AV.cells?, Nat.reduceAdd, Nat.reduceMul, decide_eq_true (show (j : Int) < (s.length : Int) by omega)]
    rw [idxS hl]
    simp only [nd0, Y1n, Y1o, Y1p, Y1q, Y1w, Y1x, Y1y, Y1z, Y20, Y21, Y28, Y2a, AV.cells?, Nat.reduceAdd, Nat.reduceMul]
    refine wCall.fx (B.r.ib stop11 s[j]) fun n2 => ?_
    simp only [nd0, Y1n, Y1o, Y1p, Y1q, Y1w, Y1x, Y1y, Y1z, Y20, Y21, Y28, Y2a, AV.cells?, Nat.reduceAdd, Nat.reduceMul]
    by_cases hm : s[j] ∈ stop11
    · simp only [nd0, Y1n, Y1o, Y1p, Y1q, Y1w, Y1x, Y1y, Y1z, Y20, Y21, Y28, Y2a, AV.cells?, Nat.reduceAdd, Nat.reduceMul, decide_eq_false (show ¬ idx stop11 s[j] < 0 from fun e => idx_neg.1 e hm)]
      by_cases hjk : k < j
      · simp only [nd0, Y1n, Y1o, Y1p, Y1q, Y1w, Y1x, Y1y, Y1z, Y20, Y21, Y28, Y2a, AV.cells?, Nat.reduceAdd, Nat.reduceMul, decide_eq_true (show (k : Int) < (j : Int) by omega), decide_eq_true (show (j : Int) < (s.length : Int) by omega)]
        rw [idxS hl]
        simp only [nd0, Y1n, Y1o, Y1p, Y1q, Y1w, Y1x, Y1y, Y1z, Y20, Y21, Y28, Y2a, AV.cells?, Nat.reduceAdd, Nat.reduceMul]
        by_cases h48 : (s[j].toNat : Int) = 48
        · simp only [nd0, Y1n, Y1o, Y1p, Y1q, Y1w, Y1x, Y1y, Y1z, Y20, Y21, Y28, Y2a, AV.cells?, Nat.reduceAdd, Nat.reduceMul, decide_eq_true h48]
          have e := (byk (n := 48) (by omega)).1 h48
          have : wc s k j = true := by simp only [wc, hat, e]; simp [stop9, hjk]
          rw [this] at h
          exact h _
        · simp only [nd0, Y1n, Y1o, Y1p, Y1q, Y1w, Y1x, Y1y, Y1z, Y20, Y21, Y28, Y2a, AV.cells?, Nat.reduceAdd, Nat.reduceMul, decide_eq_false h48]
          rw [idxS hl]
          simp only [nd0, Y1n, Y1o, Y1p, Y1q, Y1w, Y1x, Y1y, Y1z, Y20, Y21, Y28, Y2a, AV.cells?, Nat.reduceAdd, Nat.reduceMul]
          by_cases h49 : (s[j].toNat : Int) = 49
          · simp only [nd0, Y1n, Y1o, Y1p, Y1q, Y1w, Y1x, Y1y, Y1z, Y20, Y21, Y28, Y2a, AV.cells?, Nat.reduceAdd, Nat.reduceMul, decide_eq_true h49]
            have e := (byk (n := 49) (by omega)).1 h49
            have : wc s k j = true := by simp only [wc, hat, e]; simp [stop9, hjk]
            rw [this] at h
            exact h _
          · simp only [nd0, Y1n, Y1o, Y1p, Y1q, Y1w, Y1x, Y1y, Y1z, Y20, Y21, Y28, Y2a, AV.cells?, Nat.reduceAdd, Nat.reduceMul, decide_eq_false h49]
            have h9 : s[j] ∈ stop9 := (mem11.1 hm).resolve_right (by
              rintro (e | e)
              · exact h48 ((byk (n := 48) (by omega)).2 e)
              · exact h49 ((byk (n := 49) (by omega)).2 e))
            have : wc s k j = false := by simp only [wc, hat, decide_eq_true h9]; simp
            rw [this] at h
            exact h _
      · simp only [nd0, Y1n, Y1o, Y1p, Y1q, Y1w, Y1x, Y1y, Y1z, Y20, Y21, Y28, Y2a, AV.cells?, Nat.reduceAdd, Nat.reduceMul, decide_eq_false (show ¬ (k : Int) < (j : Int) by omega)]
        have : wc s k j = false := by
          simp only [wc, hat, decide_eq_false hjk]
          rcases mem11.1 hm with h9 | h9 | h9
          · simp [h9]
          · simp [h9]
          · simp [h9]
        rw [this] at h
        exact h _
    · simp only [nd0, Y1n, Y1o, Y1p, Y1q, Y1w, Y1x, Y1y, Y1z, Y20, Y21, Y28, Y2a, AV.cells?, Nat.reduceAdd, Nat.reduceMul, decide_eq_true (show idx stop11 s[j] < 0 from idx_neg.2 hm)]
      have : wc s k j = true := by
        simp only [wc, hat]
        have := fun e => hm (mem11.2 e)
        have h9 : s[j] ∉ stop9 := fun e => this (.inl e)
        have h48 : s[j] ≠ 48 := fun e => this (.inr (.inl e))
        have h49 : s[j] ≠ 49 := fun e => this (.inr (.inr e))
        simp [h9, h48, h49]
      rw [this] at h
      exact h _
  · have : wc s k j = false := by
      cases hw : wc s k j
      · rfl
      · exact absurd (wc_lt hw) hl
    rw [this] at h
    simp only [nd0, Y1n, Y1o, Y1p, Y1q, Y1w, Y1x, Y1y, Y1z, Y20, Y21, Y28, Y2a, AV.cells?, Nat.reduceAdd, Nat.reduceMul, decide_eq_false (show ¬ (j : Int) < (s.length : Int) by omega)]
    by_cases hjk : k < j
    · simp only [nd0, Y1n, Y1o, Y1p, Y1q, Y1w, Y1x, Y1y, Y1z, Y20, Y21, Y28, Y2a, AV.cells?, Nat.reduceAdd, Nat.reduceMul, decide_eq_true (show (k : Int) < (j : Int) by omega), decide_eq_false (show ¬ (j : Int) < (s.length : Int) by omega)]
      exact h _
    · simp only [nd0, Y1n, Y1o, Y1p, Y1q, Y1w, Y1x, Y1y, Y1z, Y20, Y21, Y28, Y2a, AV.cells?, Nat.reduceAdd, Nat.reduceMul, decide_eq_false (show ¬ (k : Int) < (j : Int) by omega)]
      exact h _
/-- the name at a place, if it may be one -/
theorem word_spec (B : ReadBodies E P) (s : Str) (i : Nat) (hi : i ≤ s.length) (hs : s.length < 1000000) : PC E P 145 2 (rd s i) (fun b g => [.ptrL b 0 g]) (fun r cs => match wordR s i with
    | .ok w j => r = .tup [S w, nilE] ∧ cs = rd s j
    | .no e p => r = .tup [S [], At e p] ∧ ∃ j, cs = rd s j) := by
  refine PC.of (fun _ _ => rfl) (rd_closed s i) ?_ fun n g R hR => B.word _ _ _ ?_
  · intro r cs h
    cases hw : wordR s i with
    | ok w j => rw [hw] at h; obtain ⟨rfl, rfl⟩ := h; exact ⟨⟨trivial, trivial, trivial⟩, rd_closed _ _⟩
    | no e p => rw [hw] at h; obtain ⟨rfl, j, rfl⟩ := h; exact ⟨⟨trivial, At_closed _ _, trivial⟩, rd_closed _ _⟩
  unfold F.pexpr_reader_word
  refine wCall.pc (b := 0) (blanks_spec B s i hi hs) rfl rfl ?_
  rintro r cs n ⟨rfl, rfl⟩
  have hk := skipTo_len hi
  have hid := skipTo_idem s i
  unfold wordR at hR
  generalize skipTo s i = k at hk hR hid
  refine wGet_some.2 (wGet_some.2 ⟨⟨Z k, by simp [load1, AH.cells, rd], ?_⟩⟩)
  have hwe := wEnd_ge s k k
  have hwl := wEnd_len (i := k) hk
  refine wLoop.one (fun m t H => ∃ j c, m = s.length - j ∧ k ≤ j ∧ j ≤ s.length ∧ wEnd s k j = wEnd s k k ∧ t = Z j ∧ H = ⟨[.cells g 2 [S s, Z k]], c⟩) (s.length - k) (gh1.mk ⟨k, n, rfl, Nat.le_refl _, hk, rfl, rfl, rfl⟩) ?_
  rintro m t H ⟨j, c, rfl, hkj, hj, he, rfl, rfl⟩
  refine word_cond B hkj hj hs fun c => ?_
  cases hw : wc s k j with
  | true =>
    have := wc_lt hw
    simp only [nd0, Y1n, Y1o, Y1p, Y1q, Y1w, Y1x, Y1y, Y1z, Y20, Y21, Y28, Y2a, AV.cells?, Nat.reduceAdd, Nat.reduceMul]
    rw [binA_succ (by omega)]
    simp only [nd0, Y1n, Y1o, Y1p, Y1q, Y1w, Y1x, Y1y, Y1z, Y20, Y21, Y28, Y2a, AV.cells?, Nat.reduceAdd, Nat.reduceMul]
    exact back1.mk (s.length - (j + 1)) (by omega) ⟨j + 1, c, rfl, by omega, by omega, by rw [← he, wEnd_step hw], rfl, rfl⟩
  | false =>
    simp only [nd0, Y1n, Y1o, Y1p, Y1q, Y1w, Y1x, Y1y, Y1z, Y20, Y21, Y28, Y2a, AV.cells?, Nat.reduceAdd, Nat.reduceMul]
    rw [wEnd_stop hw] at he
    rw [sliceS_S (l := k) (h := j) rfl rfl (by omega) (by omega) (by omega)]
    have hwd : (s.take ((j : Int)).toNat).drop ((k : Int)).toNat = wordAt s k := by
      rw [wordAt, ← he]; simp
    rw [hwd]
    simp only [nd0, Y1n, Y1o, Y1p, Y1q, Y1w, Y1x, Y1y, Y1z, Y20, Y21, Y28, Y2a, AV.cells?, Nat.reduceAdd, Nat.reduceMul, show (AV.val (.string ⟨#[]⟩)) = S [] from rfl]
    by_cases h1 : wordAt s k = []
    · rw [if_pos h1] at hR
      simp only [nd0, Y1n, Y1o, Y1p, Y1q, Y1w, Y1x, Y1y, Y1z, Y20, Y21, Y28, Y2a, AV.cells?, Nat.reduceAdd, Nat.reduceMul, decide_eq_true h1]
      refine wCall.pc (b := 0) (fail_spec B s k 3 hk hs) rfl rfl ?_
      rintro r cs n ⟨rfl, rfl⟩
      exact hR _ _ _ [] n (.same _) ⟨by rw [hid], _, rfl⟩
    · rw [if_neg h1] at hR
      simp only [nd0, Y1n, Y1o, Y1p, Y1q, Y1w, Y1x, Y1y, Y1z, Y20, Y21, Y28, Y2a, AV.cells?, Nat.reduceAdd, Nat.reduceMul, decide_eq_false h1]
      refine wCall.fx (Name_spec B.n (wordAt s k)) fun n => ?_
      simp only [nd0, Y1n, Y1o, Y1p, Y1q, Y1w, Y1x, Y1y, Y1z, Y20, Y21, Y28, Y2a, AV.cells?, Nat.reduceAdd, Nat.reduceMul]
      by_cases h2 : nameOk (wordAt s k) = false
      · rw [if_pos h2] at hR
        simp only [nd0, Y1n, Y1o, Y1p, Y1q, Y1w, Y1x, Y1y, Y1z, Y20, Y21, Y28, Y2a, AV.cells?, Nat.reduceAdd, Nat.reduceMul, h2]
        refine wCall.pc (b := 0) (fail_spec B s k 5 hk hs) rfl rfl ?_
        rintro r cs n ⟨rfl, rfl⟩
        exact hR _ _ _ [] n (.same _) ⟨by rw [hid], _, rfl⟩
      · rw [if_neg h2] at hR
        simp only [nd0, Y1n, Y1o, Y1p, Y1q, Y1w, Y1x, Y1y, Y1z, Y20, Y21, Y28, Y2a, AV.cells?, Nat.reduceAdd, Nat.reduceMul, show nameOk (wordAt s k) = true by simpa using h2]
        rw [store1_L rfl]
        simp only [nd0, Y1n, Y1o, Y1p, Y1q, Y1w, Y1x, Y1y, Y1z, Y20, Y21, Y28, Y2a, AV.cells?, Nat.reduceAdd, Nat.reduceMul, Nat.reduceLT]
        exact hR _ _ (rd s j) [] n (.same _) ⟨rfl, by rw [← he]⟩
end
end Go.Sc
namespace Go.Sc
open Go
set_option linter.unusedSimpArgs false
set_option linter.unusedVariables false
set_option linter.unnecessarySimpa false
structure ParseBodies (E : Env) (P : Program) : Prop where
  d : ReadBodies E P
  several : Body4 E P 140 F.pexpr_reader_several
  or : Body2 E P 133 F.pexpr_reader_or
  and : Body2 E P 139 F.pexpr_reader_and
  one : Body2 E P 144 F.pexpr_reader_one
  parse : Body1 E P 126 F.expr_Parse
/-- what a reader of expressions answers -/
def PX (s : Str) (r : Rs Ex) (x : AV) (cs : List AV) : Prop := match r with
  | .ok e j => x = .tup [e.enc, nilE] ∧ cs = rd s j
  | .no e p => ∃ z, x = .tup [z, At e p] ∧ z.closed ∧ ∃ j, cs = rd s j
theorem PX.closed {s : Str} {r : Rs Ex} {x : AV} {cs : List AV} (h : PX s r x cs) : x.closed ∧ AV.closedL cs := by
  unfold PX at h
  split at h
  · obtain ⟨rfl, rfl⟩ := h; exact ⟨⟨Ex.enc_closed _, trivial, trivial⟩, rd_closed _ _⟩
  · obtain ⟨z, rfl, hz, j, rfl⟩ := h; exact ⟨⟨hz, At_closed _ _, trivial⟩, rd_closed _ _⟩
def PL (s : Str) (r : Rs (List Ex)) (x : AV) (cs : List AV) : Prop := match r with
  | .ok l j => x = .tup [.slN (Ex.encL l) l.length, nilE] ∧ cs = rd s j
  | .no e p => x = .tup [nilS, At e p] ∧ ∃ j, cs = rd s j
theorem PL.closed {s : Str} {r : Rs (List Ex)} {x : AV} {cs : List AV} (h : PL s r x cs) : x.closed ∧ AV.closedL cs := by
  unfold PL at h
  split at h
  · obtain ⟨rfl, rfl⟩ := h; exact ⟨⟨Ex.encL_closed _, trivial, trivial⟩, rd_closed _ _⟩
  · obtain ⟨rfl, j, rfl⟩ := h; exact ⟨⟨trivial, At_closed _ _, trivial⟩, rd_closed _ _⟩
theorem fill1 {z x : AV} (h : x.scalar = true) : fillA (List.replicate 1 [z]).flatten [(0, 1, x)] = some [x] := by
  show fillA [z] _ = _
  rw [fillA_one h (by simp)]; rfl
theorem eqA_At {e p : Int} : eqA .iface (At e p) nilE = some false := rfl
theorem Ex.encL_len (l : List Ex) : (Ex.encL l).length = l.length := by rw [Ex.encL_map, List.length_map]
theorem Ex.encL_snoc (l : List Ex) (x : Ex) : Ex.encL (l ++ [x]) = Ex.encL l ++ [x.enc] := by simp [Ex.encL_map]
section
variable {E : Env} {P : Program}
theorem several_spec (B : ParseBodies E P) (s : Str) (hs : s.length < 1000000) (c : UInt8) (f : Nat → Rs Ex) (hgood : GoodR s f) (kf : Nat) (d : Nat) (hf : ∀ i, i ≤ s.length → PC E P kf 2 (rd s i) (fun b g => [.ptrL b 0 g, Z d]) (PX s (f i))) (i : Nat) (hi : i ≤ s.length) :
    PC E P 140 2 (rd s i) (fun b g => [.ptrL b 0 g, By c, Z d, .fn kf [.ptrL b 0 g] []]) (PL s (rowR s c f (s.length + 1) i [])) := by
  refine PC.of (fun _ _ => rfl) (rd_closed s i) (fun _ _ h => h.closed) fun n g R hR => B.several _ _ _ _ _ _ ?_
  unfold F.pexpr_reader_several
  refine wLoop.one (fun m t H => ∃ i' l n z c', m = s.length - i' ∧ i' ≤ s.length ∧ l.length ≤ i' ∧ s.length < n + i' ∧ rowR s c f (s.length + 1) i [] = rowR s c f n i' l ∧ Gr 1 z 1 t (Ex.encL l) l.length ∧ H = ⟨[.cells g 2 (rd s i'), z], c'⟩) (s.length - i)
    (gh1.of (ghost_room [.dead] (by simp)) ⟨i, [], s.length + 1, .dead, n, rfl, hi, by simp, by omega, rfl, .nil, rfl⟩) ?_
  rintro m t H ⟨i', l, n', z, c', rfl, hi', hl, hn, hrow, hg, rfl⟩
  obtain ⟨n', rfl⟩ : ∃ k, n' = k + 1 := ⟨n' - 1, by omega⟩
  refine wCallV.pc (b := 0) (hf i' hi') rfl rfl ?_
  intro r cs n2 hr
  rw [hrow] at hR
  simp only [rowR] at hR
  cases hx : f i' with
  | no e p =>
    rw [hx] at hr hR
    obtain ⟨zz, rfl, hz, j, rfl⟩ := hr
    simp only [nd0, Y1n, Y1o, Y1p, Y1q, Y1w, Y1x, Y1y, Y1z, Y20, Y21, Y28, Y2a, AV.cells?, Nat.reduceAdd, Nat.reduceMul, eqA_At]
    exact hR _ _ (rd s j) [z] n2 (.same _) ⟨rfl, j, rfl⟩
  | ok x j =>
    rw [hx] at hr hR
    obtain ⟨rfl, rfl⟩ := hr
    obtain ⟨a1, a2, a3, a4⟩ := hgood i' x j hi' hx
    have b1 := skipTo_le s j
    have b2 := skipTo_len a2
    simp only [nd0, Y1n, Y1o, Y1p, Y1q, Y1w, Y1x, Y1y, Y1z, Y20, Y21, Y28, Y2a, AV.cells?, Nat.reduceAdd, Nat.reduceMul]
    refine wNewS.F' (l := [x.enc]) (fill1 (Ex.enc_scalar x)) rfl ?_
    refine wApp.one hg rfl (Ex.encL_len l) (.refl _) (Ex.enc_scalar x) (by simp [mostBytes]; omega) ?_
    intro z' x' c2 hg'
    simp only [nd0, Y1n, Y1o, Y1p, Y1q, Y1w, Y1x, Y1y, Y1z, Y20, Y21, Y28, Y2a, AV.cells?, Nat.reduceAdd, Nat.reduceMul]
    refine wCall.pc (b := 0) (take_spec B.d s j c a2 hs) rfl rfl ?_
    rintro r cs n3 ⟨rfl, rfl⟩
    by_cases hc : s[skipTo s j]? = some c
    · have hlt := lt_of_get hc
      simp only [hc, if_true] at hR ⊢
      simp only [nd0, Y1n, Y1o, Y1p, Y1q, Y1w, Y1x, Y1y, Y1z, Y20, Y21, Y28, Y2a, AV.cells?, Nat.reduceAdd, Nat.reduceMul]
      refine back1.mk (s.length - (skipTo s j + 1)) (by omega) ⟨skipTo s j + 1, l ++ [x], n', z', n3, rfl, by omega, by simp; omega, by omega, ?_, ?_, rfl⟩
      · rw [hrow, rowR, hx]; simp only [hc, if_true]
      · rw [Ex.encL_snoc, List.length_append]; exact hg'
    · simp only [if_neg hc] at hR ⊢
      simp only [nd0, Y1n, Y1o, Y1p, Y1q, Y1w, Y1x, Y1y, Y1z, Y20, Y21, Y28, Y2a, AV.cells?, Nat.reduceAdd, Nat.reduceMul, decide_eq_false hc]
      have hg2 : Gr 1 z' 1 x' (Ex.encL (l ++ [x])) (l ++ [x]).length := by rw [Ex.encL_snoc, List.length_append]; exact hg'
      exact hR _ _ (rd s (skipTo s j)) [z'] n3 (.tup (.cons (.sub hg2.sub) (FkL.same _))) ⟨rfl, rfl⟩
theorem and_spec (B : ParseBodies E P) (s : Str) (hs : s.length < 1000000) (f : Nat → Rs Ex) (hgood : GoodR s f) (d : Nat) (hf : ∀ i, i ≤ s.length → PC E P 144 2 (rd s i) (fun b g => [.ptrL b 0 g, Z d]) (PX s (f i))) (i : Nat) (hi : i ≤ s.length) :
    PC E P 139 2 (rd s i) (fun b g => [.ptrL b 0 g, Z d]) (PX s (andR s f i)) := by
  refine PC.of (fun _ _ => rfl) (rd_closed s i) (fun _ _ h => h.closed) fun n g R hR => B.and _ _ _ _ ?_
  unfold F.pexpr_reader_and
  refine wCall.pc (b := 0) (several_spec B s hs 38 f hgood 144 d hf i hi) rfl rfl ?_
  intro r cs n2 hr
  unfold andR allR at hR
  cases hx : rowR s 38 f (s.length + 1) i [] with
  | no e p =>
    rw [hx] at hr hR
    obtain ⟨rfl, j, rfl⟩ := hr
    simp only [nd0, Y1n, Y1o, Y1p, Y1q, Y1w, Y1x, Y1y, Y1z, Y20, Y21, Y28, Y2a, AV.cells?, Nat.reduceAdd, Nat.reduceMul, eqA_At]
    exact hR _ _ (rd s j) [] n2 (.same _) ⟨_, rfl, trivial, j, rfl⟩
  | ok l j =>
    rw [hx] at hr hR
    obtain ⟨rfl, rfl⟩ := hr
    simp only [nd0, Y1n, Y1o, Y1p, Y1q, Y1w, Y1x, Y1y, Y1z, Y20, Y21, Y28, Y2a, AV.cells?, Nat.reduceAdd, Nat.reduceMul]
    by_cases hl : l.length = 1
    · obtain ⟨x, rfl⟩ := List.length_eq_one_iff.1 hl
      simp only [nd0, Y1n, Y1o, Y1p, Y1q, Y1w, Y1x, Y1y, Y1z, Y20, Y21, Y28, Y2a, AV.cells?, Nat.reduceAdd, Nat.reduceMul, show (((1 : Nat)) : Int) = 1 from rfl]
      rw [show ((0 : Int)) = ((0 : Nat) : Int) from rfl, iaddr_Nn (by simp)]
      simp only [nd0, Y1n, Y1o, Y1p, Y1q, Y1w, Y1x, Y1y, Y1z, Y20, Y21, Y28, Y2a, AV.cells?, Nat.reduceAdd, Nat.reduceMul, Ex.encL]
      exact hR _ _ (rd s j) [] n2 (.same _) ⟨rfl, rfl⟩
    · simp only [nd0, Y1n, Y1o, Y1p, Y1q, Y1w, Y1x, Y1y, Y1z, Y20, Y21, Y28, Y2a, AV.cells?, Nat.reduceAdd, Nat.reduceMul, decide_eq_false (show ¬ (l.length : Int) = 1 by omega)]
      refine hR _ _ (rd s j) [] n2 (.same _) ⟨?_, rfl⟩
      have : foldR .and l = .and l := by
        match l with
        | [] => rfl
        | [x] => simp at hl
        | x :: y :: r => rfl
      rw [this]; rfl
theorem or_spec (B : ParseBodies E P) (s : Str) (hs : s.length < 1000000) (f : Nat → Rs Ex) (hgood : GoodR s f) (d : Nat) (hf : ∀ i, i ≤ s.length → PC E P 144 2 (rd s i) (fun b g => [.ptrL b 0 g, Z d]) (PX s (f i))) (i : Nat) (hi : i ≤ s.length) :
    PC E P 133 2 (rd s i) (fun b g => [.ptrL b 0 g, Z d]) (PX s (orR s f i)) := by
  refine PC.of (fun _ _ => rfl) (rd_closed s i) (fun _ _ h => h.closed) fun n g R hR => B.or _ _ _ _ ?_
  unfold F.pexpr_reader_or
  refine wCall.pc (b := 0) (several_spec B s hs 124 (andR s f) (andR_good hgood) 139 d (and_spec B s hs f hgood d hf) i hi) rfl rfl ?_
  intro r cs n2 hr
  unfold orR allR at hR
  cases hx : rowR s 124 (andR s f) (s.length + 1) i [] with
  | no e p =>
    rw [hx] at hr hR
    obtain ⟨rfl, j, rfl⟩ := hr
    simp only [nd0, Y1n, Y1o, Y1p, Y1q, Y1w, Y1x, Y1y, Y1z, Y20, Y21, Y28, Y2a, AV.cells?, Nat.reduceAdd, Nat.reduceMul, eqA_At]
    exact hR _ _ (rd s j) [] n2 (.same _) ⟨_, rfl, trivial, j, rfl⟩
  | ok l j =>
    rw [hx] at hr hR
    obtain ⟨rfl, rfl⟩ := hr
    simp only [nd0, Y1n, Y1o, Y1p, Y1q, Y1w, Y1x, Y1y, Y1z, Y20, Y21, Y28, Y2a, AV.cells?, Nat.reduceAdd, Nat.reduceMul]
    by_cases hl : l.length = 1
    · obtain ⟨x, rfl⟩ := List.length_eq_one_iff.1 hl
      simp only [nd0, Y1n, Y1o, Y1p, Y1q, Y1w, Y1x, Y1y, Y1z, Y20, Y21, Y28, Y2a, AV.cells?, Nat.reduceAdd, Nat.reduceMul, show (((1 : Nat)) : Int) = 1 from rfl]
      rw [show ((0 : Int)) = ((0 : Nat) : Int) from rfl, iaddr_Nn (by simp)]
      simp only [nd0, Y1n, Y1o, Y1p, Y1q, Y1w, Y1x, Y1y, Y1z, Y20, Y21, Y28, Y2a, AV.cells?, Nat.reduceAdd, Nat.reduceMul, Ex.encL]
      exact hR _ _ (rd s j) [] n2 (.same _) ⟨rfl, rfl⟩
    · simp only [nd0, Y1n, Y1o, Y1p, Y1q, Y1w, Y1x, Y1y, Y1z, Y20, Y21, Y28, Y2a, AV.cells?, Nat.reduceAdd, Nat.reduceMul, decide_eq_false (show ¬ (l.length : Int) = 1 by omega)]
      refine hR _ _ (rd s j) [] n2 (.same _) ⟨?_, rfl⟩
      have : foldR .or l = .or l := by
        match l with
        | [] => rfl
        | [x] => simp at hl
        | x :: y :: r => rfl
      rw [this]; rfl
set_option maxHeartbeats 1000000 in
theorem one_spec (B : ParseBodies E P) (s : Str) (hs : s.length < 1000000) : ∀ (d : Nat), d < 1000 → ∀ i, i ≤ s.length → PC E P 144 2 (rd s i) (fun b g => [.ptrL b 0 g, Z d]) (PX s (oneR s d i)) := by
  intro d
  induction d with
  | zero =>
    intro _ i hi
    refine PC.of (fun _ _ => rfl) (rd_closed s i) (fun _ _ h => h.closed) fun n g R hR => B.one _ _ _ _ ?_
    unfold F.pexpr_reader_one
    simp only [nd0, Y1n, Y1o, Y1p, Y1q, Y1w, Y1x, Y1y, Y1z, Y20, Y21, Y28, Y2a, AV.cells?, Nat.reduceAdd, Nat.reduceMul, show ((0 : Nat) : Int) = 0 from rfl]
    refine wCall.pc (b := 0) (fail_spec B.d s i 4 hi hs) rfl rfl ?_
    rintro r cs n2 ⟨rfl, rfl⟩
    exact hR _ _ _ [] n2 (.same _) ⟨_, rfl, trivial, _, rfl⟩
  | succ d ih =>
    intro hd i hi
    refine PC.of (fun _ _ => rfl) (rd_closed s i) (fun _ _ h => h.closed) fun n g R hR => B.one _ _ _ _ ?_
    have hgood := oneR_good s d
    have ih := ih (by omega)
    unfold F.pexpr_reader_one
    have hk := skipTo_len hi
    have hid := skipTo_idem s i
    have hsub : binA .sub (Z ((d + 1 : Nat) : Int)) (Z 1) = some (Z d) := by
      rw [binA_sub (by omega)]; congr 3; omega
    simp only [nd0, Y1n, Y1o, Y1p, Y1q, Y1w, Y1x, Y1y, Y1z, Y20, Y21, Y28, Y2a, AV.cells?, Nat.reduceAdd, Nat.reduceMul, decide_eq_false (show ¬ ((d + 1 : Nat) : Int) = 0 by omega)]
    refine wCall.pc (b := 0) (take_spec B.d s i 33 hi hs) rfl rfl ?_
    rintro r cs n1 ⟨rfl, rfl⟩
    unfold oneR at hR
    generalize skipTo s i = k at hk hid hR
    by_cases h33 : s[k]? = some 33
    · rw [if_pos h33] at hR
      have hlt := lt_of_get h33
      simp only [nd0, Y1n, Y1o, Y1p, Y1q, Y1w, Y1x, Y1y, Y1z, Y20, Y21, Y28, Y2a, AV.cells?, Nat.reduceAdd, Nat.reduceMul, decide_eq_true h33, if_pos h33, hsub]
      refine wCall.pc (b := 0) (ih (k + 1) (by omega)) rfl rfl ?_
      intro r cs n2 hr
      cases hx : oneR s d (k + 1) with
      | no e p =>
        rw [hx] at hr hR
        obtain ⟨zz, rfl, hz, j, rfl⟩ := hr
        simp only [nd0, Y1n, Y1o, Y1p, Y1q, Y1w, Y1x, Y1y, Y1z, Y20, Y21, Y28, Y2a, AV.cells?, Nat.reduceAdd, Nat.reduceMul, eqA_At]
        exact hR _ _ (rd s j) [] n2 (.same _) ⟨_, rfl, trivial, j, rfl⟩
      | ok x j =>
        rw [hx] at hr hR
        obtain ⟨rfl, rfl⟩ := hr
        simp only [nd0, Y1n, Y1o, Y1p, Y1q, Y1w, Y1x, Y1y, Y1z, Y20, Y21, Y28, Y2a, AV.cells?, Nat.reduceAdd, Nat.reduceMul, show fillA [nilE] [(0, 1, x.enc)] = some [x.enc] from by rw [fillA_one (Ex.enc_scalar x) (by simp)]; rfl]
        exact hR _ _ (rd s j) [] n2 (.same _) ⟨rfl, rfl⟩
    rw [if_neg h33] at hR
    simp only [nd0, Y1n, Y1o, Y1p, Y1q, Y1w, Y1x, Y1y, Y1z, Y20, Y21, Y28, Y2a, AV.cells?, Nat.reduceAdd, Nat.reduceMul, decide_eq_false h33, if_neg h33]
    refine wCall.pc (b := 0) (take_spec B.d s k 40 hk hs) rfl rfl ?_
    rintro r cs n1 ⟨rfl, rfl⟩
    rw [hid]
    by_cases h40 : s[k]? = some 40
    · rw [if_pos h40] at hR
      have hlt := lt_of_get h40
      simp only [nd0, Y1n, Y1o, Y1p, Y1q, Y1w, Y1x, Y1y, Y1z, Y20, Y21, Y28, Y2a, AV.cells?, Nat.reduceAdd, Nat.reduceMul, decide_eq_true h40, if_pos h40, hsub]
      refine wCall.pc (b := 0) (or_spec B s hs (oneR s d) hgood d ih (k + 1) (by omega)) rfl rfl ?_
      intro r cs n2 hr
      cases hx : orR s (oneR s d) (k + 1) with
      | no e p =>
        rw [hx] at hr hR
        obtain ⟨zz, rfl, hz, j, rfl⟩ := hr
        simp only [nd0, Y1n, Y1o, Y1p, Y1q, Y1w, Y1x, Y1y, Y1z, Y20, Y21, Y28, Y2a, AV.cells?, Nat.reduceAdd, Nat.reduceMul, eqA_At]
        exact hR _ _ (rd s j) [] n2 (.same _) ⟨_, rfl, trivial, j, rfl⟩
      | ok x j =>
        rw [hx] at hr hR
        obtain ⟨rfl, rfl⟩ := hr
        obtain ⟨a1, a2, a3, a4⟩ := orR_good hgood _ x j (by omega) hx
        simp only [nd0, Y1n, Y1o, Y1p, Y1q, Y1w, Y1x, Y1y, Y1z, Y20, Y21, Y28, Y2a, AV.cells?, Nat.reduceAdd, Nat.reduceMul]
        refine wCall.pc (b := 0) (take_spec B.d s j 41 a2 hs) rfl rfl ?_
        rintro r cs n3 ⟨rfl, rfl⟩
        simp only [closeR] at hR
        have b2 := skipTo_len a2
        by_cases h41 : s[skipTo s j]? = some 41
        · rw [if_pos h41] at hR
          simp only [nd0, Y1n, Y1o, Y1p, Y1q, Y1w, Y1x, Y1y, Y1z, Y20, Y21, Y28, Y2a, AV.cells?, Nat.reduceAdd, Nat.reduceMul, decide_eq_true h41, if_pos h41]
          exact hR _ _ (rd s (skipTo s j + 1)) [] n3 (.same _) ⟨rfl, rfl⟩
        · rw [if_neg h41] at hR
          simp only [nd0, Y1n, Y1o, Y1p, Y1q, Y1w, Y1x, Y1y, Y1z, Y20, Y21, Y28, Y2a, AV.cells?, Nat.reduceAdd, Nat.reduceMul, decide_eq_false h41, if_neg h41]
          refine wCall.pc (b := 0) (fail_spec B.d s (skipTo s j) 3 b2 hs) rfl rfl ?_
          rintro r cs n4 ⟨rfl, rfl⟩
          exact hR _ _ _ [] n4 (.same _) ⟨nilE, by rw [skipTo_idem], trivial, _, rfl⟩
    rw [if_neg h40] at hR
    simp only [nd0, Y1n, Y1o, Y1p, Y1q, Y1w, Y1x, Y1y, Y1z, Y20, Y21, Y28, Y2a, AV.cells?, Nat.reduceAdd, Nat.reduceMul, decide_eq_false h40, if_neg h40]
    refine wCall.pc (b := 0) (take_spec B.d s k 48 hk hs) rfl rfl ?_
    rintro r cs n1 ⟨rfl, rfl⟩
    rw [hid]
    by_cases h48 : s[k]? = some 48
    · rw [if_pos h48] at hR
      simp only [nd0, Y1n, Y1o, Y1p, Y1q, Y1w, Y1x, Y1y, Y1z, Y20, Y21, Y28, Y2a, AV.cells?, Nat.reduceAdd, Nat.reduceMul, decide_eq_true h48, if_pos h48]
      exact hR _ _ (rd s (k + 1)) [] n1 (.same _) ⟨rfl, rfl⟩
    rw [if_neg h48] at hR
    simp only [nd0, Y1n, Y1o, Y1p, Y1q, Y1w, Y1x, Y1y, Y1z, Y20, Y21, Y28, Y2a, AV.cells?, Nat.reduceAdd, Nat.reduceMul, decide_eq_false h48, if_neg h48]
    refine wCall.pc (b := 0) (take_spec B.d s k 49 hk hs) rfl rfl ?_
    rintro r cs n1 ⟨rfl, rfl⟩
    rw [hid]
    by_cases h49 : s[k]? = some 49
    · rw [if_pos h49] at hR
      simp only [nd0, Y1n, Y1o, Y1p, Y1q, Y1w, Y1x, Y1y, Y1z, Y20, Y21, Y28, Y2a, AV.cells?, Nat.reduceAdd, Nat.reduceMul, decide_eq_true h49, if_pos h49]
      exact hR _ _ (rd s (k + 1)) [] n1 (.same _) ⟨rfl, rfl⟩
    rw [if_neg h49] at hR
    simp only [nd0, Y1n, Y1o, Y1p, Y1q, Y1w, Y1x, Y1y, Y1z, Y20, Y21, Y28, Y2a, AV.cells?, Nat.reduceAdd, Nat.reduceMul, decide_eq_false h49, if_neg h49]
    refine wCall.pc (b := 0) (take_spec B.d s k 94 hk hs) rfl rfl ?_
    rintro r cs n1 ⟨rfl, rfl⟩
    rw [hid]
    by_cases h94 : s[k]? = some 94
    · rw [if_pos h94] at hR
      have hlt := lt_of_get h94
      simp only [nd0, Y1n, Y1o, Y1p, Y1q, Y1w, Y1x, Y1y, Y1z, Y20, Y21, Y28, Y2a, AV.cells?, Nat.reduceAdd, Nat.reduceMul, decide_eq_true h94, if_pos h94]
      refine wCall.pc (b := 0) (word_spec B.d s (k + 1) (by omega) hs) rfl rfl ?_
      intro r cs n2 hr
      cases hx : wordR s (k + 1) with
      | no e p =>
        rw [hx] at hr hR
        obtain ⟨rfl, j, rfl⟩ := hr
        simp only [nd0, Y1n, Y1o, Y1p, Y1q, Y1w, Y1x, Y1y, Y1z, Y20, Y21, Y28, Y2a, AV.cells?, Nat.reduceAdd, Nat.reduceMul]
        exact hR _ _ (rd s j) [] n2 (.same _) ⟨_, rfl, trivial, j, rfl⟩
      | ok x j =>
        rw [hx] at hr hR
        obtain ⟨rfl, rfl⟩ := hr
        simp only [nd0, Y1n, Y1o, Y1p, Y1q, Y1w, Y1x, Y1y, Y1z, Y20, Y21, Y28, Y2a, AV.cells?, Nat.reduceAdd, Nat.reduceMul]
        exact hR _ _ (rd s j) [] n2 (.same _) ⟨rfl, rfl⟩
    rw [if_neg h94] at hR
    simp only [nd0, Y1n, Y1o, Y1p, Y1q, Y1w, Y1x, Y1y, Y1z, Y20, Y21, Y28, Y2a, AV.cells?, Nat.reduceAdd, Nat.reduceMul, decide_eq_false h94, if_neg h94]
    refine wCall.pc (b := 0) (take_spec B.d s k 126 hk hs) rfl rfl ?_
    rintro r cs n1 ⟨rfl, rfl⟩
    rw [hid]
    by_cases h126 : s[k]? = some 126
    · rw [if_pos h126] at hR
      have hlt := lt_of_get h126
      simp only [nd0, Y1n, Y1o, Y1p, Y1q, Y1w, Y1x, Y1y, Y1z, Y20, Y21, Y28, Y2a, AV.cells?, Nat.reduceAdd, Nat.reduceMul, decide_eq_true h126, if_pos h126]
      refine wCall.pc (b := 0) (word_spec B.d s (k + 1) (by omega) hs) rfl rfl ?_
      intro r cs n2 hr
      cases hx : wordR s (k + 1) with
      | no e p =>
        rw [hx] at hr hR
        obtain ⟨rfl, j, rfl⟩ := hr
        simp only [nd0, Y1n, Y1o, Y1p, Y1q, Y1w, Y1x, Y1y, Y1z, Y20, Y21, Y28, Y2a, AV.cells?, Nat.reduceAdd, Nat.reduceMul]
        exact hR _ _ (rd s j) [] n2 (.same _) ⟨_, rfl, trivial, j, rfl⟩
      | ok x j =>
        rw [hx] at hr hR
        obtain ⟨rfl, rfl⟩ := hr
        simp only [nd0, Y1n, Y1o, Y1p, Y1q, Y1w, Y1x, Y1y, Y1z, Y20, Y21, Y28, Y2a, AV.cells?, Nat.reduceAdd, Nat.reduceMul]
        exact hR _ _ (rd s j) [] n2 (.same _) ⟨rfl, rfl⟩
    rw [if_neg h126] at hR
    simp only [nd0, Y1n, Y1o, Y1p, Y1q, Y1w, Y1x, Y1y, Y1z, Y20, Y21, Y28, Y2a, AV.cells?, Nat.reduceAdd, Nat.reduceMul, decide_eq_false h126, if_neg h126]
    refine wCall.pc (b := 0) (word_spec B.d s k hk hs) rfl rfl ?_
    intro r cs n2 hr
    cases hx : wordR s k with
    | no e p =>
      rw [hx] at hr hR
      obtain ⟨rfl, j, rfl⟩ := hr
      simp only [nd0, Y1n, Y1o, Y1p, Y1q, Y1w, Y1x, Y1y, Y1z, Y20, Y21, Y28, Y2a, AV.cells?, Nat.reduceAdd, Nat.reduceMul]
      exact hR _ _ (rd s j) [] n2 (.same _) ⟨_, rfl, trivial, j, rfl⟩
    | ok x j =>
      rw [hx] at hr hR
      obtain ⟨rfl, rfl⟩ := hr
      simp only [nd0, Y1n, Y1o, Y1p, Y1q, Y1w, Y1x, Y1y, Y1z, Y20, Y21, Y28, Y2a, AV.cells?, Nat.reduceAdd, Nat.reduceMul]
      exact hR _ _ (rd s j) [] n2 (.same _) ⟨rfl, rfl⟩
/-- what Parse answers -/
def parseA (s : Str) : AV := if 2000 < s.length then .tup [nilE, Er 4] else match parseR s with
  | .ok x _ => .tup [x.enc, nilE]
  | .no e p => .tup [nilE, At e p]
theorem parseA_closed (s : Str) : (parseA s).closed := by
  unfold parseA
  split
  · exact ⟨trivial, Er_closed _, trivial⟩
  split
  · exact ⟨Ex.enc_closed _, trivial, trivial⟩
  · exact ⟨trivial, At_closed _ _, trivial⟩
theorem Parse_spec (B : ParseBodies E P) (s : Str) : FX E P 126 [S s] (parseA s) := by
  refine FX.of' ⟨trivial, trivial⟩ (parseA_closed s) fun n R hR => B.parse _ _ _ ?_
  unfold F.expr_Parse
  unfold parseA at hR
  simp only [nd0, Y1n, Y1o, Y1p, Y1q, Y1w, Y1x, Y1y, Y1z, Y20, Y21, Y28, Y2a, AV.cells?, Nat.reduceAdd, Nat.reduceMul]
  by_cases hl : 2000 < s.length
  · rw [if_pos hl] at hR
    simp only [nd0, Y1n, Y1o, Y1p, Y1q, Y1w, Y1x, Y1y, Y1z, Y20, Y21, Y28, Y2a, AV.cells?, Nat.reduceAdd, Nat.reduceMul, decide_eq_true (show (2000 : Int) < (s.length : Int) by omega)]
    exact hR _ _ rfl
  rw [if_neg hl] at hR
  simp only [nd0, Y1n, Y1o, Y1p, Y1q, Y1w, Y1x, Y1y, Y1z, Y20, Y21, Y28, Y2a, AV.cells?, Nat.reduceAdd, Nat.reduceMul, decide_eq_false (show ¬ (2000 : Int) < (s.length : Int) by omega), show fillA [S [], Z 0] [(0, 1, S s)] = some (rd s 0) from rfl, show (AV.val (.string ⟨#[]⟩)) = S [] from rfl]
  refine wNew.L (l := rd s 0) rfl ?_
  have hs : s.length < 1000000 := by omega
  refine wCall.pc (b := 0) (or_spec B s hs (oneR s 20) (oneR_good s 20) 20 (one_spec B s hs 20 (by omega)) 0 (by omega)) rfl rfl ?_
  intro r cs n2 hr
  unfold parseR at hR
  cases hx : orR s (oneR s 20) 0 with
  | no e p =>
    rw [hx] at hr hR
    obtain ⟨zz, rfl, hz, j, rfl⟩ := hr
    simp only [nd0, Y1n, Y1o, Y1p, Y1q, Y1w, Y1x, Y1y, Y1z, Y20, Y21, Y28, Y2a, AV.cells?, Nat.reduceAdd, Nat.reduceMul, eqA_At]
    exact hR _ _ rfl
  | ok x j =>
    rw [hx] at hr hR
    obtain ⟨rfl, rfl⟩ := hr
    obtain ⟨a1, a2, a3, a4⟩ := orR_good (oneR_good s 20) 0 x j (by omega) hx
    simp only [nd0, Y1n, Y1o, Y1p, Y1q, Y1w, Y1x, Y1y, Y1z, Y20, Y21, Y28, Y2a, AV.cells?, Nat.reduceAdd, Nat.reduceMul]
    refine wCall.pc (b := 0) (blanks_spec B.d s j a2 hs) rfl rfl ?_
    rintro r cs n3 ⟨rfl, rfl⟩
    have b2 := skipTo_len a2
    simp only [nd0, Y1n, Y1o, Y1p, Y1q, Y1w, Y1x, Y1y, Y1z, Y20, Y21, Y28, Y2a, AV.cells?, Nat.reduceAdd, Nat.reduceMul, rd]
    by_cases hlt : skipTo s j < s.length
    · simp only [if_pos hlt] at hR
      simp only [nd0, Y1n, Y1o, Y1p, Y1q, Y1w, Y1x, Y1y, Y1z, Y20, Y21, Y28, Y2a, AV.cells?, Nat.reduceAdd, Nat.reduceMul, decide_eq_true (show ((skipTo s j : Nat) : Int) < (s.length : Int) by omega)]
      refine wCall.pc (b := 0) (fail_spec B.d s (skipTo s j) 3 b2 hs) rfl rfl ?_
      rintro r cs n4 ⟨rfl, rfl⟩
      exact hR _ _ (by rw [skipTo_idem])
    · simp only [if_neg hlt] at hR
      simp only [nd0, Y1n, Y1o, Y1p, Y1q, Y1w, Y1x, Y1y, Y1z, Y20, Y21, Y28, Y2a, AV.cells?, Nat.reduceAdd, Nat.reduceMul, decide_eq_false (show ¬ ((skipTo s j : Nat) : Int) < (s.length : Int) by omega)]
      exact hR _ _ rfl
end
end Go.Sc
namespace Go.Sc.F
open Go Go.Sc
set_option linter.unusedVariables false
/-- signalbox/signalboxlaw.bare -/
def law_bare (E : Env) (P : Program) (a0 a1 : AV) (H : AH) (R : Kt) : Prop :=
  wCall E P 87 [a1] H fun t7 H =>
  wCall E P 77 [a0, t7] H fun t8 H =>
  R t8 H

end Go.Sc.F
namespace Go.Sc.F
open Go Go.Sc
set_option linter.unusedVariables false
/-- signalbox/signalboxlaw.at -/
def law_at (E : Env) (P : Program) (a0 a1 : AV) (H : AH) (R : Kt) : Prop :=
  wNew 2 (AV.cells? a1) H fun t3 H =>
  wCall E P 84 [a0] H fun t9 H =>
  wGet (extractA t9 0) H fun t10 H =>
  wGet (extractA t9 1) H fun t11 H =>
  wGet (faddr 0 t3) H fun t13 H =>
  wGet (load1 t13 H) H fun t14 H =>
  wGet (binA .eql t10 t14) H fun t15 H =>
  wGuard t15 true H (fun k => k t11 H) fun t17 H =>
  wGuard t15 true H (fun k => wGet (faddr 1 t3) H k) fun t18 H =>
  wGuard t15 true H (fun k => wGet (load1 t18 H) H k) fun t19 H =>
  wGuard t15 true H (fun k => wGet (binA .eql t17 t19) H k) fun t20 H =>
  wGet (pickA t15 t20 (.val (.bool false))) H fun t21 H =>
  R t21 H

/-- signalbox/plain.Place -/
def plain_Place (E : Env) (P : Program) (a0 : AV) (H : AH) (R : Kt) : Prop :=
  wCall E P 53 [a0] H fun t10 H =>
  wJoin 0 (fun J1 =>
    wLoop 1 (fun I2 => I2 a0 H) fun I2 t0 H =>
      wBool (eqA .iface t0 (.val (.nilIface))) H true fun t12 H =>
      wIf t12 (
        wGet (assertA 2 (.val (.pointer none)) t0) H fun t15 H =>
        wGet (extractA t15 0) H fun t16 H =>
        wGet (extractA t15 1) H fun t17 H =>
        wGuard t17 true H (fun k => k t16 H) fun t20 H =>
        wGuard t17 true H (fun k => wBool (eqA .ptr t20 (.val (.pointer none))) H true k) fun t21 H =>
        wGet (pickA t17 t21 (.val (.bool false))) H fun t22 H =>
        wIf t22 (
          wGet (nilA t16) H fun t25 H =>
          wGet (faddr 1 t25) H fun t26 H =>
          wGet (load1 t26 H) H fun t27 H =>
          (wGet (load1 t26 H) H (fun y H2 => y = t27 ∧ H2 = H)) ∧
          R (.tup [t10, t27]) H) (
          wAsI E P 6 t0 H fun t30 H =>
          wGet (extractA t30 0) H fun t31 H =>
          wGet (extractA t30 1) H fun t32 H =>
          wGet (unA .not t32) H fun t34 H =>
          wIf t34 (
            J1 H) (
            wInv E P t31 "Unwrap" [] H fun t36 H =>
            I2 t36 H))) (
        J1 H)) fun H =>
    R (.tup [t10, (.val (.int .i64 (-1)))]) H

/-- signalbox/signalboxref.Bare -/
def ref_Bare (E : Env) (P : Program) (a0 : AV) (H : AH) (R : Kt) : Prop :=
  wNew 2 (some [(.val (.int .i64 0)), (.val (.int .i64 0))]) H fun t2 H =>
  wAgg (fillA [(.val (.int .i64 0)), (.val (.int .i64 0))] [(0, 1, a0), (1, 1, (.val (.int .i64 (-1))))]) H fun t4 H =>
  wPut (storeN 2 t2 t4 H) fun _u H =>
  wGet (retPack [loadN 2 t2 H]) H R

end Go.Sc.F
namespace Go.Sc
open Go
set_option linter.unusedSimpArgs false
set_option linter.unusedVariables false
set_option linter.unnecessarySimpa false
def pd (s : Str) (i e p : Int) : List AV := [S s, Z i, Z e, Z p]
theorem pd_closed (s : Str) (i e p : Int) : AV.closedL (pd s i e p) := ⟨trivial, trivial, trivial, trivial, trivial⟩
structure RefReadBodies (E : Env) (P : Program) : Prop where
  r : RuneBodies E P
  name : Body1 E P 2 F.ref_NameCheck
  skip : Body1 E P 138 F.pref_parser_skip
  next : Body1 E P 131 F.pref_parser_next
  fail : Body2 E P 132 F.pref_parser_fail
  word : Body1 E P 142 F.pref_parser_word
  row : Body4 E P 137 F.pref_parser_row
  whole : Body2 E P 130 F.pref_parser_whole
  whole1 : Body2 E P 136 F.pref_parser_whole_c1
  piece : Body2 E P 141 F.pref_parser_piece
  bare : Body1 E P 87 F.ref_Bare
  parse : Body1 E P 125 F.ref_ExprParse
  fine : E.gl 5 = some [Z 0, Z (-1)]
def nextC (s : Str) (i : Nat) : UInt8 := (s[skipTo s i]?).getD 0
theorem nextC_eq {s : Str} {i : Nat} {c : UInt8} (hc : c ≠ 0) : ((nextC s i).toNat : Int) = c.toNat ↔ s[skipTo s i]? = some c := by
  unfold nextC
  cases h : s[skipTo s i]? with
  | none => simp; intro e; exact hc (UInt8.toNat_inj.1 (by simp; omega))
  | some d =>
    simp
    constructor
    · intro e; exact UInt8.toNat_inj.1 (by omega)
    · intro e; rw [e]
theorem nextC_get {s : Str} {i : Nat} {c : UInt8} (h : s[skipTo s i]? = some c) : nextC s i = c := by simp [nextC, h]
theorem conv_byte (c : UInt8) (h : c.toNat < 128) : convA .string (By c) = some (S [c]) := by
  have hv : Utf8.valid (c.toNat : Int) = true := by unfold Utf8.valid; simp; omega
  simp only [convA]
  unfold Utf8.encode
  simp only [hv, if_true, Int.toNat_natCast]
  rw [if_pos (by omega)]
  simp
section
variable {E : Env} {P : Program}
theorem skip_spec (B : RefReadBodies E P) (s : Str) (i : Nat) (e p : Int) (hi : i ≤ s.length) (hs : s.length < 1000000) : PC E P 138 4 (pd s i e p) (fun b g => [.ptrL b 0 g]) (fun r cs => r = .tup [] ∧ cs = pd s (skipTo s i) e p) := by
  refine PC.of (fun _ _ => rfl) (pd_closed _ _ _ _) (by rintro r cs ⟨rfl, rfl⟩; exact ⟨trivial, pd_closed _ _ _ _⟩) fun n g R hR => B.skip _ _ _ ?_
  unfold F.pref_parser_skip
  refine wLoop.zero (fun m H => ∃ (j : Nat) (c : Nat), m = s.length - j ∧ j ≤ s.length ∧ skipTo s j = skipTo s i ∧ H = ⟨[.cells g 4 [S s, Z j, Z e, Z p]], c⟩) (s.length - i) (gh0.mk ⟨i, n, rfl, hi, rfl, rfl⟩) ?_
  rintro m H ⟨j, c, rfl, hj, he, rfl⟩
  simp only [nd0, Y1n, Y1o, Y1p, Y1q, Y1w, Y1x, Y1y, Y1z, Y20, Y21, Y28, Y2a, AV.cells?, Nat.reduceAdd, Nat.reduceMul]
  by_cases h : j < s.length
  · simp only [nd0, Y1n, Y1o, Y1p, Y1q, Y1w, Y1x, Y1y, Y1z, Y20, Y21, Y28, Y2a, AV.cells?, Nat.reduceAdd, Nat.reduceMul, decide_eq_true (show (j : Int) < (s.length : Int) by omega)]
    rw [idxS h]
    simp only [nd0, Y1n, Y1o, Y1p, Y1q, Y1w, Y1x, Y1y, Y1z, Y20, Y21, Y28, Y2a, AV.cells?, Nat.reduceAdd, Nat.reduceMul]
    by_cases h2 : (s[j].toNat : Int) = 32
    · simp only [nd0, Y1n, Y1o, Y1p, Y1q, Y1w, Y1x, Y1y, Y1z, Y20, Y21, Y28, Y2a, AV.cells?, Nat.reduceAdd, Nat.reduceMul, decide_eq_true h2]
      rw [binA_succ (by omega)]
      simp only [nd0, Y1n, Y1o, Y1p, Y1q, Y1w, Y1x, Y1y, Y1z, Y20, Y21, Y28, Y2a, AV.cells?, Nat.reduceAdd, Nat.reduceMul]
      rw [store1_L rfl]
      simp only [nd0, Y1n, Y1o, Y1p, Y1q, Y1w, Y1x, Y1y, Y1z, Y20, Y21, Y28, Y2a, AV.cells?, Nat.reduceAdd, Nat.reduceMul, Nat.reduceLT]
      refine back0.mk (s.length - (j + 1)) (by omega) ⟨j + 1, c, rfl, by omega, ?_, rfl⟩
      rw [← he]
      exact (skipTo_step ((at_eq h).2 h2)).symm
    · simp only [nd0, Y1n, Y1o, Y1p, Y1q, Y1w, Y1x, Y1y, Y1z, Y20, Y21, Y28, Y2a, AV.cells?, Nat.reduceAdd, Nat.reduceMul, decide_eq_false h2]
      refine hR _ _ (pd s j e p) [] c (.same _) ⟨rfl, ?_⟩
      rw [← he, skipTo_stop (fun e => h2 ((at_eq h).1 e))]
  · simp only [nd0, Y1n, Y1o, Y1p, Y1q, Y1w, Y1x, Y1y, Y1z, Y20, Y21, Y28, Y2a, AV.cells?, Nat.reduceAdd, Nat.reduceMul, decide_eq_false (show ¬ (j : Int) < (s.length : Int) by omega)]
    refine hR _ _ (pd s j e p) [] c (.same _) ⟨rfl, ?_⟩
    rw [← he, skipTo_stop (by rw [List.getElem?_eq_none (by omega)]; simp)]
theorem rnext_spec (B : RefReadBodies E P) (s : Str) (i : Nat) (e p : Int) (hi : i ≤ s.length) (hs : s.length < 1000000) : PC E P 131 4 (pd s i e p) (fun b g => [.ptrL b 0 g]) (fun r cs => r = By (nextC s i) ∧ cs = pd s (skipTo s i) e p) := by
  refine PC.of (fun _ _ => rfl) (pd_closed _ _ _ _) (by rintro r cs ⟨rfl, rfl⟩; exact ⟨trivial, pd_closed _ _ _ _⟩) fun n g R hR => B.next _ _ _ ?_
  unfold F.pref_parser_next
  refine wCall.pc (b := 0) (skip_spec B s i e p hi hs) rfl rfl ?_
  rintro r cs n ⟨rfl, rfl⟩
  unfold nextC at hR
  generalize skipTo s i = k at hR
  unfold pd
  simp only [nd0, Y1n, Y1o, Y1p, Y1q, Y1w, Y1x, Y1y, Y1z, Y20, Y21, Y28, Y2a, AV.cells?, Nat.reduceAdd, Nat.reduceMul]
  by_cases h : k < s.length
  · simp only [nd0, Y1n, Y1o, Y1p, Y1q, Y1w, Y1x, Y1y, Y1z, Y20, Y21, Y28, Y2a, AV.cells?, Nat.reduceAdd, Nat.reduceMul, decide_eq_true (show (k : Int) < (s.length : Int) by omega)]
    rw [idxS h]
    simp only [nd0, Y1n, Y1o, Y1p, Y1q, Y1w, Y1x, Y1y, Y1z, Y20, Y21, Y28, Y2a, AV.cells?, Nat.reduceAdd, Nat.reduceMul]
    refine hR _ _ (pd s k e p) [] n (.same _) ⟨?_, rfl⟩
    simp [at_some h]
  · simp only [nd0, Y1n, Y1o, Y1p, Y1q, Y1w, Y1x, Y1y, Y1z, Y20, Y21, Y28, Y2a, AV.cells?, Nat.reduceAdd, Nat.reduceMul, decide_eq_false (show ¬ (k : Int) < (s.length : Int) by omega)]
    refine hR _ _ (pd s k e p) [] n (.same _) ⟨?_, rfl⟩
    rw [List.getElem?_eq_none (by omega)]; rfl
theorem rfail_spec (B : RefReadBodies E P) (s : Str) (i : Nat) (e : Nat) (hi : i ≤ s.length) (hs : s.length < 1000000) : PC E P 132 4 (pd s i 0 (-1)) (fun b g => [.ptrL b 0 g, Z e]) (fun r cs => r = nilP ∧ cs = pd s (skipTo s i) e (skipTo s i)) := by
  refine PC.of (fun _ _ => rfl) (pd_closed _ _ _ _) (by rintro r cs ⟨rfl, rfl⟩; exact ⟨trivial, pd_closed _ _ _ _⟩) fun n g R hR => B.fail _ _ _ _ ?_
  unfold F.pref_parser_fail
  refine wCall.pc (b := 0) (skip_spec B s i 0 (-1) hi hs) rfl rfl ?_
  rintro r cs n ⟨rfl, rfl⟩
  generalize skipTo s i = k at hR
  refine wJoin.zero (fun H => ∃ n, H = ⟨[.cells g 4 (pd s k e k)], n⟩) ?_ ?_
  · unfold pd
    simp only [nd0, Y1n, Y1o, Y1p, Y1q, Y1w, Y1x, Y1y, Y1z, Y20, Y21, Y28, Y2a, AV.cells?, Nat.reduceAdd, Nat.reduceMul, decide_eq_true (show (0 : Int) = 0 from rfl), show fillA [Z 0, Z 0] [(0, 1, Z e), (1, 1, Z k)] = some [Z e, Z k] from rfl]
    rw [storeN_L (n := 2) (xs := [Z e, Z k]) rfl rfl]
    simp only [nd0, Y1n, Y1o, Y1p, Y1q, Y1w, Y1x, Y1y, Y1z, Y20, Y21, Y28, Y2a, AV.cells?, Nat.reduceAdd, Nat.reduceMul, show putL [S s, Z k, Z 0, Z (-1)] 2 [Z e, Z k] = some [S s, Z k, Z e, Z k] from rfl]
    exact gh0.mk ⟨n, rfl⟩
  · rintro H ⟨n, rfl⟩
    exact hR _ _ (pd s k e k) [] n (.same _) ⟨rfl, rfl⟩
theorem rword_cond (B : RefReadBodies E P) {s : Str} {k j g c : Nat} {K : Kt} (hj : j ≤ s.length) (hkj : k ≤ j) (hs : s.length < 1000000) (h : ∀ c, K (Bo (wc s k j)) ⟨[.cells g 4 [S s, Z k, Z 0, Z (-1)]], c⟩) :
  wGet (nilA (.ptrL 0 0 g)) ⟨[.cells g 4 [S s, Z k, Z 0, Z (-1)]], c⟩ fun t13 H =>
  wGet (faddr 0 t13) H fun t14 H =>
  wGet (load1 t14 H) H fun t15 H =>
  wGet (lenS t15) H fun t16 H =>
  wGet (binA .lss (Z j) t16) H fun t17 H =>
  wGuard t17 true H (fun k => k (.ptrL 0 0 g) H) fun t19 H =>
  wGuard t17 true H (fun k => wGet (nilA t19) H k) fun t20 H =>
  wGuard t17 true H (fun k => wGet (faddr 0 t20) H k) fun t21 H =>
  wGuard t17 true H (fun k => wGet (load1 t21 H) H k) fun t22 H =>
  wGuard t17 true H (fun k => k (Z j) H) fun t23 H =>
  wGuard t17 true H (fun k => wGet (idxStr t22 t23) H k) fun t24 H =>
  wGuard t17 true H (fun k => wGet (convA (.int .i32) t24) H k) fun t25 H =>
  wGuard t17 true H (fun k => wCall E P 16 [(.val (.string ⟨#[32, 38, 124, 33, 94, 126, 40, 41, 61]⟩)), t25] H k) fun t26 H =>
  wGuard t17 true H (fun k => wGet (unA .not t26) H k) fun t27 H =>
  wGet (pickA t17 t27 (.val (.bool false))) H fun t28 H =>
  wGuard t28 true H (fun k => k (Z j) H) fun t30 H =>
  wGuard t28 true H (fun k => k (.ptrL 0 0 g) H) fun t31 H =>
  wGuard t28 true H (fun k => wGet (nilA t31) H k) fun t32 H =>
  wGuard t28 true H (fun k => wGet (faddr 1 t32) H k) fun t33 H =>
  wGuard t28 true H (fun k => wGet (load1 t33 H) H k) fun t34 H =>
  wGuard t28 true H (fun k => wGet (binA .gtr t30 t34) H k) fun t35 H =>
  wGuard t28 true H (fun k => k t35 H) fun t36 H =>
  wGuard t36 false H (fun k => k (.ptrL 0 0 g) H) fun t37 H =>
  wGuard t36 false H (fun k => wGet (nilA t37) H k) fun t38 H =>
  wGuard t36 false H (fun k => wGet (faddr 0 t38) H k) fun t39 H =>
  wGuard t36 false H (fun k => wGet (load1 t39 H) H k) fun t40 H =>
  wGuard t36 false H (fun k => k (Z j) H) fun t41 H =>
  wGuard t36 false H (fun k => wGet (idxStr t40 t41) H k) fun t42 H =>
  wGuard t36 false H (fun k => wGet (binA .neq t42 (.val (.int .u8 48))) H k) fun t43 H =>
  wGuard t36 false H (fun k => k t43 H) fun t44 H =>
  wGuard t44 true H (fun k => k (.ptrL 0 0 g) H) fun t45 H =>
  wGuard t44 true H (fun k => wGet (nilA t45) H k) fun t46 H =>
  wGuard t44 true H (fun k => wGet (faddr 0 t46) H k) fun t47 H =>
  wGuard t44 true H (fun k => wGet (load1 t47 H) H k) fun t48 H =>
  wGuard t44 true H (fun k => k (Z j) H) fun t49 H =>
  wGuard t44 true H (fun k => wGet (idxStr t48 t49) H k) fun t50 H =>
  wGuard t44 true H (fun k => wGet (binA .neq t50 (.val (.int .u8 49))) H k) fun t51 H =>
  wGuard t36 false H (fun k => wGet (pickA t44 t51 (.val (.bool false))) H k) fun t52 H =>
  wGuard t28 true H (fun k => wGet (pickA t36 (.val (.bool true)) t52) H k) fun t53 H =>
  wGet (pickA t28 t53 (.val (.bool false))) H K := by
  simp only [nd0, Y1n, Y1o, Y1p, Y1q, Y1w, Y1x, Y1y, Y1z, Y20, Y21, Y28, Y2a, AV.cells?, Nat.reduceAdd, Nat.reduceMul]
  by_cases hl : j < s.length
  · have hat := at_some hl
    simp only [nd0, Y1n, Y1o, Y1p, Y1q, Y1w, Y1x, Y1y, Y1z, Y20, Y21, Y28, Y2a, AV.cells?, Nat.reduceAdd, Nat.reduceMul, decide_eq_true (show (j : Int) < (s.length : Int) by omega)]
    rw [idxS hl]
    simp only [nd0, Y1n, Y1o, Y1p, Y1q, Y1w, Y1x, Y1y, Y1z, Y20, Y21, Y28, Y2a, AV.cells?, Nat.reduceAdd, Nat.reduceMul, wrap_i32]
    refine wCall.fx (ContainsRune_spec B.r stop9 s[j] (by unfold ascii; decide) (by decide)) fun n2 => ?_
    simp only [nd0, Y1n, Y1o, Y1p, Y1q, Y1w, Y1x, Y1y, Y1z, Y20, Y21, Y28, Y2a, AV.cells?, Nat.reduceAdd, Nat.reduceMul]
    by_cases hm : s[j] ∈ stop9
    · simp only [nd0, Y1n, Y1o, Y1p, Y1q, Y1w, Y1x, Y1y, Y1z, Y20, Y21, Y28, Y2a, AV.cells?, Nat.reduceAdd, Nat.reduceMul, decide_eq_true hm]
      have : wc s k j = false := by simp only [wc, hat, decide_eq_true hm]; simp
      rw [this] at h
      exact h _
    · simp only [nd0, Y1n, Y1o, Y1p, Y1q, Y1w, Y1x, Y1y, Y1z, Y20, Y21, Y28, Y2a, AV.cells?, Nat.reduceAdd, Nat.reduceMul, decide_eq_false hm]
      by_cases hjk : k < j
      · simp only [nd0, Y1n, Y1o, Y1p, Y1q, Y1w, Y1x, Y1y, Y1z, Y20, Y21, Y28, Y2a, AV.cells?, Nat.reduceAdd, Nat.reduceMul, decide_eq_true (show (k : Int) < (j : Int) by omega)]
        have : wc s k j = true := by simp only [wc, hat, decide_eq_false hm, decide_eq_true hjk]; simp
        rw [this] at h
        exact h _
      · simp only [nd0, Y1n, Y1o, Y1p, Y1q, Y1w, Y1x, Y1y, Y1z, Y20, Y21, Y28, Y2a, AV.cells?, Nat.reduceAdd, Nat.reduceMul, decide_eq_false (show ¬ (k : Int) < (j : Int) by omega)]
        rw [idxS hl]
        simp only [nd0, Y1n, Y1o, Y1p, Y1q, Y1w, Y1x, Y1y, Y1z, Y20, Y21, Y28, Y2a, AV.cells?, Nat.reduceAdd, Nat.reduceMul]
        by_cases h48 : (s[j].toNat : Int) = 48
        · simp only [nd0, Y1n, Y1o, Y1p, Y1q, Y1w, Y1x, Y1y, Y1z, Y20, Y21, Y28, Y2a, AV.cells?, Nat.reduceAdd, Nat.reduceMul, decide_eq_true h48]
          have e := (byk (n := 48) (by omega)).1 h48
          have : wc s k j = false := by simp only [wc, hat, e]; simp [hjk]
          rw [this] at h
          exact h _
        · simp only [nd0, Y1n, Y1o, Y1p, Y1q, Y1w, Y1x, Y1y, Y1z, Y20, Y21, Y28, Y2a, AV.cells?, Nat.reduceAdd, Nat.reduceMul, decide_eq_false h48]
          rw [idxS hl]
          simp only [nd0, Y1n, Y1o, Y1p, Y1q, Y1w, Y1x, Y1y, Y1z, Y20, Y21, Y28, Y2a, AV.cells?, Nat.reduceAdd, Nat.reduceMul]
          have n48 : s[j] ≠ 48 := fun e => h48 ((byk (n := 48) (by omega)).2 e)
          by_cases h49 : (s[j].toNat : Int) = 49
          · simp only [nd0, Y1n, Y1o, Y1p, Y1q, Y1w, Y1x, Y1y, Y1z, Y20, Y21, Y28, Y2a, AV.cells?, Nat.reduceAdd, Nat.reduceMul, decide_eq_true h49]
            have e := (byk (n := 49) (by omega)).1 h49
            have : wc s k j = false := by simp only [wc, hat, e]; simp [hjk]
            rw [this] at h
            exact h _
          · simp only [nd0, Y1n, Y1o, Y1p, Y1q, Y1w, Y1x, Y1y, Y1z, Y20, Y21, Y28, Y2a, AV.cells?, Nat.reduceAdd, Nat.reduceMul, decide_eq_false h49]
            have n49 : s[j] ≠ 49 := fun e => h49 ((byk (n := 49) (by omega)).2 e)
            have : wc s k j = true := by simp only [wc, hat, decide_eq_false hm]; simp [n48, n49]
            rw [this] at h
            exact h _
  · have : wc s k j = false := by
      cases hw : wc s k j
      · rfl
      · exact absurd (wc_lt hw) hl
    rw [this] at h
    simp only [nd0, Y1n, Y1o, Y1p, Y1q, Y1w, Y1x, Y1y, Y1z, Y20, Y21, Y28, Y2a, AV.cells?, Nat.reduceAdd, Nat.reduceMul, decide_eq_false (show ¬ (j : Int) < (s.length : Int) by omega)]
    exact h _
def WJ (s : Str) (k j : Nat) (g : Nat) (H : AH) : Prop := ∃ cs n, H = ⟨[.cells g 4 cs], n⟩ ∧ (if wordAt s k = [] then cs = pd s k 3 k else if nameOk (wordAt s k) = false then cs = pd s k 5 k else cs = pd s j 0 (-1))
theorem rword_spec (B : RefReadBodies E P) (s : Str) (i : Nat) (hi : i ≤ s.length) (hs : s.length < 1000000) : PC E P 142 4 (pd s i 0 (-1)) (fun b g => [.ptrL b 0 g]) (fun r cs => match wordR s i with
    | .ok w j => r = S w ∧ cs = pd s j 0 (-1)
    | .no e p => ∃ w, r = S w ∧ ∃ j : Int, cs = pd s j e p) := by
  refine PC.of (fun _ _ => rfl) (pd_closed _ _ _ _) ?_ fun n g R hR => B.word _ _ _ ?_
  · intro r cs h
    cases hw : wordR s i with
    | ok w j => rw [hw] at h; obtain ⟨rfl, rfl⟩ := h; exact ⟨trivial, pd_closed _ _ _ _⟩
    | no e p => rw [hw] at h; obtain ⟨w, rfl, j, rfl⟩ := h; exact ⟨trivial, pd_closed _ _ _ _⟩
  unfold F.pref_parser_word
  refine wCall.pc (b := 0) (skip_spec B s i 0 (-1) hi hs) rfl rfl ?_
  rintro r cs n ⟨rfl, rfl⟩
  have hk := skipTo_len hi
  have hid := skipTo_idem s i
  unfold wordR at hR
  generalize skipTo s i = k at hk hR hid
  refine wGet_some.2 (wGet_some.2 ⟨⟨Z k, by simp [load1, AH.cells, pd], ?_⟩⟩)
  refine wLoop.one (fun m t H => ∃ (j c : Nat), m = s.length - j ∧ k ≤ j ∧ j ≤ s.length ∧ wEnd s k j = wEnd s k k ∧ t = Z j ∧ H = ⟨[.cells g 4 [S s, Z k, Z 0, Z (-1)]], c⟩) (s.length - k) (gh1.mk ⟨k, n, rfl, Nat.le_refl _, hk, rfl, rfl, rfl⟩) ?_
  rintro m t H ⟨j, c, rfl, hkj, hj, he, rfl, rfl⟩
  refine rword_cond B hj hkj hs fun c => ?_
  cases hw : wc s k j with
  | true =>
    have := wc_lt hw
    simp only [nd0, Y1n, Y1o, Y1p, Y1q, Y1w, Y1x, Y1y, Y1z, Y20, Y21, Y28, Y2a, AV.cells?, Nat.reduceAdd, Nat.reduceMul]
    rw [binA_succ (by omega)]
    simp only [nd0, Y1n, Y1o, Y1p, Y1q, Y1w, Y1x, Y1y, Y1z, Y20, Y21, Y28, Y2a, AV.cells?, Nat.reduceAdd, Nat.reduceMul]
    exact back1.mk (s.length - (j + 1)) (by omega) ⟨j + 1, c, rfl, by omega, by omega, by rw [← he, wEnd_step hw], rfl, rfl⟩
  | false =>
    simp only [nd0, Y1n, Y1o, Y1p, Y1q, Y1w, Y1x, Y1y, Y1z, Y20, Y21, Y28, Y2a, AV.cells?, Nat.reduceAdd, Nat.reduceMul]
    rw [wEnd_stop hw] at he
    rw [sliceS_S (l := k) (h := j) rfl rfl (by omega) (by omega) (by omega)]
    have hwd : (s.take ((j : Int)).toNat).drop ((k : Int)).toNat = wordAt s k := by
      rw [wordAt, ← he]; simp
    rw [hwd]
    simp only [nd0, Y1n, Y1o, Y1p, Y1q, Y1w, Y1x, Y1y, Y1z, Y20, Y21, Y28, Y2a, AV.cells?, Nat.reduceAdd, Nat.reduceMul]
    refine wJoin.zero (WJ s k j g) ?_ ?_
    · by_cases h1 : wordAt s k = []
      · rw [decide_eq_true h1]
        refine wIf_true.2 ?_
        refine wCall.pc (b := 0) (rfail_spec B s k 3 hk hs) rfl rfl ?_
        rintro r cs n ⟨rfl, rfl⟩
        exact gh0.mk ⟨_, _, rfl, by rw [if_pos h1, hid]; rfl⟩
      · rw [decide_eq_false h1]
        refine wIf_false.2 ?_
        have hlw : (wordAt s k).length < 4611686018427387904 := by
          simp only [wordAt, List.length_drop, List.length_take]; omega
        refine wCall.fx (NameCheck_spec B.name (wordAt s k) hlw) fun n => ?_
        simp only [nd0, Y1n, Y1o, Y1p, Y1q, Y1w, Y1x, Y1y, Y1z, Y20, Y21, Y28, Y2a, AV.cells?, Nat.reduceAdd, Nat.reduceMul]
        by_cases h2 : nameOk (wordAt s k) = false
        · simp only [nd0, Y1n, Y1o, Y1p, Y1q, Y1w, Y1x, Y1y, Y1z, Y20, Y21, Y28, Y2a, AV.cells?, Nat.reduceAdd, Nat.reduceMul, h2]
          refine wCall.pc (b := 0) (rfail_spec B s k 5 hk hs) rfl rfl ?_
          rintro r cs n ⟨rfl, rfl⟩
          exact gh0.mk ⟨_, _, rfl, by rw [if_neg h1, if_pos h2, hid]; rfl⟩
        · simp only [nd0, Y1n, Y1o, Y1p, Y1q, Y1w, Y1x, Y1y, Y1z, Y20, Y21, Y28, Y2a, AV.cells?, Nat.reduceAdd, Nat.reduceMul, show nameOk (wordAt s k) = true by simpa using h2]
          rw [store1_L rfl]
          simp only [nd0, Y1n, Y1o, Y1p, Y1q, Y1w, Y1x, Y1y, Y1z, Y20, Y21, Y28, Y2a, AV.cells?, Nat.reduceAdd, Nat.reduceMul, Nat.reduceLT]
          exact gh0.mk ⟨_, _, rfl, by rw [if_neg h1, if_neg h2]; rfl⟩
    · rintro H ⟨cs, n, rfl, hcs⟩
      by_cases h1 : wordAt s k = []
      · rw [if_pos h1] at hR hcs
        exact hR _ _ _ [] n (.same _) ⟨_, rfl, _, hcs⟩
      · rw [if_neg h1] at hR hcs
        by_cases h2 : nameOk (wordAt s k) = false
        · rw [if_pos h2] at hR hcs
          exact hR _ _ _ [] n (.same _) ⟨_, rfl, _, hcs⟩
        · rw [if_neg h2] at hR hcs
          exact hR _ _ _ [] n (.same _) ⟨rfl, by rw [hcs, he]⟩
end
end Go.Sc
