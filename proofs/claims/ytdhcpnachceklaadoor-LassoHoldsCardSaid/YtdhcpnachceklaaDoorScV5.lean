/- of the seat YtdhcpnachceklaaDoor, printed by a program of ours -/
import Derived.Test.YtdhcpnachceklaaDoorScC
namespace Go.Sc.F
open Go Go.Sc
set_option linter.unusedVariables false

/-- signalbox/signalboxlaw.BlockBlocks -/
def law_BlockBlocks (E : Env) (P : Program) (a0 : AV) (H : AH) (R : Kt) : Prop :=
  wNew 2 (AV.cells? a0) H fun t1 H =>
  wGet (loadN 2 t1 H) H fun t12 H =>
  wCall E P 76 [t12] H fun t13 H =>
  wGet (extractA t13 0) H fun t14 H =>
  wGet (extractA t13 1) H fun t15 H =>
  wGet (extractA t13 2) H fun t16 H =>
  wNew 2 (some [(.val (.slice none 0 0)), (.val (.slice none 0 0))]) H fun t3 H =>
  wNew 2 (some [(.val (.int .i64 0)), (.val (.int .i64 0))]) H fun t4 H =>
  wPut (storeN 2 t3 t14 H) fun _u H =>
  wPut (storeN 2 t4 t15 H) fun _u H =>
  wGet (unA .not t16) H fun t18 H =>
  wIf t18 (
    R (.val (.bool true)) H) (
    wGet (loadN 2 t1 H) H fun t20 H =>
    wCall E P 46 [t20] H fun t21 H =>
    wGet (extractA t21 0) H fun t22 H =>
    wGet (extractA t21 1) H fun t23 H =>
    wGet (loadN 2 t1 H) H fun t25 H =>
    wCall E P 49 [t25] H fun t26 H =>
    wGet (extractA t26 0) H fun t27 H =>
    wGet (extractA t26 1) H fun t28 H =>
    wNew 2 (some [(.val (.slice none 0 0)), (.val (.slice none 0 0))]) H fun t8 H =>
    wPut (storeN 2 t8 t27 H) fun _u H =>
    wGet (loadN 2 t1 H) H fun t29 H =>
    wGet (loadN 2 t4 H) H fun t31 H =>
    wCall E P 55 [t29] H fun t30 H =>
    (wGet (loadN 2 t4 H) H (fun y H2 => y = t31 ∧ H2 = H)) ∧
    wCall E P 77 [t30, t31] H fun t32 H =>
    wGet (unA .not t32) H fun t33 H =>
    wGuard t33 false H (fun k => k t23 H) fun t35 H =>
    wGuard t33 false H (fun k => wGet (loadN 2 t4 H) H k) fun t36 H =>
    wGuard t33 false H (fun k => wCall E P 77 [t35, t36] H k) fun t37 H =>
    wGuard t33 false H (fun k => wGet (unA .not t37) H k) fun t38 H =>
    wGet (pickA t33 (.val (.bool true)) t38) H fun t39 H =>
    wGuard t39 false H (fun k => k t28 H) fun t41 H =>
    wGuard t39 false H (fun k => wGet (loadN 2 t4 H) H k) fun t42 H =>
    wGuard t39 false H (fun k => wCall E P 77 [t41, t42] H k) fun t43 H =>
    wGuard t39 false H (fun k => wGet (unA .not t43) H k) fun t44 H =>
    wGet (pickA t39 (.val (.bool true)) t44) H fun t45 H =>
    wIf t45 (
      R (.val (.bool false)) H) (
      wGet (faddr 0 t4) H fun t46 H =>
      wGet (load1 t46 H) H fun t47 H =>
      wGet (binA .neq t47 (.val (.int .i64 0))) H fun t48 H =>
      wIf t48 (
        wGet (lenA t22) H fun t50 H =>
        wGet (faddr 0 t8) H fun t51 H =>
        wGet (load1 t51 H) H fun t52 H =>
        wGet (lenA t52) H fun t53 H =>
        wGet (binA .add t50 t53) H fun t54 H =>
        wGet (faddr 1 t8) H fun t55 H =>
        wGet (load1 t55 H) H fun t56 H =>
        wGet (lenA t56) H fun t57 H =>
        wGet (binA .add t54 t57) H fun t58 H =>
        wGet (binA .eql t58 (.val (.int .i64 0))) H fun t59 H =>
        R t59 H) (
        wGet (loadN 2 t3 H) H fun t60 H =>
        wCall E P 78 [t60] H fun t61 H =>
        wNew 2 (some [(.val (.slice none 0 0)), (.val (.slice none 0 0))]) H fun t10 H =>
        wPut (storeN 2 t10 t61 H) fun _u H =>
        wGet (loadN 2 t3 H) H fun t63 H =>
        wCall E P 79 [t63] H fun t64 H =>
        wCall E P 80 [t22, t64] H fun t65 H =>
        wGuard t65 true H (fun k => wGet (faddr 0 t8) H k) fun t67 H =>
        wGuard t65 true H (fun k => wGet (load1 t67 H) H k) fun t68 H =>
        wGuard t65 true H (fun k => wGet (faddr 0 t10) H k) fun t69 H =>
        wGuard t65 true H (fun k => wGet (load1 t69 H) H k) fun t70 H =>
        wGuard t65 true H (fun k => wCall E P 81 [t68, t70] H k) fun t71 H =>
        wGet (pickA t65 t71 (.val (.bool false))) H fun t72 H =>
        wGuard t72 true H (fun k => wGet (faddr 1 t8) H k) fun t74 H =>
        wGuard t72 true H (fun k => wGet (load1 t74 H) H k) fun t75 H =>
        wGuard t72 true H (fun k => wGet (faddr 1 t10) H k) fun t76 H =>
        wGuard t72 true H (fun k => wGet (load1 t76 H) H k) fun t77 H =>
        wGuard t72 true H (fun k => wCall E P 81 [t75, t77] H k) fun t78 H =>
        wGet (pickA t72 t78 (.val (.bool false))) H fun t79 H =>
        R t79 H)))

/-- signalbox/signalboxlaw.tables -/
def law_tables (E : Env) (P : Program) (a0 : AV) (H : AH) (R : Kt) : Prop :=
  wNew 2 (AV.cells? a0) H fun t1 H =>
  wNew 2 (some [(.val (.slice none 0 0)), (.val (.slice none 0 0))]) H fun t2 H =>
  wNew 2 (some [(.val (.int .i64 0)), (.val (.int .i64 0))]) H fun t3 H =>
  wGet (faddr 0 t1) H fun t7 H =>
  wGet (load1 t7 H) H fun t8 H =>
  wGet (faddr 1 t1) H fun t9 H =>
  wGet (load1 t9 H) H fun t10 H =>
  wAgg (fillA [(.val (.slice none 0 0)), (.val (.slice none 0 0))] [(0, 1, t8), (1, 1, t10)]) H fun t11 H =>
  wNew 2 (some [(.val (.slice none 0 0)), (.val (.slice none 0 0))]) H fun t5 H =>
  wPut (storeN 2 t5 t11 H) fun _u H =>
  wGet (faddr 0 t1) H fun t12 H =>
  wGet (load1 t12 H) H fun t13 H =>
  wGet (lenA t13) H fun t14 H =>
  wGet (binA .gtr t14 (.val (.int .i64 510))) H fun t15 H =>
  wGuard t15 false H (fun k => wGet (faddr 1 t1) H k) fun t17 H =>
  wGuard t15 false H (fun k => wGet (load1 t17 H) H k) fun t18 H =>
  wGuard t15 false H (fun k => wGet (lenA t18) H k) fun t19 H =>
  wGuard t15 false H (fun k => wGet (binA .gtr t19 (.val (.int .i64 510))) H k) fun t20 H =>
  wGet (pickA t15 (.val (.bool true)) t20) H fun t21 H =>
  wIf t21 (
    wGet (loadN 2 t5 H) H fun t22 H =>
    wGet (loadN 2 (gptr E 5) H) H fun t23 H =>
    wPut (storeN 2 t2 t22 H) fun _u H =>
    (wGet (loadN 2 (gptr E 5) H) H (fun y H2 => y = t23 ∧ H2 = H)) ∧
    wPut (storeN 2 t3 t23 H) fun _u H =>
    wGet (retPack [loadN 2 t2 H, loadN 2 t3 H, some (.val (.bool false))]) H R) (
    wGet (loadN 2 t5 H) H fun t24 H =>
    wCall E P 83 [t24] H fun t25 H =>
    wNew 2 (some [(.val (.int .i64 0)), (.val (.int .i64 0))]) H fun t6 H =>
    wPut (storeN 2 t6 t25 H) fun _u H =>
    wGet (loadN 2 t5 H) H fun t26 H =>
    wGet (loadN 2 t6 H) H fun t27 H =>
    wGet (faddr 0 t6) H fun t28 H =>
    wGet (load1 t28 H) H fun t29 H =>
    wGet (binA .neq t29 (.val (.int .i64 0))) H fun t30 H =>
    wGuard t30 false H (fun k => wGet (faddr 0 t1) H k) fun t32 H =>
    wGuard t30 false H (fun k => wGet (load1 t32 H) H k) fun t33 H =>
    wGuard t30 false H (fun k => wGet (lenA t33) H k) fun t34 H =>
    wGuard t30 false H (fun k => wGet (binA .leq t34 (.val (.int .i64 30))) H k) fun t35 H =>
    wGuard t30 false H (fun k => k t35 H) fun t36 H =>
    wGuard t36 true H (fun k => wGet (faddr 0 t1) H k) fun t37 H =>
    wGuard t36 true H (fun k => wGet (load1 t37 H) H k) fun t38 H =>
    wGuard t36 true H (fun k => wGet (iaddr 1 t38 (.val (.int .i64 0))) H k) fun t39 H =>
    wGuard t36 true H (fun k => wGet (load1 t39 H) H k) fun t40 H =>
    wGuard t36 true H (fun k => wGet (lenA t40) H k) fun t41 H =>
    wGuard t36 true H (fun k => wGet (binA .leq t41 (.val (.int .i64 8))) H k) fun t42 H =>
    wGuard t30 false H (fun k => wGet (pickA t36 t42 (.val (.bool false))) H k) fun t43 H =>
    wGet (pickA t30 (.val (.bool true)) t43) H fun t44 H =>
    wPut (storeN 2 t2 t26 H) fun _u H =>
    (wGet (loadN 2 t6 H) H (fun y H2 => y = t27 ∧ H2 = H)) ∧
    (wGuard t36 true H (fun k => wGet (load1 t37 H) H k) (fun y H2 => y = t38 ∧ H2 = H)) ∧
    (wGuard t36 true H (fun k => wGet (load1 t39 H) H k) (fun y H2 => y = t40 ∧ H2 = H)) ∧
    wPut (storeN 2 t3 t27 H) fun _u H =>
    (wGuard t36 true H (fun k => wGet (load1 t37 H) H k) (fun y H2 => y = t38 ∧ H2 = H)) ∧
    (wGuard t36 true H (fun k => wGet (load1 t39 H) H k) (fun y H2 => y = t40 ∧ H2 = H)) ∧
    wGet (retPack [loadN 2 t2 H, loadN 2 t3 H, some t44]) H R)

/-- signalbox/signalboxlaw.at -/
def law_at (E : Env) (P : Program) (a0 a1 : AV) (H : AH) (R : Kt) : Prop :=
  wNew 2 (AV.cells? a1) H fun t3 H =>
  wCall E P 84 [a0] H fun t9 H =>
  wGet (extractA t9 0) H fun t10 H =>
  wGet (extractA t9 1) H fun t11 H =>
  wGet (faddr 0 t3) H fun t13 H =>
  wGet (load1 t13 H) H fun t14 H =>
  wGet (binA .eql t10 t14) H fun t15 H =>
  wGuard t15 true H (fun k => k t11 H) fun t17 H =>
  wGuard t15 true H (fun k => wGet (faddr 1 t3) H k) fun t18 H =>
  wGuard t15 true H (fun k => wGet (load1 t18 H) H k) fun t19 H =>
  wGuard t15 true H (fun k => wGet (binA .eql t17 t19) H k) fun t20 H =>
  wGet (pickA t15 t20 (.val (.bool false))) H fun t21 H =>
  R t21 H

/-- (signalbox/signalboxref.Table).Least -/
def ref_Table_Least (E : Env) (P : Program) (a0 : AV) (H : AH) (R : Kt) : Prop :=
  wNew 2 (AV.cells? a0) H fun t1 H =>
  wNew 2 (some [(.val (.slice none 0 0)), (.val (.slice none 0 0))]) H fun t2 H =>
  wGet (loadN 2 t1 H) H fun t10 H =>
  wCall E P 79 [t10] H fun t11 H =>
  wNew 2 (some [(.val (.slice none 0 0)), (.val (.slice none 0 0))]) H fun t4 H =>
  wLoop 1 (fun I1 => I1 (.val (.int .i64 0)) H) fun I1 t5 H =>
    wJoin 0 (fun J2 =>
      wLoop 1 (fun I3 => I3 (.val (.int .i64 0)) H) fun I3 t6 H =>
        wGet (lenA t11) H fun t16 H =>
        wGet (binA .lss t6 t16) H fun t17 H =>
        wGuard t17 true H (fun k => k t11 H) fun t19 H =>
        wGuard t17 true H (fun k => k t6 H) fun t20 H =>
        wGuard t17 true H (fun k => wGet (iaddr 1 t19 t20) H k) fun t21 H =>
        wGuard t17 true H (fun k => wGet (load1 t21 H) H k) fun t22 H =>
        wGuard t17 true H (fun k => k t5 H) fun t23 H =>
        wGuard t17 true H (fun k => wGet (binA .neq t22 t23) H k) fun t24 H =>
        wGet (pickA t17 t24 (.val (.bool false))) H fun t25 H =>
        wIf t25 (
          wGet (binA .add t6 (.val (.int .i64 1))) H fun t27 H =>
          I3 t27 H) (
          wGet (lenA t11) H fun t30 H =>
          wGet (binA .eql t6 t30) H fun t31 H =>
          wIf t31 (
            wGet (loadN 2 t4 H) H fun t32 H =>
            wPut (storeN 2 t2 t32 H) fun _u H =>
            wGet (retPack [loadN 2 t2 H]) H R) (
            wGet (faddr 0 t1) H fun t33 H =>
            wGet (load1 t33 H) H fun t34 H =>
            wGet (iaddr 1 t34 t6) H fun t36 H =>
            wGet (load1 t36 H) H fun t37 H =>
            wGet (lenA t37) H fun t38 H =>
            wLoop 2 (fun I4 => I4 (.val (.slice none 0 0)) (.val (.int .i64 0)) H) fun I4 t7 t39 H =>
              wGet (binA .lss t39 t38) H fun t40 H =>
              wIf t40 (
                wGet (iaddr 1 t37 t39) H fun t41 H =>
                wGet (load1 t41 H) H fun t42 H =>
                wGet (iaddr 1 t11 t42) H fun t46 H =>
                wGet (load1 t46 H) H fun t47 H =>
                wNewS 1 1 (fillA (List.replicate 1 [(.val (.int .i64 0))]).flatten [(0, 1, t47)]) H fun t48 H =>
                wApp 1 8 t7 t48 H fun t49 H =>
                wGet (binA .add t39 (.val (.int .i64 1))) H fun t50 H =>
                I4 t49 t50 H) (
                wGet (faddr 0 t4) H fun t51 H =>
                wGet (load1 t51 H) H fun t52 H =>
                wGet (faddr 1 t4) H fun t56 H =>
                wGet (load1 t56 H) H fun t57 H =>
                wGet (faddr 1 t1) H fun t59 H =>
                wGet (load1 t59 H) H fun t60 H =>
                wGet (iaddr 1 t60 t6) H fun t62 H =>
                wGet (load1 t62 H) H fun t63 H =>
                (
                  wNewS 1 1 (fillA (List.replicate 1 [(.val (.slice none 0 0))]).flatten [(0, 1, t7)]) H fun t54 H =>
                  (wGet (load1 t51 H) H (fun y H2 => y = t52 ∧ H2 = H)) ∧
                  (wGet (load1 t56 H) H (fun y H2 => y = t57 ∧ H2 = H)) ∧
                  (wGet (load1 t59 H) H (fun y H2 => y = t60 ∧ H2 = H)) ∧
                  (wGet (load1 t62 H) H (fun y H2 => y = t63 ∧ H2 = H)) ∧
                  (
                    wApp 1 24 t52 t54 H fun t55 H =>
                    (wGet (load1 t56 H) H (fun y H2 => y = t57 ∧ H2 = H)) ∧
                    (wGet (load1 t59 H) H (fun y H2 => y = t60 ∧ H2 = H)) ∧
                    (wGet (load1 t62 H) H (fun y H2 => y = t63 ∧ H2 = H)) ∧
                    wGet (faddr 0 t4) H fun t67 H =>
                    wNewS 1 0 (fillA (List.replicate 0 [(.val (.int .i64 0))]).flatten []) H fun t58 H =>
                    (wGet (load1 t51 H) H (fun y H2 => y = t52 ∧ H2 = H)) ∧
                    (wGet (load1 t56 H) H (fun y H2 => y = t57 ∧ H2 = H)) ∧
                    (wGet (load1 t59 H) H (fun y H2 => y = t60 ∧ H2 = H)) ∧
                    (wGet (load1 t62 H) H (fun y H2 => y = t63 ∧ H2 = H)) ∧
                    wApp 1 8 t58 t63 H fun t64 H =>
                    (wGet (load1 t56 H) H (fun y H2 => y = t57 ∧ H2 = H)) ∧
                    wNewS 1 1 (fillA (List.replicate 1 [(.val (.slice none 0 0))]).flatten [(0, 1, t64)]) H fun t65 H =>
                    (wGet (load1 t56 H) H (fun y H2 => y = t57 ∧ H2 = H)) ∧
                    wApp 1 24 t57 t65 H fun t66 H =>
                    wPut (store1 t67 t55 H) fun _u H =>
                    wGet (faddr 1 t4) H fun t68 H =>
                    wPut (store1 t68 t66 H) fun _u H =>
                    J2 H) ∧
                  (
                    wNewS 1 0 (fillA (List.replicate 0 [(.val (.int .i64 0))]).flatten []) H fun t58_1 H =>
                    (wGet (load1 t51 H) H (fun y H2 => y = t52 ∧ H2 = H)) ∧
                    (wGet (load1 t56 H) H (fun y H2 => y = t57 ∧ H2 = H)) ∧
                    (wGet (load1 t59 H) H (fun y H2 => y = t60 ∧ H2 = H)) ∧
                    (wGet (load1 t62 H) H (fun y H2 => y = t63 ∧ H2 = H)) ∧
                    wApp 1 24 t52 t54 H fun t55_1 H =>
                    (wGet (load1 t56 H) H (fun y H2 => y = t57 ∧ H2 = H)) ∧
                    (wGet (load1 t59 H) H (fun y H2 => y = t60 ∧ H2 = H)) ∧
                    (wGet (load1 t62 H) H (fun y H2 => y = t63 ∧ H2 = H)) ∧
                    wGet (faddr 0 t4) H fun t67_1 H =>
                    wApp 1 8 t58_1 t63 H fun t64_1 H =>
                    (wGet (load1 t56 H) H (fun y H2 => y = t57 ∧ H2 = H)) ∧
                    wNewS 1 1 (fillA (List.replicate 1 [(.val (.slice none 0 0))]).flatten [(0, 1, t64_1)]) H fun t65_1 H =>
                    (wGet (load1 t56 H) H (fun y H2 => y = t57 ∧ H2 = H)) ∧
                    wApp 1 24 t57 t65_1 H fun t66_1 H =>
                    wPut (store1 t67_1 t55_1 H) fun _u H =>
                    wGet (faddr 1 t4) H fun t68_1 H =>
                    wPut (store1 t68_1 t66_1 H) fun _u H =>
                    J2 H)) ∧
                (
                  wNewS 1 0 (fillA (List.replicate 0 [(.val (.int .i64 0))]).flatten []) H fun t58_2 H =>
                  (wGet (load1 t51 H) H (fun y H2 => y = t52 ∧ H2 = H)) ∧
                  (wGet (load1 t56 H) H (fun y H2 => y = t57 ∧ H2 = H)) ∧
                  (wGet (load1 t59 H) H (fun y H2 => y = t60 ∧ H2 = H)) ∧
                  (wGet (load1 t62 H) H (fun y H2 => y = t63 ∧ H2 = H)) ∧
                  wNewS 1 1 (fillA (List.replicate 1 [(.val (.slice none 0 0))]).flatten [(0, 1, t7)]) H fun t54_1 H =>
                  (wGet (load1 t51 H) H (fun y H2 => y = t52 ∧ H2 = H)) ∧
                  (wGet (load1 t56 H) H (fun y H2 => y = t57 ∧ H2 = H)) ∧
                  (wGet (load1 t59 H) H (fun y H2 => y = t60 ∧ H2 = H)) ∧
                  (wGet (load1 t62 H) H (fun y H2 => y = t63 ∧ H2 = H)) ∧
                  wApp 1 24 t52 t54_1 H fun t55_2 H =>
                  (wGet (load1 t56 H) H (fun y H2 => y = t57 ∧ H2 = H)) ∧
                  (wGet (load1 t59 H) H (fun y H2 => y = t60 ∧ H2 = H)) ∧
                  (wGet (load1 t62 H) H (fun y H2 => y = t63 ∧ H2 = H)) ∧
                  wGet (faddr 0 t4) H fun t67_2 H =>
                  wApp 1 8 t58_2 t63 H fun t64_2 H =>
                  (wGet (load1 t56 H) H (fun y H2 => y = t57 ∧ H2 = H)) ∧
                  wNewS 1 1 (fillA (List.replicate 1 [(.val (.slice none 0 0))]).flatten [(0, 1, t64_2)]) H fun t65_2 H =>
                  (wGet (load1 t56 H) H (fun y H2 => y = t57 ∧ H2 = H)) ∧
                  wApp 1 24 t57 t65_2 H fun t66_2 H =>
                  wPut (store1 t67_2 t55_2 H) fun _u H =>
                  wGet (faddr 1 t4) H fun t68_2 H =>
                  wPut (store1 t68_2 t66_2 H) fun _u H =>
                  J2 H))))) fun H =>
      wGet (binA .add t5 (.val (.int .i64 1))) H fun t13 H =>
      I1 t13 H

/-- signalbox/signalboxlaw.sameInts -/
def law_sameInts (E : Env) (P : Program) (a0 a1 : AV) (H : AH) (R : Kt) : Prop :=
  wGet (lenA a0) H fun t7 H =>
  wGet (lenA a1) H fun t9 H =>
  wGet (binA .neq t7 t9) H fun t10 H =>
  wIf t10 (
    R (.val (.bool false)) H) (
    wLoop 1 (fun I1 => I1 (.val (.int .i64 0)) H) fun I1 t5 H =>
      wGet (lenA a0) H fun t13 H =>
      wGet (binA .lss t5 t13) H fun t14 H =>
      wIf t14 (
        wGet (iaddr 1 a0 t5) H fun t19 H =>
        wGet (load1 t19 H) H fun t20 H =>
        wGet (iaddr 1 a1 t5) H fun t23 H =>
        wGet (load1 t23 H) H fun t24 H =>
        wGet (binA .neq t20 t24) H fun t25 H =>
        wIf t25 (
          R (.val (.bool false)) H) (
          wGet (binA .add t5 (.val (.int .i64 1))) H fun t16 H =>
          I1 t16 H)) (
        R (.val (.bool true)) H))

/-- (signalbox/signalboxref.Table).Blocks -/
def ref_Table_Blocks (E : Env) (P : Program) (a0 : AV) (H : AH) (R : Kt) : Prop :=
  wNew 2 (AV.cells? a0) H fun t1 H =>
  wGet (loadN 2 t1 H) H fun t9 H =>
  wCall E P 85 [t9] H fun t10 H =>
  wGet (faddr 0 t1) H fun t11 H =>
  wGet (load1 t11 H) H fun t12 H =>
  wGet (lenA t12) H fun t13 H =>
  wLoop 3 (fun I1 => I1 (.val (.slice none 0 0)) (.val (.int .i64 0)) (.val (.int .i64 0)) H) fun I1 t4 t5 t14 H =>
    wGet (binA .lss t14 t13) H fun t15 H =>
    wIf t15 (
      wLoop 2 (fun I2 => I2 (.val (.int .i64 (-1))) (.val (.int .i64 0)) H) fun I2 t7 t18 H =>
        wGet (binA .lss t18 t14) H fun t19 H =>
        wIf t19 (
          wJoin 1 (fun J3 =>
            wGet (binA .lss t7 (.val (.int .i64 0))) H fun t22 H =>
            wGuard t22 true H (fun k => k t10 H) fun t24 H =>
            wGuard t22 true H (fun k => k t18 H) fun t25 H =>
            wGuard t22 true H (fun k => wGet (iaddr 1 t24 t25) H k) fun t26 H =>
            wGuard t22 true H (fun k => wGet (load1 t26 H) H k) fun t27 H =>
            wGuard t22 true H (fun k => k t14 H) fun t28 H =>
            wGuard t22 true H (fun k => wGet (iaddr 1 t27 t28) H k) fun t29 H =>
            wGuard t22 true H (fun k => wGet (load1 t29 H) H k) fun t30 H =>
            wGuard t22 true H (fun k => wGet (binA .eql t30 (.val (.int .i64 0))) H k) fun t31 H =>
            wGet (pickA t22 t31 (.val (.bool false))) H fun t32 H =>
            wIf t32 (
              wGet (iaddr 1 t4 t18) H fun t35 H =>
              wGet (load1 t35 H) H fun t36 H =>
              J3 t36 H) (
              J3 t7 H)) fun t7_1 H =>
            wGet (binA .add t18 (.val (.int .i64 1))) H fun t37 H =>
            I2 t7_1 t37 H) (
          wJoin 2 (fun J4 =>
            wGet (binA .lss t7 (.val (.int .i64 0))) H fun t39 H =>
            wIf t39 (
              wGet (binA .add t5 (.val (.int .i64 1))) H fun t42 H =>
              J4 t42 t5 H) (
              J4 t5 t7 H)) fun t5_1 t7_2 H =>
            wNewS 1 1 (fillA (List.replicate 1 [(.val (.int .i64 0))]).flatten [(0, 1, t7_2)]) H fun t45 H =>
            wApp 1 8 t4 t45 H fun t46 H =>
            wGet (binA .add t14 (.val (.int .i64 1))) H fun t47 H =>
            I1 t46 t5_1 t47 H)) (
      R t4 H)

/-- signalbox/signalboxlaw.sameLists -/
def law_sameLists (E : Env) (P : Program) (a0 a1 : AV) (H : AH) (R : Kt) : Prop :=
  wGet (lenA a0) H fun t7 H =>
  wGet (lenA a1) H fun t9 H =>
  wGet (binA .neq t7 t9) H fun t10 H =>
  wIf t10 (
    R (.val (.bool false)) H) (
    wLoop 1 (fun I1 => I1 (.val (.int .i64 0)) H) fun I1 t5 H =>
      wGet (lenA a0) H fun t13 H =>
      wGet (binA .lss t5 t13) H fun t14 H =>
      wIf t14 (
        wGet (iaddr 1 a0 t5) H fun t19 H =>
        wGet (load1 t19 H) H fun t20 H =>
        wGet (iaddr 1 a1 t5) H fun t23 H =>
        wGet (load1 t23 H) H fun t24 H =>
        wCall E P 80 [t20, t24] H fun t25 H =>
        wGet (unA .not t25) H fun t26 H =>
        wIf t26 (
          R (.val (.bool false)) H) (
          wGet (binA .add t5 (.val (.int .i64 1))) H fun t16 H =>
          I1 t16 H)) (
        R (.val (.bool true)) H))

/-- signalbox/signalboxref.TableCheck -/
def ref_TableCheck (E : Env) (P : Program) (a0 : AV) (H : AH) (R : Kt) : Prop :=
  wNew 2 (AV.cells? a0) H fun t1 H =>
  wNew 2 (some [(.val (.int .i64 0)), (.val (.int .i64 0))]) H fun t2 H =>
  wGet (faddr 0 t1) H fun t7 H =>
  wGet (load1 t7 H) H fun t8 H =>
  wGet (lenA t8) H fun t9 H =>
  wCall E P 86 [t9, (.val (.int .i64 1)), (.val (.int .i64 500))] H fun t11 H =>
  wGet (unA .not t11) H fun t12 H =>
  wGuard t12 false H (fun k => wGet (faddr 0 t1) H k) fun t14 H =>
  wGuard t12 false H (fun k => wGet (load1 t14 H) H k) fun t15 H =>
  wGuard t12 false H (fun k => wGet (iaddr 1 t15 (.val (.int .i64 0))) H k) fun t16 H =>
  wGuard t12 false H (fun k => wGet (load1 t16 H) H k) fun t17 H =>
  wGuard t12 false H (fun k => wGet (lenA t17) H k) fun t18 H =>
  wGuard t12 false H (fun k => wGet (binA .gtr t18 (.val (.int .i64 64))) H k) fun t19 H =>
  wGet (pickA t12 (.val (.bool true)) t19) H fun t20 H =>
  wIf t20 (
    wCall E P 87 [(.val (.int .i64 4))] H fun t21 H =>
    wPut (storeN 2 t2 t21 H) fun _u H =>
    wGet (retPack [loadN 2 t2 H]) H R) (
    wGet (faddr 1 t1) H fun t22 H =>
    wGet (load1 t22 H) H fun t23 H =>
    wGet (lenA t23) H fun t24 H =>
    wGet (binA .neq t24 t9) H fun t26 H =>
    wIf t26 (
      wCall E P 87 [(.val (.int .i64 3))] H fun t27 H =>
      wPut (storeN 2 t2 t27 H) fun _u H =>
      wGet (retPack [loadN 2 t2 H]) H R) (
      wGet (faddr 0 t1) H fun t28 H =>
      wGet (load1 t28 H) H fun t29 H =>
      wGet (lenA t29) H fun t30 H =>
      wLoop 1 (fun I1 => I1 (.val (.int .i64 0)) H) fun I1 t31 H =>
        wGet (binA .lss t31 t30) H fun t32 H =>
        wIf t32 (
          wGet (faddr 0 t1) H fun t34 H =>
          wGet (load1 t34 H) H fun t35 H =>
          wGet (iaddr 1 t35 t31) H fun t37 H =>
          wGet (load1 t37 H) H fun t38 H =>
          wGet (lenA t38) H fun t39 H =>
          wGet (faddr 0 t1) H fun t40 H =>
          wGet (load1 t40 H) H fun t41 H =>
          wGet (iaddr 1 t41 (.val (.int .i64 0))) H fun t42 H =>
          wGet (load1 t42 H) H fun t43 H =>
          wGet (lenA t43) H fun t44 H =>
          wGet (binA .neq t39 t44) H fun t45 H =>
          wGuard t45 false H (fun k => wGet (faddr 1 t1) H k) fun t47 H =>
          wGuard t45 false H (fun k => wGet (load1 t47 H) H k) fun t48 H =>
          wGuard t45 false H (fun k => k t31 H) fun t49 H =>
          wGuard t45 false H (fun k => wGet (iaddr 1 t48 t49) H k) fun t50 H =>
          wGuard t45 false H (fun k => wGet (load1 t50 H) H k) fun t51 H =>
          wGuard t45 false H (fun k => wGet (lenA t51) H k) fun t52 H =>
          wGuard t45 false H (fun k => wGet (faddr 0 t1) H k) fun t53 H =>
          wGuard t45 false H (fun k => wGet (load1 t53 H) H k) fun t54 H =>
          wGuard t45 false H (fun k => wGet (iaddr 1 t54 (.val (.int .i64 0))) H k) fun t55 H =>
          wGuard t45 false H (fun k => wGet (load1 t55 H) H k) fun t56 H =>
          wGuard t45 false H (fun k => wGet (lenA t56) H k) fun t57 H =>
          wGuard t45 false H (fun k => wGet (binA .neq t52 t57) H k) fun t58 H =>
          wGet (pickA t45 (.val (.bool true)) t58) H fun t59 H =>
          wIf t59 (
            wAgg (fillA [(.val (.int .i64 0)), (.val (.int .i64 0))] [(0, 1, (.val (.int .i64 3))), (1, 1, t31)]) H fun t61 H =>
            wPut (storeN 2 t2 t61 H) fun _u H =>
            wGet (retPack [loadN 2 t2 H]) H R) (
            wGet (faddr 0 t1) H fun t62 H =>
            wGet (load1 t62 H) H fun t63 H =>
            wGet (iaddr 1 t63 t31) H fun t65 H =>
            wGet (load1 t65 H) H fun t66 H =>
            wGet (lenA t66) H fun t67 H =>
            wLoop 1 (fun I2 => I2 (.val (.int .i64 0)) H) fun I2 t68 H =>
              wGet (binA .lss t68 t67) H fun t69 H =>
              wIf t69 (
                wGet (iaddr 1 t66 t68) H fun t70 H =>
                wGet (load1 t70 H) H fun t71 H =>
                wGet (binA .sub t9 (.val (.int .i64 1))) H fun t74 H =>
                wCall E P 86 [t71, (.val (.int .i64 0)), t74] H fun t75 H =>
                wGet (unA .not t75) H fun t76 H =>
                wIf t76 (
                  wAgg (fillA [(.val (.int .i64 0)), (.val (.int .i64 0))] [(0, 1, (.val (.int .i64 2))), (1, 1, t31)]) H fun t78 H =>
                  wPut (storeN 2 t2 t78 H) fun _u H =>
                  wGet (retPack [loadN 2 t2 H]) H R) (
                  wGet (binA .add t68 (.val (.int .i64 1))) H fun t79 H =>
                  I2 t79 H)) (
                wGet (binA .add t31 (.val (.int .i64 1))) H fun t80 H =>
                I1 t80 H))) (
          wGet (loadN 2 (gptr E 5) H) H fun t81 H =>
          wPut (storeN 2 t2 t81 H) fun _u H =>
          wGet (retPack [loadN 2 t2 H]) H R)))

/-- signalbox/plain.Place -/
def plain_Place (E : Env) (P : Program) (a0 : AV) (H : AH) (R : Kt) : Prop :=
  wCall E P 53 [a0] H fun t10 H =>
  wJoin 0 (fun J1 =>
    wLoop 1 (fun I2 => I2 a0 H) fun I2 t0 H =>
      wBool (eqA .iface t0 (.val (.nilIface))) H true fun t12 H =>
      wIf t12 (
        wGet (assertA 2 (.val (.pointer none)) t0) H fun t15 H =>
        wGet (extractA t15 0) H fun t16 H =>
        wGet (extractA t15 1) H fun t17 H =>
        wGuard t17 true H (fun k => k t16 H) fun t20 H =>
        wGuard t17 true H (fun k => wBool (eqA .ptr t20 (.val (.pointer none))) H true k) fun t21 H =>
        wGet (pickA t17 t21 (.val (.bool false))) H fun t22 H =>
        wIf t22 (
          wGet (nilA t16) H fun t25 H =>
          wGet (faddr 1 t25) H fun t26 H =>
          wGet (load1 t26 H) H fun t27 H =>
          (wGet (load1 t26 H) H (fun y H2 => y = t27 ∧ H2 = H)) ∧
          R (.tup [t10, t27]) H) (
          wAsI E P 6 t0 H fun t30 H =>
          wGet (extractA t30 0) H fun t31 H =>
          wGet (extractA t30 1) H fun t32 H =>
          wGet (unA .not t32) H fun t34 H =>
          wIf t34 (
            J1 H) (
            wInv E P t31 "Unwrap" [] H fun t36 H =>
            I2 t36 H))) (
        J1 H)) fun H =>
    R (.tup [t10, (.val (.int .i64 (-1)))]) H

/-- (signalbox/signalboxref.Table).apart -/
def ref_Table_apart (E : Env) (P : Program) (a0 : AV) (H : AH) (R : Kt) : Prop :=
  wNew 2 (AV.cells? a0) H fun t1 H =>
  wGet (faddr 0 t1) H fun t13 H =>
  wGet (load1 t13 H) H fun t14 H =>
  wGet (lenA t14) H fun t15 H =>
  wMake 1 24 [(.val (.slice none 0 0))] t15 t15 H fun t17 H =>
  wGet (lenA t17) H fun t19 H =>
  wLoop 1 (fun I1 => I1 (.val (.int .i64 0)) H) fun I1 t20 H =>
    wGet (binA .lss t20 t19) H fun t21 H =>
    wIf t21 (
      wMake 1 8 [(.val (.int .i64 0))] t15 t15 H fun t26 H =>
      wGet (iaddr 1 t17 t20) H fun t27 H =>
      wPut (store1 t27 t26 H) fun _u H =>
      wGet (binA .add t20 (.val (.int .i64 1))) H fun t28 H =>
      I1 t28 H) (
      wLoop 1 (fun I2 => I2 (.val (.int .i64 1)) H) fun I2 t6 H =>
        wLoop 2 (fun I3 => I3 (.val (.bool false)) (.val (.int .i64 0)) H) fun I3 t7 t32 H =>
          wGet (binA .lss t32 t15) H fun t33 H =>
          wIf t33 (
            wLoop 2 (fun I4 => I4 t7 (.val (.int .i64 0)) H) fun I4 t7_1 t36 H =>
              wGet (binA .lss t36 t15) H fun t37 H =>
              wIf t37 (
                wJoin 1 (fun J5 =>
                  wGet (iaddr 1 t17 t32) H fun t41 H =>
                  wGet (load1 t41 H) H fun t42 H =>
                  wGet (iaddr 1 t42 t36) H fun t44 H =>
                  wGet (load1 t44 H) H fun t45 H =>
                  wGet (binA .gtr t45 (.val (.int .i64 0))) H fun t46 H =>
                  wIf t46 (
                    J5 t7_1 H) (
                    wGet (faddr 0 t1) H fun t47 H =>
                    wGet (load1 t47 H) H fun t48 H =>
                    wGet (iaddr 1 t48 t32) H fun t50 H =>
                    wGet (load1 t50 H) H fun t51 H =>
                    wGet (lenA t51) H fun t52 H =>
                    wLoop 2 (fun I6 => I6 t7_1 (.val (.int .i64 0)) H) fun I6 t7_2 t53 H =>
                      wGet (binA .lss t53 t52) H fun t54 H =>
                      wIf t54 (
                        wGet (faddr 0 t1) H fun t56 H =>
                        wGet (load1 t56 H) H fun t57 H =>
                        wGet (iaddr 1 t57 t32) H fun t59 H =>
                        wGet (load1 t59 H) H fun t60 H =>
                        wGet (iaddr 1 t60 t53) H fun t62 H =>
                        wGet (load1 t62 H) H fun t63 H =>
                        wGet (faddr 0 t1) H fun t64 H =>
                        wGet (load1 t64 H) H fun t65 H =>
                        wGet (iaddr 1 t65 t36) H fun t67 H =>
                        wGet (load1 t67 H) H fun t68 H =>
                        wGet (iaddr 1 t68 t53) H fun t70 H =>
                        wGet (load1 t70 H) H fun t71 H =>
                        (wGet (load1 t64 H) H (fun y H2 => y = t65 ∧ H2 = H)) ∧
                        (wGet (load1 t67 H) H (fun y H2 => y = t68 ∧ H2 = H)) ∧
                        (wGet (load1 t70 H) H (fun y H2 => y = t71 ∧ H2 = H)) ∧
                        wGet (binA .eql t6 (.val (.int .i64 1))) H fun t73 H =>
                        wGuard t73 true H (fun k => wGet (faddr 1 t1) H k) fun t75 H =>
                        wGuard t73 true H (fun k => wGet (load1 t75 H) H k) fun t76 H =>
                        wGuard t73 true H (fun k => k t32 H) fun t77 H =>
                        wGuard t73 true H (fun k => wGet (iaddr 1 t76 t77) H k) fun t78 H =>
                        wGuard t73 true H (fun k => wGet (load1 t78 H) H k) fun t79 H =>
                        wGuard t73 true H (fun k => k t53 H) fun t80 H =>
                        wGuard t73 true H (fun k => wGet (iaddr 1 t79 t80) H k) fun t81 H =>
                        wGuard t73 true H (fun k => wGet (load1 t81 H) H k) fun t82 H =>
                        wGuard t73 true H (fun k => wGet (faddr 1 t1) H k) fun t83 H =>
                        wGuard t73 true H (fun k => wGet (load1 t83 H) H k) fun t84 H =>
                        wGuard t73 true H (fun k => k t36 H) fun t85 H =>
                        wGuard t73 true H (fun k => wGet (iaddr 1 t84 t85) H k) fun t86 H =>
                        wGuard t73 true H (fun k => wGet (load1 t86 H) H k) fun t87 H =>
                        wGuard t73 true H (fun k => k t53 H) fun t88 H =>
                        wGuard t73 true H (fun k => wGet (iaddr 1 t87 t88) H k) fun t89 H =>
                        wGuard t73 true H (fun k => wGet (load1 t89 H) H k) fun t90 H =>
                        wGuard t73 true H (fun k => wGet (binA .neq t82 t90) H k) fun t91 H =>
                        wGet (pickA t73 t91 (.val (.bool false))) H fun t92 H =>
                        wGuard t92 false H (fun k => k t6 H) fun t94 H =>
                        wGuard t92 false H (fun k => wGet (binA .gtr t94 (.val (.int .i64 1))) H k) fun t95 H =>
                        wGuard t92 false H (fun k => k t95 H) fun t96 H =>
                        wGuard t96 true H (fun k => k t17 H) fun t97 H =>
                        wGuard t96 true H (fun k => k t63 H) fun t98 H =>
                        wGuard t96 true H (fun k => wGet (iaddr 1 t97 t98) H k) fun t99 H =>
                        wGuard t96 true H (fun k => wGet (load1 t99 H) H k) fun t100 H =>
                        wGuard t96 true H (fun k => k t71 H) fun t101 H =>
                        wGuard t96 true H (fun k => wGet (iaddr 1 t100 t101) H k) fun t102 H =>
                        wGuard t96 true H (fun k => wGet (load1 t102 H) H k) fun t103 H =>
                        wGuard t96 true H (fun k => k t6 H) fun t104 H =>
                        wGuard t96 true H (fun k => wGet (binA .sub t104 (.val (.int .i64 1))) H k) fun t105 H =>
                        wGuard t96 true H (fun k => wGet (binA .eql t103 t105) H k) fun t106 H =>
                        wGuard t92 false H (fun k => wGet (pickA t96 t106 (.val (.bool false))) H k) fun t107 H =>
                        wGet (pickA t92 (.val (.bool true)) t107) H fun t108 H =>
                        wIf t108 (
                          wGet (iaddr 1 t17 t32) H fun t111 H =>
                          wGet (load1 t111 H) H fun t112 H =>
                          wGet (iaddr 1 t112 t36) H fun t115 H =>
                          wPut (store1 t115 t6 H) fun _u H =>
                          J5 (.val (.bool true)) H) (
                          wGet (binA .add t53 (.val (.int .i64 1))) H fun t116 H =>
                          I6 t7_2 t116 H)) (
                        J5 t7_2 H))) fun t7_3 H =>
                  wGet (binA .add t36 (.val (.int .i64 1))) H fun t117 H =>
                  I4 t7_3 t117 H) (
                wGet (binA .add t32 (.val (.int .i64 1))) H fun t118 H =>
                I3 t7_1 t118 H)) (
            wGet (unA .not t7) H fun t120 H =>
            wIf t120 (
              R t17 H) (
              wGet (binA .add t6 (.val (.int .i64 1))) H fun t30 H =>
              I2 t30 H)))

/-- signalbox/signalboxref.within -/
def ref_within (E : Env) (P : Program) (a0 a1 a2 : AV) (H : AH) (R : Kt) : Prop :=
  wGet (binA .geq a0 a1) H fun t9 H =>
  wGuard t9 true H (fun k => k a0 H) fun t11 H =>
  wGuard t9 true H (fun k => k a2 H) fun t12 H =>
  wGuard t9 true H (fun k => wGet (binA .leq t11 t12) H k) fun t13 H =>
  wGet (pickA t9 t13 (.val (.bool false))) H fun t14 H =>
  R t14 H

/-- signalbox/signalboxref.Bare -/
def ref_Bare (E : Env) (P : Program) (a0 : AV) (H : AH) (R : Kt) : Prop :=
  wNew 2 (some [(.val (.int .i64 0)), (.val (.int .i64 0))]) H fun t2 H =>
  wAgg (fillA [(.val (.int .i64 0)), (.val (.int .i64 0))] [(0, 1, a0), (1, 1, (.val (.int .i64 (-1))))]) H fun t4 H =>
  wPut (storeN 2 t2 t4 H) fun _u H =>
  wGet (retPack [loadN 2 t2 H]) H R

end Go.Sc.F
