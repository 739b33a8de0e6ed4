/- CONTRACTS: formulas of package lasso: which may be; words that may be; plain's steps. CONTRACTS: at which times of a word a formula holds: lasso.holds. DECODING: words and steps. errors.As(err, *Errno): Go's own text walked, after the guide's worked walk (its toy 'toyas'). errors.As at *At. api.Tell: the code in an error. (of the seat YtmklekabnghafaaGreatDoor) -/
import Derived.Test.YtmklekabnghafaaGreatDoorCore10
import Derived.Test.YtmklekabnghafaaGreatDoorProg
import Derived.WalkKit
import Derived.LaidEql
import Derived.Stop.Asserts
import Derived.RowKitTokens
import Derived.Below
namespace Go.Sc.F
open Go Go.Sc
set_option linter.unusedVariables false
/-- signalbox/plain.Formula -/
def plain_Formula (E : Env) (P : Program) (a0 : AV) (H : AH) (R : Kt) : Prop :=
  wAgg (fillA [(.val (.int .i64 0)), (.val (.string ⟨#[]⟩)), (.val (.slice none 0 0))] [(0, 1, (.val (.int .i64 2)))]) H fun t9 H =>
  wNew 3 (AV.cells? t9) H fun t10 H =>
  wNewS 1 1 (fillA (List.replicate 1 [(.val (.pointer none))]).flatten [(0, 1, t10)]) H fun t11 H =>
  wGet (lenA a0) H fun t13 H =>
  wLoop 2 (fun I1 => I1 t11 (.val (.int .i64 0)) H) fun I1 t3 t14 H =>
    wGet (binA .lss t14 t13) H fun t15 H =>
    wIf t15 (
      wGet (iaddr 4 a0 t14) H fun t16 H =>
      wGet (loadN 4 t16 H) H fun t17 H =>
      wNew 4 (some [(.val (.int .i64 0)), (.val (.int .i64 0)), (.val (.int .i64 0)), (.val (.string ⟨#[]⟩))]) H fun t5 H =>
      wPut (storeN 4 t5 t17 H) fun _u H =>
      wGet (faddr 0 t5) H fun t18 H =>
      wGet (load1 t18 H) H fun t19 H =>
      wAgg (fillA [(.val (.int .i64 0)), (.val (.string ⟨#[]⟩)), (.val (.slice none 0 0))] [(0, 1, t19)]) H fun t20 H =>
      wNew 3 (AV.cells? t20) H fun t21 H =>
      wGet (faddr 1 t5) H fun t23 H =>
      wGet (load1 t23 H) H fun t24 H =>
      wGet (lenA t3) H fun t26 H =>
      wGet (faddr 2 t5) H fun t31 H =>
      wGet (load1 t31 H) H fun t32 H =>
      wGet (lenA t3) H fun t34 H =>
      wCall E P 30 [t24, t26] H fun t27 H =>
      (wGet (load1 t31 H) H (fun y H2 => y = t32 ∧ H2 = H)) ∧
      wGet (iaddr 1 t3 t27) H fun t28 H =>
      wGet (load1 t28 H) H fun t29 H =>
      wCall E P 30 [t32, t34] H fun t35 H =>
      (wGet (load1 t28 H) H (fun y H2 => y = t29 ∧ H2 = H)) ∧
      wGet (iaddr 1 t3 t35) H fun t36 H =>
      wGet (load1 t36 H) H fun t37 H =>
      (wGet (load1 t36 H) H (fun y H2 => y = t37 ∧ H2 = H)) ∧
      wJoin 0 (fun J2 =>
        wGet (faddr 0 t5) H fun t38 H =>
        wGet (load1 t38 H) H fun t39 H =>
        wGet (binA .eql t39 (.val (.int .i64 2))) H fun t49 H =>
        wIf t49 (
          J2 H) (
          wJoin 1 (fun J3 =>
            wGet (binA .eql t39 (.val (.int .i64 3))) H fun t51 H =>
            wIf t51 (
              J3 t51 H) (
              wGet (binA .eql t39 (.val (.int .i64 6))) H fun t52 H =>
              wIf t52 (
                J3 t52 H) (
                wGet (binA .eql t39 (.val (.int .i64 9))) H fun t53 H =>
                wIf t53 (
                  J3 t53 H) (
                  wGet (binA .eql t39 (.val (.int .i64 10))) H fun t54 H =>
                  J3 t54 H)))) fun t50 H =>
            wIf t50 (
              wNewS 1 1 (fillA (List.replicate 1 [(.val (.pointer none))]).flatten [(0, 1, t29)]) H fun t57 H =>
              wGet (nilA t21) H fun t58 H =>
              wGet (faddr 2 t58) H fun t59 H =>
              wPut (store1 t59 t57 H) fun _u H =>
              J2 H) (
              wJoin 1 (fun J4 =>
                wGet (binA .eql t39 (.val (.int .i64 4))) H fun t61 H =>
                wIf t61 (
                  J4 t61 H) (
                  wGet (binA .eql t39 (.val (.int .i64 5))) H fun t62 H =>
                  wIf t62 (
                    J4 t62 H) (
                    wGet (binA .eql t39 (.val (.int .i64 7))) H fun t63 H =>
                    wIf t63 (
                      J4 t63 H) (
                      wGet (binA .eql t39 (.val (.int .i64 8))) H fun t64 H =>
                      J4 t64 H)))) fun t60 H =>
                wIf t60 (
                  wNewS 1 2 (fillA (List.replicate 2 [(.val (.pointer none))]).flatten [(0, 1, t29), (1, 1, t37)]) H fun t68 H =>
                  wGet (nilA t21) H fun t69 H =>
                  wGet (faddr 2 t69) H fun t70 H =>
                  wPut (store1 t70 t68 H) fun _u H =>
                  J2 H) (
                  wGet (faddr 3 t5) H fun t42 H =>
                  wGet (load1 t42 H) H fun t43 H =>
                  wGet (nilA t21) H fun t44 H =>
                  wGet (faddr 0 t44) H fun t45 H =>
                  wPut (store1 t45 (.val (.int .i64 1)) H) fun _u H =>
                  (wGet (load1 t42 H) H (fun y H2 => y = t43 ∧ H2 = H)) ∧
                  wGet (nilA t21) H fun t46 H =>
                  wGet (faddr 1 t46) H fun t47 H =>
                  wPut (store1 t47 t43 H) fun _u H =>
                  J2 H)))) fun H =>
        wNewS 1 1 (fillA (List.replicate 1 [(.val (.pointer none))]).flatten [(0, 1, t21)]) H fun t73 H =>
        wApp 1 8 t3 t73 H fun t74 H =>
        wGet (binA .add t14 (.val (.int .i64 1))) H fun t75 H =>
        I1 t74 t75 H) (
      wGet (lenA t3) H fun t78 H =>
      wGet (binA .sub t78 (.val (.int .i64 1))) H fun t79 H =>
      wGet (iaddr 1 t3 t79) H fun t80 H =>
      wGet (load1 t80 H) H fun t81 H =>
      R t81 H)

/-- signalbox/plain.At -/
def plain_At (E : Env) (P : Program) (a0 a1 : AV) (H : AH) (R : Kt) : Prop :=
  wGet (convA (.int .u64) a0) H fun t6 H =>
  wGet (convA (.int .u64) a1) H fun t8 H =>
  wGet (binA .rem t6 t8) H fun t9 H =>
  wGet (convA (.int .i64) t9) H fun t10 H =>
  R t10 H

/-- signalbox/lasso.Check -/
def lasso_Check (E : Env) (P : Program) (a0 : AV) (H : AH) (R : Kt) : Prop :=
  wNew 2 (AV.cells? a0) H fun t1 H =>
  wGet (faddr 1 t1) H fun t9 H =>
  wGet (load1 t9 H) H fun t10 H =>
  wGet (lenA t10) H fun t11 H =>
  wGet (binA .lss t11 (.val (.int .i64 1))) H fun t12 H =>
  wGuard t12 false H (fun k => wGet (faddr 0 t1) H k) fun t14 H =>
  wGuard t12 false H (fun k => wGet (load1 t14 H) H k) fun t15 H =>
  wGuard t12 false H (fun k => wGet (lenA t15) H k) fun t16 H =>
  wGuard t12 false H (fun k => wGet (faddr 1 t1) H k) fun t17 H =>
  wGuard t12 false H (fun k => wGet (load1 t17 H) H k) fun t18 H =>
  wGuard t12 false H (fun k => wGet (lenA t18) H k) fun t19 H =>
  wGuard t12 false H (fun k => wGet (binA .add t16 t19) H k) fun t20 H =>
  wGuard t12 false H (fun k => wGet (binA .gtr t20 (.val (.int .i64 60))) H k) fun t21 H =>
  wGet (pickA t12 (.val (.bool true)) t21) H fun t22 H =>
  wIf t22 (
    R (.ifc 1 (.val (.int .i64 4))) H) (
    wGet (faddr 0 t1) H fun t24 H =>
    wGet (load1 t24 H) H fun t25 H =>
    wGet (faddr 1 t1) H fun t26 H =>
    wGet (load1 t26 H) H fun t27 H =>
    wNewS 1 2 (fillA (List.replicate 2 [(.val (.slice none 0 0))]).flatten [(0, 1, t25), (1, 1, t27)]) H fun t28 H =>
    wGet (lenA t28) H fun t29 H =>
    wLoop 1 (fun I1 => I1 (.val (.int .i64 0)) H) fun I1 t30 H =>
      wGet (binA .lss t30 t29) H fun t31 H =>
      wIf t31 (
        wGet (iaddr 1 t28 t30) H fun t32 H =>
        wGet (load1 t32 H) H fun t33 H =>
        wGet (lenA t33) H fun t35 H =>
        wLoop 1 (fun I2 => I2 (.val (.int .i64 0)) H) fun I2 t36 H =>
          wGet (binA .lss t36 t35) H fun t37 H =>
          wIf t37 (
            wGet (iaddr 1 t33 t36) H fun t38 H =>
            wGet (load1 t38 H) H fun t39 H =>
            wGet (lenA t39) H fun t41 H =>
            wLoop 1 (fun I3 => I3 (.val (.int .i64 0)) H) fun I3 t42 H =>
              wGet (binA .lss t42 t41) H fun t43 H =>
              wIf t43 (
                wGet (iaddr 1 t39 t42) H fun t44 H =>
                wGet (load1 t44 H) H fun t45 H =>
                wCall E P 1 [t45] H fun t47 H =>
                wGet (unA .not t47) H fun t48 H =>
                wIf t48 (
                  R (.ifc 1 (.val (.int .i64 5))) H) (
                  wGet (binA .add t42 (.val (.int .i64 1))) H fun t50 H =>
                  I3 t50 H)) (
                wGet (binA .add t36 (.val (.int .i64 1))) H fun t51 H =>
                I2 t51 H)) (
            wGet (binA .add t30 (.val (.int .i64 1))) H fun t52 H =>
            I1 t52 H)) (
        R (.val (.nilIface)) H))

/-- signalbox/lasso.Right -/
def lasso_Right (E : Env) (P : Program) (a0 : AV) (H : AH) (R : Kt) : Prop :=
  wCall E P 35 [a0, (.val (.int .i64 20))] H fun t7 H =>
  wGet (extractA t7 0) H fun t8 H =>
  wGet (extractA t7 1) H fun t9 H =>
  wGet (binA .neq t9 (.val (.int .i64 0))) H fun t12 H =>
  wIf t12 (
    R (.ifc 1 t9) H) (
    wGet (binA .gtr t8 (.val (.int .i64 100))) H fun t17 H =>
    wIf t17 (
      R (.ifc 1 (.val (.int .i64 4))) H) (
      R (.val (.nilIface)) H))

/-- signalbox/lasso.holds -/
def lasso_holds (E : Env) (P : Program) (a0 a1 : AV) (H : AH) (R : Kt) : Prop :=
  wNew 2 (AV.cells? a0) H fun t2 H =>
  wGet (faddr 0 t2) H fun t22 H =>
  wGet (load1 t22 H) H fun t23 H =>
  wGet (lenA t23) H fun t24 H =>
  wGet (faddr 1 t2) H fun t25 H =>
  wGet (load1 t25 H) H fun t26 H =>
  wGet (lenA t26) H fun t27 H =>
  wGet (binA .add t24 t27) H fun t28 H =>
  wNew 1 (some [(.val (.int .i64 0))]) H fun t5 H =>
  wPut (store1 t5 t28 H) fun _u H =>
  wGet (load1 t5 H) H fun t29 H =>
  wMake 1 1 [(.val (.bool false))] t29 t29 H fun t30 H =>
  wNew 1 (some [(.val (.slice none 0 0))]) H fun t6 H =>
  wPut (store1 t6 t30 H) fun _u H =>
  wNew 1 (some [(.val (.nilFunc))]) H fun t7 H =>
  wPut (store1 t7 (.fn 36 [] [t5, t2]) H) fun _u H =>
  wNew 1 (some [(.val (.slice none 0 0))]) H fun t8 H =>
  wGet (nilA a1) H fun t33 H =>
  wGet (faddr 2 t33) H fun t34 H =>
  wGet (load1 t34 H) H fun t35 H =>
  wGet (lenA t35) H fun t36 H =>
  wLoop 1 (fun I1 => I1 (.val (.int .i64 0)) H) fun I1 t37 H =>
    wGet (binA .lss t37 t36) H fun t38 H =>
    wIf t38 (
      wGet (iaddr 1 t35 t37) H fun t39 H =>
      wGet (load1 t39 H) H fun t40 H =>
      wGet (load1 t8 H) H fun t41 H =>
      wGet (loadN 2 t2 H) H fun t42 H =>
      wCall E P 33 [t42, t40] H fun t44 H =>
      (wGet (load1 t8 H) H (fun y H2 => y = t41 ∧ H2 = H)) ∧
      wNewS 1 1 (fillA (List.replicate 1 [(.val (.slice none 0 0))]).flatten [(0, 1, t44)]) H fun t45 H =>
      (wGet (load1 t8 H) H (fun y H2 => y = t41 ∧ H2 = H)) ∧
      wApp 1 24 t41 t45 H fun t46 H =>
      wPut (store1 t8 t46 H) fun _u H =>
      wGet (binA .add t37 (.val (.int .i64 1))) H fun t47 H =>
      I1 t47 H) (
      wJoin 0 (fun J2 =>
        wGet (nilA a1) H fun t50 H =>
        wGet (faddr 0 t50) H fun t51 H =>
        wGet (load1 t51 H) H fun t52 H =>
        wGet (binA .eql t52 (.val (.int .i64 1))) H fun t54 H =>
        wIf t54 (
          wGet (load1 t6 H) H fun t55 H =>
          wGet (lenA t55) H fun t56 H =>
          wLoop 1 (fun I3 => I3 (.val (.int .i64 0)) H) fun I3 t57 H =>
            wGet (binA .lss t57 t56) H fun t58 H =>
            wIf t58 (
              wGet (faddr 1 t2) H fun t60 H =>
              wGet (load1 t60 H) H fun t61 H =>
              wGet (faddr 0 t2) H fun t63 H =>
              wGet (load1 t63 H) H fun t64 H =>
              wGet (lenA t64) H fun t65 H =>
              wGet (binA .sub t57 t65) H fun t66 H =>
              wJoin 2 (fun J4 =>
                wGet (binA .lss t66 (.val (.int .i64 0))) H fun t68 H =>
                wIf t68 (
                  wGet (faddr 0 t2) H fun t69 H =>
                  wGet (load1 t69 H) H fun t70 H =>
                  J4 t70 t57 H) (
                  J4 t61 t66 H)) fun t13 t14 H =>
                wGet (iaddr 1 t13 t14) H fun t74 H =>
                wGet (load1 t74 H) H fun t75 H =>
                wGet (lenA t75) H fun t76 H =>
                wLoop 1 (fun I5 => I5 (.val (.int .i64 0)) H) fun I5 t77 H =>
                  wGet (binA .lss t77 t76) H fun t78 H =>
                  wIf t78 (
                    wGet (iaddr 1 t75 t77) H fun t79 H =>
                    wGet (load1 t79 H) H fun t80 H =>
                    wGet (load1 t6 H) H fun t81 H =>
                    wGet (load1 t6 H) H fun t83 H =>
                    wGet (iaddr 1 t83 t57) H fun t85 H =>
                    wGet (load1 t85 H) H fun t86 H =>
                    wGuard t86 false H (fun k => k t80 H) fun t88 H =>
                    wGuard t86 false H (fun k => k a1 H) fun t89 H =>
                    wGuard t86 false H (fun k => wGet (nilA t89) H k) fun t90 H =>
                    wGuard t86 false H (fun k => wGet (faddr 1 t90) H k) fun t91 H =>
                    wGuard t86 false H (fun k => wGet (load1 t91 H) H k) fun t92 H =>
                    wGuard t86 false H (fun k => wGet (binA .eql t88 t92) H k) fun t93 H =>
                    wGet (pickA t86 (.val (.bool true)) t93) H fun t94 H =>
                    wGet (iaddr 1 t81 t57) H fun t95 H =>
                    wPut (store1 t95 t94 H) fun _u H =>
                    wGet (binA .add t77 (.val (.int .i64 1))) H fun t96 H =>
                    I5 t96 H) (
                    wGet (binA .add t57 (.val (.int .i64 1))) H fun t97 H =>
                    I3 t97 H)) (
              J2 H)) (
          wGet (binA .eql t52 (.val (.int .i64 2))) H fun t99 H =>
          wIf t99 (
            wGet (load1 t6 H) H fun t100 H =>
            wGet (lenA t100) H fun t101 H =>
            wLoop 1 (fun I6 => I6 (.val (.int .i64 0)) H) fun I6 t102 H =>
              wGet (binA .lss t102 t101) H fun t103 H =>
              wIf t103 (
                wGet (load1 t6 H) H fun t105 H =>
                wGet (iaddr 1 t105 t102) H fun t107 H =>
                wPut (store1 t107 (.val (.bool true)) H) fun _u H =>
                wGet (binA .add t102 (.val (.int .i64 1))) H fun t108 H =>
                I6 t108 H) (
                J2 H)) (
            wGet (binA .eql t52 (.val (.int .i64 3))) H fun t110 H =>
            wIf t110 (
              wGet (load1 t6 H) H fun t111 H =>
              wGet (lenA t111) H fun t112 H =>
              wLoop 1 (fun I7 => I7 (.val (.int .i64 0)) H) fun I7 t113 H =>
                wGet (binA .lss t113 t112) H fun t114 H =>
                wIf t114 (
                  wGet (load1 t6 H) H fun t116 H =>
                  wGet (load1 t8 H) H fun t118 H =>
                  wGet (iaddr 1 t118 (.val (.int .i64 0))) H fun t119 H =>
                  wGet (load1 t119 H) H fun t120 H =>
                  wGet (iaddr 1 t120 t113) H fun t122 H =>
                  wGet (load1 t122 H) H fun t123 H =>
                  wGet (unA .not t123) H fun t124 H =>
                  wGet (iaddr 1 t116 t113) H fun t125 H =>
                  wPut (store1 t125 t124 H) fun _u H =>
                  wGet (binA .add t113 (.val (.int .i64 1))) H fun t126 H =>
                  I7 t126 H) (
                  J2 H)) (
              wGet (binA .eql t52 (.val (.int .i64 4))) H fun t128 H =>
              wIf t128 (
                wGet (load1 t6 H) H fun t129 H =>
                wGet (lenA t129) H fun t130 H =>
                wLoop 1 (fun I8 => I8 (.val (.int .i64 0)) H) fun I8 t131 H =>
                  wGet (binA .lss t131 t130) H fun t132 H =>
                  wIf t132 (
                    wGet (load1 t6 H) H fun t134 H =>
                    wGet (load1 t8 H) H fun t136 H =>
                    wGet (iaddr 1 t136 (.val (.int .i64 0))) H fun t137 H =>
                    wGet (load1 t137 H) H fun t138 H =>
                    wGet (iaddr 1 t138 t131) H fun t140 H =>
                    wGet (load1 t140 H) H fun t141 H =>
                    wGuard t141 true H (fun k => wGet (load1 t8 H) H k) fun t143 H =>
                    wGuard t141 true H (fun k => wGet (iaddr 1 t143 (.val (.int .i64 1))) H k) fun t144 H =>
                    wGuard t141 true H (fun k => wGet (load1 t144 H) H k) fun t145 H =>
                    wGuard t141 true H (fun k => k t131 H) fun t146 H =>
                    wGuard t141 true H (fun k => wGet (iaddr 1 t145 t146) H k) fun t147 H =>
                    wGuard t141 true H (fun k => wGet (load1 t147 H) H k) fun t148 H =>
                    wGet (pickA t141 t148 (.val (.bool false))) H fun t149 H =>
                    wGet (iaddr 1 t134 t131) H fun t150 H =>
                    wPut (store1 t150 t149 H) fun _u H =>
                    wGet (binA .add t131 (.val (.int .i64 1))) H fun t151 H =>
                    I8 t151 H) (
                    J2 H)) (
                wGet (binA .eql t52 (.val (.int .i64 5))) H fun t153 H =>
                wIf t153 (
                  wGet (load1 t6 H) H fun t154 H =>
                  wGet (lenA t154) H fun t155 H =>
                  wLoop 1 (fun I9 => I9 (.val (.int .i64 0)) H) fun I9 t156 H =>
                    wGet (binA .lss t156 t155) H fun t157 H =>
                    wIf t157 (
                      wGet (load1 t6 H) H fun t159 H =>
                      wGet (load1 t8 H) H fun t161 H =>
                      wGet (iaddr 1 t161 (.val (.int .i64 0))) H fun t162 H =>
                      wGet (load1 t162 H) H fun t163 H =>
                      wGet (iaddr 1 t163 t156) H fun t165 H =>
                      wGet (load1 t165 H) H fun t166 H =>
                      wGuard t166 false H (fun k => wGet (load1 t8 H) H k) fun t168 H =>
                      wGuard t166 false H (fun k => wGet (iaddr 1 t168 (.val (.int .i64 1))) H k) fun t169 H =>
                      wGuard t166 false H (fun k => wGet (load1 t169 H) H k) fun t170 H =>
                      wGuard t166 false H (fun k => k t156 H) fun t171 H =>
                      wGuard t166 false H (fun k => wGet (iaddr 1 t170 t171) H k) fun t172 H =>
                      wGuard t166 false H (fun k => wGet (load1 t172 H) H k) fun t173 H =>
                      wGet (pickA t166 (.val (.bool true)) t173) H fun t174 H =>
                      wGet (iaddr 1 t159 t156) H fun t175 H =>
                      wPut (store1 t175 t174 H) fun _u H =>
                      wGet (binA .add t156 (.val (.int .i64 1))) H fun t176 H =>
                      I9 t176 H) (
                      J2 H)) (
                  wGet (binA .eql t52 (.val (.int .i64 6))) H fun t178 H =>
                  wIf t178 (
                    wGet (load1 t6 H) H fun t179 H =>
                    wGet (lenA t179) H fun t180 H =>
                    wLoop 1 (fun I10 => I10 (.val (.int .i64 0)) H) fun I10 t181 H =>
                      wGet (binA .lss t181 t180) H fun t182 H =>
                      wIf t182 (
                        wGet (load1 t6 H) H fun t184 H =>
                        wGet (load1 t8 H) H fun t186 H =>
                        wGet (iaddr 1 t186 (.val (.int .i64 0))) H fun t187 H =>
                        wGet (load1 t187 H) H fun t188 H =>
                        wGet (load1 t7 H) H fun t189 H =>
                        wCallV E P t189 [t181] H fun t191 H =>
                        (wGet (load1 t6 H) H (fun y H2 => y = t184 ∧ H2 = H)) ∧
                        (wGet (load1 t8 H) H (fun y H2 => y = t186 ∧ H2 = H)) ∧
                        (wGet (load1 t187 H) H (fun y H2 => y = t188 ∧ H2 = H)) ∧
                        wGet (iaddr 1 t188 t191) H fun t192 H =>
                        wGet (load1 t192 H) H fun t193 H =>
                        wGet (iaddr 1 t184 t181) H fun t194 H =>
                        wPut (store1 t194 t193 H) fun _u H =>
                        wGet (binA .add t181 (.val (.int .i64 1))) H fun t195 H =>
                        I10 t195 H) (
                        J2 H)) (
                    wGet (binA .eql t52 (.val (.int .i64 7))) H fun t197 H =>
                    wIf t197 (
                      wCallV E P (.fn 37 [] [t6, t5, t7]) [(.val (.bool false)), (.fn 38 [] [t8])] H fun t200 H =>
                      J2 H) (
                      wGet (binA .eql t52 (.val (.int .i64 8))) H fun t202 H =>
                      wIf t202 (
                        wCallV E P (.fn 37 [] [t6, t5, t7]) [(.val (.bool true)), (.fn 39 [] [t8])] H fun t205 H =>
                        J2 H) (
                        wGet (binA .eql t52 (.val (.int .i64 9))) H fun t207 H =>
                        wIf t207 (
                          wCallV E P (.fn 37 [] [t6, t5, t7]) [(.val (.bool false)), (.fn 40 [] [t8])] H fun t210 H =>
                          J2 H) (
                          wGet (binA .eql t52 (.val (.int .i64 10))) H fun t212 H =>
                          wIf t212 (
                            wCallV E P (.fn 37 [] [t6, t5, t7]) [(.val (.bool true)), (.fn 41 [] [t8])] H fun t215 H =>
                            J2 H) (
                            J2 H))))))))))) fun H =>
        wGet (load1 t6 H) H fun t216 H =>
        R t216 H)

/-- signalbox/lasso.right -/
def lasso_right (E : Env) (P : Program) (a0 a1 : AV) (H : AH) (R : Kt) : Prop :=
  wBool (eqA .ptr a0 (.val (.pointer none))) H false fun t13 H =>
  wIf t13 (
    R (.tup [(.val (.int .i64 0)), (.val (.int .i64 7))]) H) (
    wGet (binA .eql a1 (.val (.int .i64 0))) H fun t16 H =>
    wIf t16 (
      R (.tup [(.val (.int .i64 0)), (.val (.int .i64 4))]) H) (
      wGet (nilA a0) H fun t19 H =>
      wGet (faddr 0 t19) H fun t20 H =>
      wGet (load1 t20 H) H fun t21 H =>
      wGet (binA .lss t21 (.val (.int .i64 1))) H fun t22 H =>
      wGuard t22 false H (fun k => k a0 H) fun t24 H =>
      wGuard t22 false H (fun k => wGet (nilA t24) H k) fun t25 H =>
      wGuard t22 false H (fun k => wGet (faddr 0 t25) H k) fun t26 H =>
      wGuard t22 false H (fun k => wGet (load1 t26 H) H k) fun t27 H =>
      wGuard t22 false H (fun k => wGet (binA .gtr t27 (.val (.int .i64 10))) H k) fun t28 H =>
      wGet (pickA t22 (.val (.bool true)) t28) H fun t29 H =>
      wGuard t29 false H (fun k => k a0 H) fun t31 H =>
      wGuard t29 false H (fun k => wGet (nilA t31) H k) fun t32 H =>
      wGuard t29 false H (fun k => wGet (faddr 2 t32) H k) fun t33 H =>
      wGuard t29 false H (fun k => wGet (load1 t33 H) H k) fun t34 H =>
      wGuard t29 false H (fun k => wGet (lenA t34) H k) fun t35 H =>
      wGuard t29 false H (fun k => k a0 H) fun t36 H =>
      wGuard t29 false H (fun k => wGet (nilA t36) H k) fun t37 H =>
      wGuard t29 false H (fun k => wGet (faddr 0 t37) H k) fun t38 H =>
      wGuard t29 false H (fun k => wGet (load1 t38 H) H k) fun t39 H =>
      wGuard t29 false H (fun k => wGet (iaddrArr 1 11 (gptr E 3) t39) H k) fun t40 H =>
      wGuard t29 false H (fun k => wGet (load1 t40 H) H k) fun t41 H =>
      wGuard t29 false H (fun k => wGet (binA .neq t35 t41) H k) fun t42 H =>
      wGet (pickA t29 (.val (.bool true)) t42) H fun t43 H =>
      wGuard t43 false H (fun k => k a0 H) fun t45 H =>
      wGuard t43 false H (fun k => wGet (nilA t45) H k) fun t46 H =>
      wGuard t43 false H (fun k => wGet (faddr 0 t46) H k) fun t47 H =>
      wGuard t43 false H (fun k => wGet (load1 t47 H) H k) fun t48 H =>
      wGuard t43 false H (fun k => wGet (binA .neq t48 (.val (.int .i64 1))) H k) fun t49 H =>
      wGuard t43 false H (fun k => k t49 H) fun t50 H =>
      wGuard t50 true H (fun k => k a0 H) fun t51 H =>
      wGuard t50 true H (fun k => wGet (nilA t51) H k) fun t52 H =>
      wGuard t50 true H (fun k => wGet (faddr 1 t52) H k) fun t53 H =>
      wGuard t50 true H (fun k => wGet (load1 t53 H) H k) fun t54 H =>
      wGuard t50 true H (fun k => wGet (binA .neq t54 (.val (.string ⟨#[]⟩))) H k) fun t55 H =>
      wGuard t43 false H (fun k => wGet (pickA t50 t55 (.val (.bool false))) H k) fun t56 H =>
      wGet (pickA t43 (.val (.bool true)) t56) H fun t57 H =>
      wIf t57 (
        R (.tup [(.val (.int .i64 0)), (.val (.int .i64 1))]) H) (
        wGet (nilA a0) H fun t60 H =>
        wGet (faddr 0 t60) H fun t61 H =>
        wGet (load1 t61 H) H fun t62 H =>
        wGet (binA .eql t62 (.val (.int .i64 1))) H fun t63 H =>
        wGuard t63 true H (fun k => k a0 H) fun t65 H =>
        wGuard t63 true H (fun k => wGet (nilA t65) H k) fun t66 H =>
        wGuard t63 true H (fun k => wGet (faddr 1 t66) H k) fun t67 H =>
        wGuard t63 true H (fun k => wGet (load1 t67 H) H k) fun t68 H =>
        wGuard t63 true H (fun k => wCall E P 1 [t68] H k) fun t69 H =>
        wGuard t63 true H (fun k => wGet (unA .not t69) H k) fun t70 H =>
        wGet (pickA t63 t70 (.val (.bool false))) H fun t71 H =>
        wIf t71 (
          R (.tup [(.val (.int .i64 0)), (.val (.int .i64 5))]) H) (
          wGet (nilA a0) H fun t73 H =>
          wGet (faddr 2 t73) H fun t74 H =>
          wGet (load1 t74 H) H fun t75 H =>
          wGet (lenA t75) H fun t76 H =>
          wLoop 2 (fun I1 => I1 (.val (.int .i64 1)) (.val (.int .i64 0)) H) fun I1 t6 t77 H =>
            wGet (binA .lss t77 t76) H fun t78 H =>
            wIf t78 (
              wGet (iaddr 1 t75 t77) H fun t79 H =>
              wGet (load1 t79 H) H fun t80 H =>
              wGet (binA .sub a1 (.val (.int .i64 1))) H fun t84 H =>
              wCall E P 35 [t80, t84] H fun t85 H =>
              wGet (extractA t85 0) H fun t86 H =>
              wGet (extractA t85 1) H fun t87 H =>
              wGet (binA .neq t87 (.val (.int .i64 0))) H fun t89 H =>
              wIf t89 (
                R (.tup [(.val (.int .i64 0)), t87]) H) (
                wGet (binA .add t6 t86) H fun t93 H =>
                wGet (binA .add t77 (.val (.int .i64 1))) H fun t94 H =>
                I1 t93 t94 H)) (
              R (.tup [t6, (.val (.int .i64 0))]) H)))))

/-- signalbox/lasso.holds$1 -/
def lasso_holds_c1 (E : Env) (P : Program) (a0 a1 a2 : AV) (H : AH) (R : Kt) : Prop :=
  wGet (binA .add a0 (.val (.int .i64 1))) H fun t6 H =>
  wGet (load1 a1 H) H fun t7 H =>
  wGet (binA .eql t6 t7) H fun t8 H =>
  wIf t8 (
    wGet (faddr 0 a2) H fun t9 H =>
    wGet (load1 t9 H) H fun t10 H =>
    wGet (lenA t10) H fun t11 H =>
    R t11 H) (
    wGet (binA .add a0 (.val (.int .i64 1))) H fun t13 H =>
    R t13 H)

/-- signalbox/lasso.holds$2 -/
def lasso_holds_c2 (E : Env) (P : Program) (a0 a1 a2 a3 a4 : AV) (H : AH) (R : Kt) : Prop :=
  wGet (load1 a2 H) H fun t11 H =>
  wGet (lenA t11) H fun t12 H =>
  wLoop 1 (fun I1 => I1 (.val (.int .i64 0)) H) fun I1 t13 H =>
    wGet (binA .lss t13 t12) H fun t14 H =>
    wIf t14 (
      wGet (load1 a2 H) H fun t16 H =>
      wGet (iaddr 1 t16 t13) H fun t19 H =>
      wPut (store1 t19 a0 H) fun _u H =>
      wGet (binA .add t13 (.val (.int .i64 1))) H fun t20 H =>
      I1 t20 H) (
      wLoop 1 (fun I2 => I2 (.val (.bool true)) H) fun I2 t8 H =>
        wIf t8 (
          wGet (load1 a3 H) H fun t22 H =>
          wGet (binA .sub t22 (.val (.int .i64 1))) H fun t23 H =>
          wLoop 2 (fun I3 => I3 (.val (.bool false)) t23 H) fun I3 t8_1 t9 H =>
            wGet (binA .geq t9 (.val (.int .i64 0))) H fun t25 H =>
            wIf t25 (
              wJoin 1 (fun J4 =>
                wGet (load1 a2 H) H fun t30 H =>
                wGet (load1 a4 H) H fun t31 H =>
                wCallV E P t31 [t9] H fun t33 H =>
                (wGet (load1 a2 H) H (fun y H2 => y = t30 ∧ H2 = H)) ∧
                wGet (iaddr 1 t30 t33) H fun t34 H =>
                wGet (load1 t34 H) H fun t35 H =>
                wCallV E P a1 [t9, t35] H fun t36 H =>
                wGet (load1 a2 H) H fun t38 H =>
                wGet (iaddr 1 t38 t9) H fun t40 H =>
                wGet (load1 t40 H) H fun t41 H =>
                wBool (eqA .bool t36 t41) H true fun t42 H =>
                wIf t42 (
                  wGet (load1 a2 H) H fun t43 H =>
                  wGet (iaddr 1 t43 t9) H fun t46 H =>
                  wPut (store1 t46 t36 H) fun _u H =>
                  J4 (.val (.bool true)) H) (
                  J4 t8_1 H)) fun t8_2 H =>
                wGet (binA .sub t9 (.val (.int .i64 1))) H fun t27 H =>
                I3 t8_2 t27 H) (
              I2 t8_1 H)) (
          R (.tup []) H))

/-- signalbox/lasso.holds$3 -/
def lasso_holds_c3 (E : Env) (P : Program) (a0 a1 a2 : AV) (H : AH) (R : Kt) : Prop :=
  wGet (load1 a2 H) H fun t6 H =>
  wGet (iaddr 1 t6 (.val (.int .i64 1))) H fun t7 H =>
  wGet (load1 t7 H) H fun t8 H =>
  wGet (iaddr 1 t8 a0) H fun t10 H =>
  wGet (load1 t10 H) H fun t11 H =>
  wGuard t11 false H (fun k => wGet (load1 a2 H) H k) fun t13 H =>
  wGuard t11 false H (fun k => wGet (iaddr 1 t13 (.val (.int .i64 0))) H k) fun t14 H =>
  wGuard t11 false H (fun k => wGet (load1 t14 H) H k) fun t15 H =>
  wGuard t11 false H (fun k => k a0 H) fun t16 H =>
  wGuard t11 false H (fun k => wGet (iaddr 1 t15 t16) H k) fun t17 H =>
  wGuard t11 false H (fun k => wGet (load1 t17 H) H k) fun t18 H =>
  wGuard t11 false H (fun k => k t18 H) fun t19 H =>
  wGuard t19 true H (fun k => k a1 H) fun t20 H =>
  wGuard t11 false H (fun k => wGet (pickA t19 t20 (.val (.bool false))) H k) fun t21 H =>
  wGet (pickA t11 (.val (.bool true)) t21) H fun t22 H =>
  R t22 H

/-- signalbox/lasso.holds$4 -/
def lasso_holds_c4 (E : Env) (P : Program) (a0 a1 a2 : AV) (H : AH) (R : Kt) : Prop :=
  wGet (load1 a2 H) H fun t6 H =>
  wGet (iaddr 1 t6 (.val (.int .i64 1))) H fun t7 H =>
  wGet (load1 t7 H) H fun t8 H =>
  wGet (iaddr 1 t8 a0) H fun t10 H =>
  wGet (load1 t10 H) H fun t11 H =>
  wGuard t11 true H (fun k => wGet (load1 a2 H) H k) fun t13 H =>
  wGuard t11 true H (fun k => wGet (iaddr 1 t13 (.val (.int .i64 0))) H k) fun t14 H =>
  wGuard t11 true H (fun k => wGet (load1 t14 H) H k) fun t15 H =>
  wGuard t11 true H (fun k => k a0 H) fun t16 H =>
  wGuard t11 true H (fun k => wGet (iaddr 1 t15 t16) H k) fun t17 H =>
  wGuard t11 true H (fun k => wGet (load1 t17 H) H k) fun t18 H =>
  wGuard t11 true H (fun k => k t18 H) fun t19 H =>
  wGuard t19 false H (fun k => k a1 H) fun t20 H =>
  wGuard t11 true H (fun k => wGet (pickA t19 (.val (.bool true)) t20) H k) fun t21 H =>
  wGet (pickA t11 t21 (.val (.bool false))) H fun t22 H =>
  R t22 H

/-- signalbox/lasso.holds$5 -/
def lasso_holds_c5 (E : Env) (P : Program) (a0 a1 a2 : AV) (H : AH) (R : Kt) : Prop :=
  wGet (load1 a2 H) H fun t6 H =>
  wGet (iaddr 1 t6 (.val (.int .i64 0))) H fun t7 H =>
  wGet (load1 t7 H) H fun t8 H =>
  wGet (iaddr 1 t8 a0) H fun t10 H =>
  wGet (load1 t10 H) H fun t11 H =>
  wGuard t11 false H (fun k => k a1 H) fun t13 H =>
  wGet (pickA t11 (.val (.bool true)) t13) H fun t14 H =>
  R t14 H

/-- signalbox/lasso.holds$6 -/
def lasso_holds_c6 (E : Env) (P : Program) (a0 a1 a2 : AV) (H : AH) (R : Kt) : Prop :=
  wGet (load1 a2 H) H fun t6 H =>
  wGet (iaddr 1 t6 (.val (.int .i64 0))) H fun t7 H =>
  wGet (load1 t7 H) H fun t8 H =>
  wGet (iaddr 1 t8 a0) H fun t10 H =>
  wGet (load1 t10 H) H fun t11 H =>
  wGuard t11 true H (fun k => k a1 H) fun t13 H =>
  wGet (pickA t11 t13 (.val (.bool false))) H fun t14 H =>
  R t14 H

end Go.Sc.F
namespace Go.Sc
open Go
set_option linter.unusedSimpArgs false
set_option linter.unusedVariables false
/-- a formula: none, or a kind, a name and parts -/
inductive Fm where
  | nil
  | mk (k : Int) (s : Str) (of : List Fm)
mutual
def Fm.enc : Fm → AV
  | .nil => nilP
  | .mk k s of => .ptrF [Z k, S s, .slN (Fm.encL of) of.length] 0
def Fm.encL : List Fm → List AV
  | [] => []
  | f :: l => f.enc :: Fm.encL l
end
theorem Fm.encL_map : ∀ l : List Fm, Fm.encL l = l.map Fm.enc
  | [] => by simp [Fm.encL]
  | f :: l => by simp [Fm.encL, Fm.encL_map l]
mutual
theorem Fm.closed : ∀ f : Fm, f.enc.closed
  | .nil => by simp [Fm.enc, AV.closed]
  | .mk k s of => by
    simp only [Fm.enc, AV.closed, AV.closedL, true_and, and_true]
    exact Fm.closedL of
theorem Fm.closedL : ∀ l : List Fm, AV.closedL (Fm.encL l)
  | [] => by simp [Fm.encL, AV.closedL]
  | f :: l => by
    simp only [Fm.encL, AV.closedL]
    exact ⟨Fm.closed f, Fm.closedL l⟩
end
theorem Fm.scalar (f : Fm) : f.enc.scalar = true := by cases f <;> simp [Fm.enc, AV.scalar]

def arityL : List AV := [.val (.int .i64 (-1)), .val (.int .i64 0), .val (.int .i64 0), .val (.int .i64 1), .val (.int .i64 2), .val (.int .i64 2), .val (.int .i64 1), .val (.int .i64 2), .val (.int .i64 2), .val (.int .i64 1), .val (.int .i64 1)]
section
variable {E : Env} {P : Program}
structure RightBodies (E : Env) (P : Program) : Prop where
  n : NameBodies E P
  ar : E.gl 3 = some arityL
  right : Body2 E P 35 F.lasso_right
  right1 : Body1 E P 32 F.lasso_Right
structure LassoBodies (E : Env) (P : Program) : Prop extends RightBodies E P where
  at_ : Body2 E P 30 F.plain_At
  formula : Body1 E P 26 F.plain_Formula
  check : Body1 E P 31 F.lasso_Check
/-- lists of texts, and of those -/
def LS (l : List Str) : AV := Lm (fun s => S s) l
def LL (l : List (List Str)) : AV := Lm LS l
theorem LS_closed (l : List Str) : (LS l).closed := by simp [LS, Lm, AV.closed, closed_S]
theorem LL_closed (l : List (List Str)) : (LL l).closed := by simp only [LL, Lm, AV.closed]; exact closed_map LS_closed l
/-- a word -/
structure Wd where
  ahead : List (List Str)
  round : List (List Str)
def Wd.enc (w : Wd) : AV := .agg [LL w.ahead, LL w.round]
def Wd.n (w : Wd) : Nat := w.ahead.length + w.round.length
/-- no slice is beyond what a machine holds -/
def Wd.sized (w : Wd) : Prop := w.ahead.length < 140737488355328 ∧ w.round.length < 140737488355328 ∧ ∀ l ∈ w.ahead ++ w.round, l.length < 140737488355328
theorem Wd.closed (w : Wd) : w.enc.closed := by simp [Wd.enc, AV.closed, AV.closedL, LL_closed]
/-- a step of plain's -/
structure St where
  k : Int
  a : Int
  b : Int
  s : Str
def St.cells (x : St) : List AV := [Z x.k, Z x.a, Z x.b, S x.s]
def ST (l : List St) : AV := .slN (l.flatMap St.cells) l.length
theorem St.closedL : ∀ l : List St, AV.closedL (l.flatMap St.cells)
  | [] => by simp [AV.closedL]
  | x :: l => by simp [St.cells, AV.closedL, AV.closed, St.closedL l]
theorem St.len : ∀ l : List St, (l.flatMap St.cells).length = l.length * 4
  | [] => rfl
  | x :: l => by simp [St.cells, St.len l]; omega
theorem St.at {pre rest : List St} {x : St} : subL ((pre ++ x :: rest).flatMap St.cells) (pre.length * 4) 4 = some x.cells := by
  have h1 := St.len pre
  have h2 := St.len rest
  rw [List.flatMap_append, List.flatMap_cons]
  unfold subL
  rw [if_pos (by rw [List.length_append, List.length_append, h1, h2]; simp [St.cells]), List.drop_append_of_le_length (by omega), List.drop_of_length_le (by omega)]
  rfl
def one4 (k : Int) : Prop := k = 3 ∨ k = 6 ∨ k = 9 ∨ k = 10
def two4 (k : Int) : Prop := k = 4 ∨ k = 5 ∨ k = 7 ∨ k = 8
instance (k : Int) : Decidable (one4 k) := by unfold one4; exact inferInstance
instance (k : Int) : Decidable (two4 k) := by unfold two4; exact inferInstance
end
end Go.Sc
namespace Go.Sc
open Go
set_option linter.unusedSimpArgs false
set_option linter.unusedVariables false
/-! ### words -/
def Wd.next (w : Wd) (i : Nat) : Nat := if i + 1 = w.n then w.ahead.length else i + 1
def Wd.at (w : Wd) (i : Nat) : List Str := if i < w.ahead.length then w.ahead.getD i [] else w.round.getD (i - w.ahead.length) []
def Wd.it (w : Wd) : Nat → Nat → Nat
  | 0, i => i
  | k + 1, i => Wd.it w k (w.next i)
section
variable {E : Env} {P : Program}
structure HoldBodies (E : Env) (P : Program) : Prop where
  l : LassoBodies E P
  holds : Body2 E P 33 F.lasso_holds
  nx : Body3 E P 36 F.lasso_holds_c1
  fix : Body5 E P 37 F.lasso_holds_c2
  un : Body3 E P 38 F.lasso_holds_c3
  re : Body3 E P 39 F.lasso_holds_c4
  ev : Body3 E P 40 F.lasso_holds_c5
  al : Body3 E P 41 F.lasso_holds_c6

section
variable (B : HoldBodies E P) (i : Nat) (x : Bool) (l0 l1 : List Bool)
include B
end
/-! ### the fixed point -/
def HP (n g0 g1 g2 g3 g4 : Nat) (bs : List Bool) (W t : AV) (z : Blk) (c : Nat) : AH :=
  ⟨[.cells g0 1 [Z n], .cells g1 1 (bs.map fun b => Bo b), .cells g2 1 [.slL 1 0 n g1], .cells g3 1 [.fn 36 [] [.ptrL 0 0 g0, W]], .cells g4 1 [t], z], c⟩
def nw (nowF : Nat → Bool → Bool) (start : Bool) (i : Nat) (x : Bool) : Bool := nowF i (x != start) != start
def Inv (w : Wd) (nowF : Nat → Bool → Bool) (start : Bool) (o : List Bool) : Prop :=
  (∀ i, i < w.n → o.getD i false = true → nw nowF start i (o.getD (w.next i) false) = true) ∧
  ∀ Q : Nat → Prop, (∀ i, i < w.n → ∀ x, (x = true → Q (w.next i)) → nw nowF start i x = true → Q i) → ∀ i, i < w.n → o.getD i false = true → Q i
theorem getD_set {o : List Bool} {i j : Nat} (h : i < o.length) : (o.set i true).getD j false = if i = j then true else o.getD j false := by
  simp only [List.getD, List.getElem?_set]
  by_cases hij : i = j
  · subst hij; simp [h]
  · simp [hij]
theorem Inv.set {w : Wd} {nowF : Nat → Bool → Bool} {start : Bool} {o : List Bool} (hm : ∀ i, i < w.n → nw nowF start i false = true → nw nowF start i true = true) (h : Inv w nowF start o) (hl : o.length = w.n) {j : Nat} (hj : j < w.n)
    (hy : nw nowF start j (o.getD (w.next j) false) = true) : Inv w nowF start (o.set j true) := by
  have up : ∀ i, i < w.n → nw nowF start i (o.getD (w.next i) false) = true → nw nowF start i ((o.set j true).getD (w.next i) false) = true := by
    intro i hi h1
    rw [getD_set (by omega)]
    split
    · cases hx : o.getD (w.next i) false with
      | true => rw [hx] at h1; exact h1
      | false => rw [hx] at h1; exact hm i hi h1
    · exact h1
  refine ⟨fun i hi h1 => ?_, fun Q hQ i hi h1 => ?_⟩
  · rw [getD_set (by omega)] at h1
    split at h1
    · rename_i e; subst e; exact up _ hi hy
    · exact up _ hi (h.1 i hi h1)
  · rw [getD_set (by omega)] at h1
    split at h1
    · rename_i e
      subst e
      refine hQ j hj (o.getD (w.next j) false) (fun h2 => ?_) hy
      by_cases hn : w.next j < w.n
      · exact h.2 Q hQ _ hn h2
      · simp [List.getD, List.getElem?_eq_none (show o.length ≤ w.next j by omega)] at h2
    · exact h.2 Q hQ i hi h1
def Fill (n g0 g1 g2 g3 g4 : Nat) (W t : AV) (z : Blk) (G : List Bool) (m : Nat) (i : AV) (H : AH) : Prop :=
  ∃ (j : Nat) (l : List Bool) (c' : Nat), i = Z j ∧ j ≤ n ∧ m = n - j ∧ H = HP n g0 g1 g2 g3 g4 l W t z c' ∧ l.length = n ∧ ∀ a, a < j → l.getD a false = G.getD a false
theorem Fill.start {n g0 g1 g2 g3 g4 : Nat} {W t : AV} {z : Blk} {G l : List Bool} {c : Nat} (hl : l.length = n) : Fill n g0 g1 g2 g3 g4 W t z G n (Z 0) (HP n g0 g1 g2 g3 g4 l W t z c) := ⟨0, l, c, rfl, by omega, by omega, rfl, hl, by simp⟩
theorem Fill.step {n g0 g1 g2 g3 g4 : Nat} {W t : AV} {z : Blk} {G l : List Bool} {c j : Nat} (hl : l.length = n) (hj : j < n) (hG : ∀ a, a < j → l.getD a false = G.getD a false) {b : Bool} (hb : b = G.getD j false) :
    Fill n g0 g1 g2 g3 g4 W t z G (n - (j + 1)) (Z ((j + 1 : Nat) : Int)) (HP n g0 g1 g2 g3 g4 (l.set j b) W t z c) := by
  refine ⟨j + 1, l.set j b, c, rfl, by omega, rfl, rfl, by simp [hl], fun a ha => ?_⟩
  simp only [List.getD, List.getElem?_set]
  by_cases hja : j = a
  · subst hja; simpa [hl, hj] using hb
  · simp only [hja, if_false]
    exact hG a (by omega)
end
end Go.Sc
namespace Go.Sc
open Go Go.RowKit
set_option linter.unusedVariables false
section
variable {H : Type} {enc : TypeId × Value → H} {P : Program} {W : World} {E : Env}
theorem Dec.texts {tS tL : TypeId} (hS : P.underlying tS = some .string) (hL : P.underlying tL = some (.slice tS)) (hc : P.cellsOf tS = 1) (hb : 0 < P.bytesOf tS) : Dec enc P W E tL (fun l : List Str => [LS l]) (fun l => l.length < 140737488355328) :=
  ((Dec.str hS).slice1 hL hc).map id fun l h => ⟨len_of_reach h.2 hb, rfl⟩
theorem Dec.textss {tS tL tLL : TypeId} (hS : P.underlying tS = some .string) (hL : P.underlying tL = some (.slice tS)) (hLL : P.underlying tLL = some (.slice tL)) (hc : P.cellsOf tS = 1 ∧ P.cellsOf tL = 1) (hb : 0 < P.bytesOf tS ∧ 0 < P.bytesOf tL) :
    Dec enc P W E tLL (fun l : List (List Str) => [LL l]) (fun l => (∀ x ∈ l, x.length < 140737488355328) ∧ l.length < 140737488355328) :=
  ((Dec.texts hS hL hc.1 hb.1).slice1 hLL hc.2).map id fun l h => ⟨⟨h.1, len_of_reach h.2 hb.2⟩, rfl⟩
theorem Dec.word {tS tL tW : TypeId} {f0 f1 : Field} (hS : P.underlying tS = some .string) (hL : P.underlying tL = some (.slice tS)) (h0 : P.underlying f0.type = some (.slice tL)) (h1 : P.underlying f1.type = some (.slice tL)) (hW : P.underlying tW = some (.struct #[f0, f1]))
    (ho : f0.offset = 0 ∧ f1.offset = P.cellsOf f0.type ∧ P.cellsOf tW = P.cellsOf f0.type + P.cellsOf f1.type) (hc : P.cellsOf tS = 1 ∧ P.cellsOf tL = 1) (hb : 0 < P.bytesOf tS ∧ 0 < P.bytesOf tL) :
    Dec enc P W E tW (fun w : Wd => [LL w.ahead, LL w.round]) Wd.sized :=
  (Dec.struct2 (Dec.textss hS hL h0 hc hb) (Dec.textss hS hL h1 hc hb) hW ho).map (fun p => ⟨p.1, p.2⟩) fun p h => ⟨⟨h.1.2, h.2.2, fun l hl => by
    rcases List.mem_append.1 hl with hl | hl
    · exact h.1.1 l hl
    · exact h.2.1 l hl⟩, rfl⟩
theorem Dec.steps {tX tL : TypeId} {f0 f1 f2 f3 : Field} (h0 : P.underlying f0.type = some (.int .i64)) (h1 : P.underlying f1.type = some (.int .i64)) (h2 : P.underlying f2.type = some (.int .i64)) (h3 : P.underlying f3.type = some .string) (hX : P.underlying tX = some (.struct #[f0, f1, f2, f3])) (hL : P.underlying tL = some (.slice tX))
    (ho : f0.offset = 0 ∧ f1.offset = P.cellsOf f0.type ∧ f2.offset = f1.offset + P.cellsOf f1.type ∧ f3.offset = f2.offset + P.cellsOf f2.type ∧ P.cellsOf tX = f3.offset + P.cellsOf f3.type) (hc : P.cellsOf tX = 4) (hb : 0 < P.bytesOf tX) :
    Dec enc P W E tL (fun l : List St => [ST l]) (fun l => (∀ x ∈ l, inI x.k ∧ inI x.a ∧ inI x.b) ∧ l.length < 140737488355328) :=
  (((Dec.struct4 (Dec.i64 h0) (Dec.i64 h1) (Dec.i64 h2) (Dec.str h3) hX ho).map (g := St.cells) (Q' := fun x => inI x.k ∧ inI x.a ∧ inI x.b) (fun p => ⟨p.1, p.2.1, p.2.2.1, p.2.2.2⟩) fun p h => ⟨⟨h.1, h.2.1, h.2.2.1⟩, rfl⟩).slice 4 (fun _ => rfl) (by omega) hL hc).map id fun l h => ⟨⟨h.1, len_of_reach h.2 hb⟩, rfl⟩
end
end Go.Sc
namespace Go.Proofs.YtmklekabnghafaaGreatDoor
open Go.RowKit Go.Extern.Stop Go.Stop Go.Extern
theorem Tryz.valueOfT (t : Addr) (w : World) : (ReflectliteValue.unpack (.iface 91 (.pointer (some t)))).run Tryz.prog w
    = .ok (.agg #[.pointer (some ⟨4, 91, none⟩), .pointer (some ⟨w.heap.size, 0, none⟩), .int .u64 150]) (w.alloc (.cells #[.pointer (some t)] 91)) := by kernel_rfl
theorem Tryz.typeT (a : Addr) (w : World) : (ReflectliteValue.methodAny (ReflectliteValue.valueError "reflectlite.Value.Type" 0) (fun t _ _ _ => ReflectliteType.toType t) #[.agg #[.pointer (some ⟨4, 91, none⟩), .pointer (some a), .int .u64 150]]).run Tryz.prog w
    = .ok (.iface 141 (.agg #[.pointer (some ⟨4, 91, none⟩)])) w := by kernel_rfl
theorem Tryz.methodKind (h : Value) (w : World) : (Go.method 320 141 (.agg #[h]) "Kind").run Tryz.prog w = .ok (124, h) w := by kernel_rfl
theorem Tryz.kindT (w : World) : ((ReflectliteType.abiMethod fun t => (fun a : Nat => Value.int IntKind.u8 (a : Int)) <$> Rtype.kind t) #[.pointer (some ⟨4, 91, none⟩)]).run Tryz.prog w = .ok (.int .u8 22) w := by kernel_rfl
theorem Tryz.kindX (w : World) : ((ReflectliteType.abiMethod fun t => (fun a : Nat => Value.int IntKind.u8 (a : Int)) <$> Rtype.kind t) #[.pointer (some ⟨4, 39, none⟩)]).run Tryz.prog w = .ok (.int .u8 2) w := by kernel_rfl
theorem rlm (z : Sem Value) (f : TypeId → Addr → Nat → Nat → Sem Value) (v : Value) :
    ReflectliteValue.method z f #[v] = (do match ← ReflectliteValue.parts v with | none => z | some (t, a, fl) => f t a fl (fl % 32)) := rfl
theorem Tryz.partsT (a : Addr) (w : World) : (ReflectliteValue.parts (.agg #[.pointer (some ⟨4, 91, none⟩), .pointer (some a), .int .u64 150])).run Tryz.prog w = .ok (some (91, a, 150)) w := by kernel_rfl
theorem Tryz.isNilT (a p : Addr) (W : World) (ha : W.cell? a = some (.pointer (some p))) :
    (ReflectliteValue.method (ReflectliteValue.valueError "reflectlite.Value.IsNil" 0) ReflectliteValue.isNil #[.agg #[.pointer (some ⟨4, 91, none⟩), .pointer (some a), .int .u64 150]]).run Tryz.prog W = .ok (.bool false) W := by
  rw [rlm]
  simp only [Sem.run_bind, Tryz.partsT, Result.andThen]
  simp [ReflectliteValue.isNil, loadVar, isAgg, underlying, Tryz.underlying91, ha, Result.andThen]
theorem Tryz.methodElem (h : Value) (w : World) : (Go.method 320 141 (.agg #[h]) "Elem").run Tryz.prog w = .ok (153, .agg #[h]) w := by kernel_rfl
theorem Tryz.methodImplements (h : Value) (w : World) : (Go.method 320 141 (.agg #[h]) "Implements").run Tryz.prog w = .ok (154, .agg #[h]) w := by kernel_rfl
theorem Tryz.methodAssignableTo (h : Value) (w : World) : (Go.method 320 141 (.agg #[h]) "AssignableTo").run Tryz.prog w = .ok (151, .agg #[h]) w := by kernel_rfl
theorem Tryz.elemT (w : World) : (ReflectliteType.method ReflectliteType.elem #[.agg #[.pointer (some ⟨4, 91, none⟩)]]).run Tryz.prog w = .ok (.iface 141 (.agg #[.pointer (some ⟨4, 39, none⟩)])) w := by kernel_rfl
theorem Tryz.implementsX (w : World) : (ReflectliteType.relation "Implements" ReflectliteType.implements_ #[.agg #[.pointer (some ⟨4, 39, none⟩)], .iface 141 (.agg #[.pointer (some ⟨4, 26, none⟩)])]).run Tryz.prog w = .ok (.bool true) w := by kernel_rfl
theorem Tryz.typeOfX (v : Value) (w : World) : (ReflectliteType.typeOf #[.iface 39 v]).run Tryz.prog w = .ok (.iface 141 (.agg #[.pointer (some ⟨4, 39, none⟩)])) w := by kernel_rfl
theorem Tryz.assignableX (w : World) : (ReflectliteType.relation "AssignableTo" ReflectliteType.assignableTo #[.agg #[.pointer (some ⟨4, 39, none⟩)], .iface 141 (.agg #[.pointer (some ⟨4, 39, none⟩)])]).run Tryz.prog w = .ok (.bool true) w := by kernel_rfl
theorem Tryz.valueOfX (k : Int) (w : World) : (ReflectliteValue.unpack (.iface 39 (.int .i64 k))).run Tryz.prog w
    = .ok (.agg #[.pointer (some ⟨4, 39, none⟩), .pointer (some ⟨w.heap.size, 0, none⟩), .int .u64 130]) (w.alloc (.cells #[.int .i64 k] 39)) := by kernel_rfl
theorem Tryz.elemOfT (w : World) : (Rtype.elem? 91).run Tryz.prog w = .ok (some 39) w := by kernel_rfl
theorem Tryz.mkX (p : Addr) (w : World) : (ReflectliteValue.mk 39 p ReflectliteValue.flagAddr).run Tryz.prog w = .ok (.agg #[.pointer (some ⟨4, 39, none⟩), .pointer (some p), .int .u64 386]) w := by kernel_rfl
theorem Tryz.elemVT (a p : Addr) (W : World) (ha : W.cell? a = some (.pointer (some p))) :
    (ReflectliteValue.method (ReflectliteValue.valueError "reflectlite.Value.Elem" 0) ReflectliteValue.elem #[.agg #[.pointer (some ⟨4, 91, none⟩), .pointer (some a), .int .u64 150]]).run Tryz.prog W
      = .ok (.agg #[.pointer (some ⟨4, 39, none⟩), .pointer (some p), .int .u64 386]) W := by
  rw [rlm]
  simp only [Sem.run_bind, Tryz.partsT, Result.andThen]
  simp [ReflectliteValue.elem, loadVar, isAgg, underlying, Tryz.underlying91, ha, Result.andThen, Tryz.elemOfT, Tryz.mkX]
theorem rls (v x : Value) : ReflectliteValue.set #[v, x] = (do
    let (some (dst, a, fl), some (src, b, _)) := (← ReflectliteValue.parts v, ← ReflectliteValue.parts x)
      | unsupported (.noEntry "extern/(internal/reflectlite.Value).Set.zeroValue")
    if fl / ReflectliteValue.flagAddr % 2 == 0 then unsupported (.noEntry "extern/(internal/reflectlite.Value).Set.unaddressable")
    let val ← loadVar src b
    if ← Rtype.directlyAssignable dst src then storeVar dst a val
    else if ← Rtype.implements dst src then
      if (← Rtype.kind src) == 20 then
        match val with
        | .nilIface => unsupported (.noEntry "extern/reflectlite: a nil value of one interface type handed on as a value of another")
        | _ => storeVar dst a val
      else storeVar dst a (.iface src val)
    else panicString ("reflectlite.Set: value of type " ++ (← Rtype.spelt src) ++ " is not assignable to type " ++ (← Rtype.spelt dst))
    pure (.tuple #[])) := rfl
theorem Tryz.partsXa (a : Addr) (w : World) : (ReflectliteValue.parts (.agg #[.pointer (some ⟨4, 39, none⟩), .pointer (some a), .int .u64 386])).run Tryz.prog w = .ok (some (39, a, 386)) w := by kernel_rfl
theorem Tryz.partsX (a : Addr) (w : World) : (ReflectliteValue.parts (.agg #[.pointer (some ⟨4, 39, none⟩), .pointer (some a), .int .u64 130])).run Tryz.prog w = .ok (some (39, a, 130)) w := by kernel_rfl
theorem Tryz.directX (w : World) : (Rtype.directlyAssignable 39 39).run Tryz.prog w = .ok true w := by kernel_rfl
theorem Tryz.setX (ta b : Addr) (k : Int) (old : Value) (W : World) (hb : W.cell? b = some (.int .i64 k)) (ht : W.cell? ta = some old) (hf : W.frozen? ta = false) :
    (ReflectliteValue.set #[.agg #[.pointer (some ⟨4, 39, none⟩), .pointer (some ta), .int .u64 386], .agg #[.pointer (some ⟨4, 39, none⟩), .pointer (some b), .int .u64 130]]).run Tryz.prog W
      = .ok (.tuple #[]) (W.setCell ta (.int .i64 k)) := by
  rw [rls]
  simp only [Sem.run_bind, Tryz.partsXa, Tryz.partsX, Result.andThen]
  simp [ReflectliteValue.flagAddr, loadVar, isAgg, underlying, Tryz.underlying39, hb, Result.andThen, Tryz.directX, storeVar, Value.cells, storeCells, Addr.add]
  rw [run_store Tryz.prog W ta _ _ (by rfl)]
  simp [ht, hf]

set_option maxHeartbeats 4000000 in
theorem as_hit (k : Int) (t : Addr) (old : Value) (w : World) (hg : w.cell? ⟨0, 0, none⟩ = some (.iface 141 (.agg #[.pointer (some ⟨4, 26, none⟩)]))) (ht0 : w.cell? t = some old) (hf0 : w.frozen? t = false) :
    Calls Tryz.prog 39 #[.iface 39 (.int .i64 k), .iface 91 (.pointer (some t))] w fun ev w' => ev = .returned (.bool true) ∧ w' = ((((w.alloc (.cells #[.pointer (some t)] 91)).alloc (.cells #[.pointer (some ⟨4, 91, none⟩), .pointer (some ⟨w.heap.size, 0, none⟩), .int .u64 150] 111)).alloc (.cells #[.pointer (some ⟨4, 91, none⟩), .pointer (some ⟨w.heap.size, 0, none⟩), .int .u64 150] 111)).alloc (.cells #[.int .i64 k] 39)).setCell t (.int .i64 k) := by
  have h6 := @run_callFunc_extern Tryz.prog 58 _ (fun args => ReflectliteValue.unpack (args.getD 0 (.tuple #[]))) Tryz.func58 (by kernel_rfl) (by kernel_rfl) (by kernel_rfl) (by kernel_rfl)
  have h7 := @run_callFunc_extern Tryz.prog 59 _ (ReflectliteValue.methodAny (ReflectliteValue.valueError "reflectlite.Value.Type" 0) (fun t _ _ _ => ReflectliteType.toType t)) Tryz.func59 (by kernel_rfl) (by kernel_rfl) (by kernel_rfl) (by kernel_rfl)
  have h8 := @run_callFunc_extern Tryz.prog 60 _ (ReflectliteValue.method (ReflectliteValue.valueError "reflectlite.Value.IsNil" 0) ReflectliteValue.isNil) Tryz.func60 (by kernel_rfl) (by kernel_rfl) (by kernel_rfl) (by kernel_rfl)
  have h27 := @run_callFunc_extern Tryz.prog 124 _ (ReflectliteType.abiMethod fun t => do pure (.int .u8 (← Rtype.kind t))) Tryz.func124 (by kernel_rfl) (by kernel_rfl) (by kernel_rfl) (by kernel_rfl)
  have h37 := @run_callFunc_extern Tryz.prog 153 _ (ReflectliteType.method ReflectliteType.elem) Tryz.func153 (by kernel_rfl) (by kernel_rfl) (by kernel_rfl) (by kernel_rfl)
  have h38 := @run_callFunc_extern Tryz.prog 154 _ (ReflectliteType.relation "Implements" ReflectliteType.implements_) Tryz.func154 (by kernel_rfl) (by kernel_rfl) (by kernel_rfl) (by kernel_rfl)
  have h10 := @run_callFunc_extern Tryz.prog 78 _ ReflectliteType.typeOf Tryz.func78 (by kernel_rfl) (by kernel_rfl) (by kernel_rfl) (by kernel_rfl)
  have h35 := @run_callFunc_extern Tryz.prog 151 _ (ReflectliteType.relation "AssignableTo" ReflectliteType.assignableTo) Tryz.func151 (by kernel_rfl) (by kernel_rfl) (by kernel_rfl) (by kernel_rfl)
  have h11 := @run_callFunc_extern Tryz.prog 79 _ (ReflectliteValue.method (ReflectliteValue.valueError "reflectlite.Value.Elem" 0) ReflectliteValue.elem) Tryz.func79 (by kernel_rfl) (by kernel_rfl) (by kernel_rfl) (by kernel_rfl)
  have h12 := @run_callFunc_extern Tryz.prog 80 _ ReflectliteValue.set Tryz.func80 (by kernel_rfl) (by kernel_rfl) (by kernel_rfl) (by kernel_rfl)
  have tO := Tryz.typeOfX
  have mA := Tryz.methodAssignableTo
  have a25 := Tryz.assignableX
  have v25 := Tryz.valueOfX
  have f6 := Tryz.valueOfT
  have f7 := Tryz.typeT
  have mK := Tryz.methodKind
  have mE := Tryz.methodElem
  have mI := Tryz.methodImplements
  have k27 := Tryz.kindT
  have k25 := Tryz.kindX
  have e27 := Tryz.elemT
  have i25 := Tryz.implementsX
  have n8 := Tryz.isNilT ⟨w.heap.size, 0, none⟩ t ((w.alloc (.cells #[.pointer (some t)] 91)).alloc (.cells #[.pointer (some ⟨4, 91, none⟩), .pointer (some ⟨w.heap.size, 0, none⟩), .int .u64 150] 111)) (by simp)
  have hlt : 0 < w.heap.size := by
    rcases Nat.lt_or_ge 0 w.heap.size with h | h
    · exact h
    · simp [World.cell?, Array.getElem?_eq_none h] at hg
  have hg2 : ((w.alloc (.cells #[.pointer (some t)] 91)).alloc (.cells #[.pointer (some ⟨4, 91, none⟩), .pointer (some ⟨w.heap.size, 0, none⟩), .int .u64 150] 111)).cell? ⟨0, 0, none⟩ = some (.iface 141 (.agg #[.pointer (some ⟨4, 26, none⟩)])) := by
    rw [World.cell?_alloc_lt _ _ ⟨0, 0, none⟩ (by first | (simp; done) | (simp; omega)), World.cell?_alloc_lt _ _ ⟨0, 0, none⟩ hlt]; exact hg
  have htl : t.block < w.heap.size := by
    rcases Nat.lt_or_ge t.block w.heap.size with h | h
    · exact h
    · simp [World.cell?, Array.getElem?_eq_none h] at ht0
  have el := Tryz.elemVT ⟨w.heap.size, 0, none⟩ t (((w.alloc (.cells #[.pointer (some t)] 91)).alloc (.cells #[.pointer (some ⟨4, 91, none⟩), .pointer (some ⟨w.heap.size, 0, none⟩), .int .u64 150] 111)).alloc (.cells #[.pointer (some ⟨4, 91, none⟩), .pointer (some ⟨w.heap.size, 0, none⟩), .int .u64 150] 111)) (by rw [World.cell?_alloc_lt _ _ ⟨w.heap.size, 0, none⟩ (by simp; omega)]; simp)
  have st := Tryz.setX t ⟨w.heap.size + 1 + 1 + 1, 0, none⟩ k old ((((w.alloc (.cells #[.pointer (some t)] 91)).alloc (.cells #[.pointer (some ⟨4, 91, none⟩), .pointer (some ⟨w.heap.size, 0, none⟩), .int .u64 150] 111)).alloc (.cells #[.pointer (some ⟨4, 91, none⟩), .pointer (some ⟨w.heap.size, 0, none⟩), .int .u64 150] 111)).alloc (.cells #[.int .i64 k] 39))
    (by rw [World.cell?_alloc_at _ _ _ _ (by simp)]; rfl)
    (by rw [World.cell?_alloc_lt _ _ t (by simp; omega), World.cell?_alloc_lt _ _ t (by simp; omega), World.cell?_alloc_lt _ _ t (by simp; omega), World.cell?_alloc_lt _ _ t htl]; exact ht0)
    (by rw [World.frozen?_alloc_old _ _ t (by simp; omega), World.frozen?_alloc_old _ _ t (by simp; omega), World.frozen?_alloc_old _ _ t (by simp; omega), World.frozen?_alloc_old _ _ t (Nat.ne_of_lt htl)]; exact hf0)
  go_enter Tryz.func39, Tryz.ntmps39
  go_wp2
  refine wp_loop_rounds 1 ?_
  rw [rounds_succ]
  go_wp2
  go_ret
  exact ⟨rfl, rfl⟩
end Go.Proofs.YtmklekabnghafaaGreatDoor
namespace Go.Proofs.YtmklekabnghafaaGreatDoor
open Go.RowKit Go.Extern.Stop Go.Stop Go.Extern
theorem tell_nil (w : World) : Calls Tryz.prog 23 #[.nilIface] w fun e w' => e = .returned (.int .i64 0) ∧ Below w.heap.size w w' := by
  go_enter Tryz.func23, Tryz.ntmps23
  go_wp2
  go_ret
  exact ⟨rfl, Below.refl _ _⟩

set_option maxRecDepth 100000 in
set_option maxHeartbeats 4000000 in
theorem tell_hit (k : Int) (w : World) (hg : w.cell? ⟨0, 0, none⟩ = some (.iface 141 (.agg #[.pointer (some ⟨4, 26, none⟩)]))) : Calls Tryz.prog 23 #[.iface 39 (.int .i64 k)] w fun e w' => e = .returned (.int .i64 k) ∧ Below w.heap.size w w' := by
  have hlt : 0 < w.heap.size := by
    rcases Nat.lt_or_ge 0 w.heap.size with h | h
    · exact h
    · simp [World.cell?, Array.getElem?_eq_none h] at hg
  have hgA : (w.alloc (.cells #[.int .i64 0] 39)).cell? ⟨0, 0, none⟩ = some (.iface 141 (.agg #[.pointer (some ⟨4, 26, none⟩)])) := by
    rw [World.cell?_alloc_lt _ _ ⟨0, 0, none⟩ hlt]; exact hg
  have htA : (w.alloc (.cells #[.int .i64 0] 39)).cell? ⟨w.heap.size, 0, none⟩ = some (.int .i64 0) := by simp
  have hfA : (w.alloc (.cells #[.int .i64 0] 39)).frozen? ⟨w.heap.size, 0, none⟩ = false := by simp
  go_enter Tryz.func23, Tryz.ntmps23
  go_wp2_with (first | (go_at_call 39; refine (as_hit k _ (.int .i64 0) _ hgA htA hfA).mono ?_; rintro e w' ⟨rfl, rfl⟩))
  go_ret
  refine ⟨rfl, ?_⟩
  repeat (first | exact Below.refl _ _ | refine Below.alloc ?_ (by first | (simp; done) | (simp; omega)) _)
end Go.Proofs.YtmklekabnghafaaGreatDoor
namespace Go.Sc.F
open Go Go.Sc
set_option linter.unusedVariables false
/-- strings.Join -/
def strings_Join (E : Env) (P : Program) (a0 a1 : AV) (H : AH) (R : Kt) : Prop :=
  wGet (lenA a0) H fun t12 H =>
  wGet (binA .eql t12 (.val (.int .i64 0))) H fun t14 H =>
  wIf t14 (
    R (.val (.string ⟨#[]⟩)) H) (
    wGet (binA .eql t12 (.val (.int .i64 1))) H fun t16 H =>
    wIf t16 (
      wGet (iaddr 1 a0 (.val (.int .i64 0))) H fun t18 H =>
      wGet (load1 t18 H) H fun t19 H =>
      R t19 H) (
      wJoin 1 (fun J1 =>
        wGet (lenS a1) H fun t21 H =>
        wGet (binA .gtr t21 (.val (.int .i64 0))) H fun t22 H =>
        wIf t22 (
          wJoin 0 (fun J2 =>
            wGet (lenS a1) H fun t24 H =>
            wGet (lenA a0) H fun t26 H =>
            wGet (binA .sub t26 (.val (.int .i64 1))) H fun t27 H =>
            wGet (binA .quo (.val (.int .i64 9223372036854775807)) t27) H fun t28 H =>
            wGet (binA .geq t24 t28) H fun t29 H =>
            wIf t29 (
              False) (
              J2 H)) fun H =>
            wGet (lenS a1) H fun t33 H =>
            wGet (lenA a0) H fun t35 H =>
            wGet (binA .sub t35 (.val (.int .i64 1))) H fun t36 H =>
            wGet (binA .mul t33 t36) H fun t37 H =>
            wGet (binA .add (.val (.int .i64 0)) t37) H fun t38 H =>
            J1 t38 H) (
          J1 (.val (.int .i64 0)) H)) fun t5 H =>
        wGet (lenA a0) H fun t40 H =>
        wLoop 2 (fun I3 => I3 t5 (.val (.int .i64 0)) H) fun I3 t5_1 t41 H =>
          wGet (binA .lss t41 t40) H fun t42 H =>
          wIf t42 (
            wGet (iaddr 1 a0 t41) H fun t43 H =>
            wGet (load1 t43 H) H fun t44 H =>
            wJoin 0 (fun J4 =>
              wGet (lenS t44) H fun t46 H =>
              wGet (binA .sub (.val (.int .i64 9223372036854775807)) t5_1) H fun t48 H =>
              wGet (binA .gtr t46 t48) H fun t49 H =>
              wIf t49 (
                False) (
                J4 H)) fun H =>
              wGet (lenS t44) H fun t53 H =>
              wGet (binA .add t5_1 t53) H fun t54 H =>
              wGet (binA .add t41 (.val (.int .i64 1))) H fun t55 H =>
              I3 t54 t55 H) (
            wNew 2 (some [(.val (.pointer none)), (.val (.slice none 0 0))]) H fun t8 H =>
            wCall E P 119 [t8, t5_1] H fun t57 H =>
            wGet (iaddr 1 a0 (.val (.int .i64 0))) H fun t59 H =>
            wGet (load1 t59 H) H fun t60 H =>
            wCall E P 120 [t8, t60] H fun t61 H =>
            wGet (sliceA 1 a0 (some (.val (.int .i64 1))) none H) H fun t63 H =>
            wGet (lenA t63) H fun t64 H =>
            wLoop 1 (fun I5 => I5 (.val (.int .i64 0)) H) fun I5 t65 H =>
              wGet (binA .lss t65 t64) H fun t66 H =>
              wIf t66 (
                wGet (iaddr 1 t63 t65) H fun t67 H =>
                wGet (load1 t67 H) H fun t68 H =>
                wCall E P 120 [t8, a1] H fun t70 H =>
                wCall E P 120 [t8, t68] H fun t72 H =>
                wGet (binA .add t65 (.val (.int .i64 1))) H fun t73 H =>
                I5 t73 H) (
                wCall E P 121 [t8] H fun t74 H =>
                R t74 H))))

end Go.Sc.F
