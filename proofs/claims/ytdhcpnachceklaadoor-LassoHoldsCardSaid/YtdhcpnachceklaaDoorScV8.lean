/- of the seat YtdhcpnachceklaaDoor, printed by a program of ours -/
import Derived.Test.YtdhcpnachceklaaDoorScC
namespace Go.Sc.F
open Go Go.Sc
set_option linter.unusedVariables false

/-- signalbox/signalboxlaw.LassoHolds -/
def law_LassoHolds (E : Env) (P : Program) (a0 a1 : AV) (H : AH) (R : Kt) : Prop :=
  wNew 2 (AV.cells? a0) H fun t2 H =>
  wCall E P 92 [a1] H fun t16 H =>
  wGet (extractA t16 0) H fun t17 H =>
  wGet (extractA t16 1) H fun t18 H =>
  wGet (extractA t16 2) H fun t19 H =>
  wGet (unA .not t19) H fun t21 H =>
  wGuard t21 false H (fun k => k t18 H) fun t23 H =>
  wGuard t21 false H (fun k => wGet (binA .gtr t23 (.val (.int .i64 14))) H k) fun t24 H =>
  wGet (pickA t21 (.val (.bool true)) t24) H fun t25 H =>
  wGuard t25 false H (fun k => wGet (faddr 0 t2) H k) fun t27 H =>
  wGuard t25 false H (fun k => wGet (load1 t27 H) H k) fun t28 H =>
  wGuard t25 false H (fun k => wGet (lenA t28) H k) fun t29 H =>
  wGuard t25 false H (fun k => wGet (faddr 1 t2) H k) fun t30 H =>
  wGuard t25 false H (fun k => wGet (load1 t30 H) H k) fun t31 H =>
  wGuard t25 false H (fun k => wGet (lenA t31) H k) fun t32 H =>
  wGuard t25 false H (fun k => wGet (binA .add t29 t32) H k) fun t33 H =>
  wGuard t25 false H (fun k => wGet (binA .gtr t33 (.val (.int .i64 70))) H k) fun t34 H =>
  wGet (pickA t25 (.val (.bool true)) t34) H fun t35 H =>
  wIf t35 (
    R (.val (.bool true)) H) (
    wGet (faddr 0 t2) H fun t36 H =>
    wGet (load1 t36 H) H fun t37 H =>
    wGet (faddr 1 t2) H fun t38 H =>
    wGet (load1 t38 H) H fun t39 H =>
    wAgg (fillA [(.val (.slice none 0 0)), (.val (.slice none 0 0))] [(0, 1, t37), (1, 1, t39)]) H fun t40 H =>
    wNew 2 (some [(.val (.slice none 0 0)), (.val (.slice none 0 0))]) H fun t8 H =>
    wPut (storeN 2 t8 t40 H) fun _u H =>
    wGet (loadN 2 t8 H) H fun t41 H =>
    wCall E P 93 [t41] H fun t42 H =>
    wGet (loadN 2 t2 H) H fun t43 H =>
    wCall E P 31 [t43] H fun t44 H =>
    wCall E P 89 [t44, t42] H fun t46 H =>
    wGet (unA .not t46) H fun t47 H =>
    wIf t47 (
      R (.val (.bool false)) H) (
      wJoin 1 (fun J1 =>
        wGet (binA .eql t42 (.val (.int .i64 0))) H fun t49 H =>
        wGuard t49 true H (fun k => k t17 H) fun t51 H =>
        wGuard t49 true H (fun k => wCall E P 94 [t51] H k) fun t52 H =>
        wGuard t49 true H (fun k => wGet (unA .not t52) H k) fun t53 H =>
        wGet (pickA t49 t53 (.val (.bool false))) H fun t54 H =>
        wIf t54 (
          J1 (.val (.int .i64 5)) H) (
          J1 t42 H)) fun t9 H =>
        wGet (loadN 2 t2 H) H fun t56 H =>
        wCall E P 26 [a1] H fun t58 H =>
        (wGet (loadN 2 t2 H) H (fun y H2 => y = t56 ∧ H2 = H)) ∧
        wCall E P 27 [t56, t58] H fun t59 H =>
        wGet (extractA t59 0) H fun t60 H =>
        wGet (extractA t59 1) H fun t61 H =>
        wGet (binA .neq t9 (.val (.int .i64 0))) H fun t63 H =>
        wIf t63 (
          wCall E P 89 [t61, t9] H fun t66 H =>
          wGuard t66 true H (fun k => k t60 H) fun t68 H =>
          wGuard t66 true H (fun k => wGet (lenA t68) H k) fun t69 H =>
          wGuard t66 true H (fun k => wGet (binA .eql t69 (.val (.int .i64 0))) H k) fun t70 H =>
          wGet (pickA t66 t70 (.val (.bool false))) H fun t71 H =>
          R t71 H) (
          wGet (faddr 0 t2) H fun t72 H =>
          wGet (load1 t72 H) H fun t73 H =>
          wGet (lenA t73) H fun t74 H =>
          wGet (faddr 1 t2) H fun t75 H =>
          wGet (load1 t75 H) H fun t76 H =>
          wGet (lenA t76) H fun t77 H =>
          wGet (binA .add t74 t77) H fun t78 H =>
          wGet (binA .gtr t78 (.val (.int .i64 8))) H fun t80 H =>
          wIf t80 (
            R (.val (.bool true)) H) (
            wBool (eqA .iface t61 (.val (.nilIface))) H true fun t82 H =>
            wGuard t82 false H (fun k => k t60 H) fun t84 H =>
            wGuard t82 false H (fun k => wGet (lenA t84) H k) fun t85 H =>
            wGuard t82 false H (fun k => k t78 H) fun t86 H =>
            wGuard t82 false H (fun k => wGet (binA .neq t85 t86) H k) fun t87 H =>
            wGet (pickA t82 (.val (.bool true)) t87) H fun t88 H =>
            wIf t88 (
              R (.val (.bool false)) H) (
              wLoop 1 (fun I2 => I2 (.val (.int .i64 0)) H) fun I2 t13 H =>
                wGet (binA .lss t13 t78) H fun t91 H =>
                wIf t91 (
                  wGet (iaddr 1 t60 t13) H fun t96 H =>
                  wGet (load1 t96 H) H fun t97 H =>
                  wGet (loadN 2 t8 H) H fun t99 H =>
                  wCall E P 95 [t17, t99, t13] H fun t101 H =>
                  (wGet (load1 t96 H) H (fun y H2 => y = t97 ∧ H2 = H)) ∧
                  wBool (eqA .bool t97 t101) H true fun t102 H =>
                  wIf t102 (
                    R (.val (.bool false)) H) (
                    wGet (binA .add t13 (.val (.int .i64 1))) H fun t93 H =>
                    I2 t93 H)) (
                  R (.val (.bool true)) H))))))

/-- signalbox/signalboxlaw.formula -/
def law_formula (E : Env) (P : Program) (a0 : AV) (H : AH) (R : Kt) : Prop :=
  wGet (lenA a0) H fun t17 H =>
  wGet (binA .gtr t17 (.val (.int .i64 40))) H fun t18 H =>
  wIf t18 (
    R (.tup [(.val (.pointer none)), (.val (.int .i64 0)), (.val (.bool false))]) H) (
    wAgg (fillA [(.val (.int .i64 0)), (.val (.string ⟨#[]⟩)), (.val (.slice none 0 0))] [(0, 1, (.val (.int .i64 2)))]) H fun t19 H =>
    wNew 3 (AV.cells? t19) H fun t20 H =>
    wNewS 1 1 (fillA (List.replicate 1 [(.val (.pointer none))]).flatten [(0, 1, t20)]) H fun t21 H =>
    wNewS 1 1 (fillA (List.replicate 1 [(.val (.int .i64 0))]).flatten [(0, 1, (.val (.int .i64 1)))]) H fun t22 H =>
    wNewS 1 1 (fillA (List.replicate 1 [(.val (.int .i64 0))]).flatten [(0, 1, (.val (.int .i64 1)))]) H fun t23 H =>
    wLoop 4 (fun I1 => I1 t21 t22 t23 (.val (.int .i64 0)) H) fun I1 t5 t6 t7 t8 H =>
      wGet (lenA a0) H fun t26 H =>
      wGet (binA .lss t8 t26) H fun t27 H =>
      wIf t27 (
        wGet (iaddr 4 a0 t8) H fun t32 H =>
        wGet (loadN 4 t32 H) H fun t33 H =>
        wNew 4 (some [(.val (.int .i64 0)), (.val (.int .i64 0)), (.val (.int .i64 0)), (.val (.string ⟨#[]⟩))]) H fun t9 H =>
        wPut (storeN 4 t9 t33 H) fun _u H =>
        wGet (faddr 1 t9) H fun t34 H =>
        wGet (load1 t34 H) H fun t35 H =>
        wGet (lenA t5) H fun t37 H =>
        wGet (faddr 2 t9) H fun t39 H =>
        wGet (load1 t39 H) H fun t40 H =>
        wGet (lenA t5) H fun t42 H =>
        wCall E P 30 [t35, t37] H fun t38 H =>
        (wGet (load1 t39 H) H (fun y H2 => y = t40 ∧ H2 = H)) ∧
        wCall E P 30 [t40, t42] H fun t43 H =>
        wGet (faddr 0 t9) H fun t44 H =>
        wGet (load1 t44 H) H fun t45 H =>
        wAgg (fillA [(.val (.int .i64 0)), (.val (.string ⟨#[]⟩)), (.val (.slice none 0 0))] [(0, 1, t45)]) H fun t46 H =>
        wNew 3 (AV.cells? t46) H fun t47 H =>
        wJoin 2 (fun J2 =>
          wGet (faddr 0 t9) H fun t57 H =>
          wGet (load1 t57 H) H fun t58 H =>
          wGet (binA .eql t58 (.val (.int .i64 2))) H fun t59 H =>
          wIf t59 (
            J2 (.val (.int .i64 1)) (.val (.int .i64 1)) H) (
            wGet (faddr 0 t9) H fun t61 H =>
            wGet (load1 t61 H) H fun t62 H =>
            wGet (binA .eql t62 (.val (.int .i64 3))) H fun t63 H =>
            wGuard t63 false H (fun k => wGet (faddr 0 t9) H k) fun t65 H =>
            wGuard t63 false H (fun k => wGet (load1 t65 H) H k) fun t66 H =>
            wGuard t63 false H (fun k => wGet (binA .eql t66 (.val (.int .i64 6))) H k) fun t67 H =>
            wGet (pickA t63 (.val (.bool true)) t67) H fun t68 H =>
            wGuard t68 false H (fun k => wGet (faddr 0 t9) H k) fun t70 H =>
            wGuard t68 false H (fun k => wGet (load1 t70 H) H k) fun t71 H =>
            wGuard t68 false H (fun k => wGet (binA .eql t71 (.val (.int .i64 9))) H k) fun t72 H =>
            wGet (pickA t68 (.val (.bool true)) t72) H fun t73 H =>
            wGuard t73 false H (fun k => wGet (faddr 0 t9) H k) fun t75 H =>
            wGuard t73 false H (fun k => wGet (load1 t75 H) H k) fun t76 H =>
            wGuard t73 false H (fun k => wGet (binA .eql t76 (.val (.int .i64 10))) H k) fun t77 H =>
            wGet (pickA t73 (.val (.bool true)) t77) H fun t78 H =>
            wIf t78 (
              wGet (iaddr 1 t5 t38) H fun t82 H =>
              wGet (load1 t82 H) H fun t83 H =>
              wNewS 1 1 (fillA (List.replicate 1 [(.val (.pointer none))]).flatten [(0, 1, t83)]) H fun t84 H =>
              wGet (nilA t47) H fun t85 H =>
              wGet (faddr 2 t85) H fun t86 H =>
              wPut (store1 t86 t84 H) fun _u H =>
              wGet (iaddr 1 t6 t38) H fun t89 H =>
              wGet (load1 t89 H) H fun t90 H =>
              wGet (binA .add (.val (.int .i64 1)) t90) H fun t91 H =>
              wGet (iaddr 1 t7 t38) H fun t94 H =>
              wGet (load1 t94 H) H fun t95 H =>
              wGet (binA .add (.val (.int .i64 1)) t95) H fun t96 H =>
              (wGet (load1 t94 H) H (fun y H2 => y = t95 ∧ H2 = H)) ∧
              J2 t91 t96 H) (
              wGet (faddr 0 t9) H fun t98 H =>
              wGet (load1 t98 H) H fun t99 H =>
              wGet (binA .eql t99 (.val (.int .i64 4))) H fun t100 H =>
              wGuard t100 false H (fun k => wGet (faddr 0 t9) H k) fun t102 H =>
              wGuard t100 false H (fun k => wGet (load1 t102 H) H k) fun t103 H =>
              wGuard t100 false H (fun k => wGet (binA .eql t103 (.val (.int .i64 5))) H k) fun t104 H =>
              wGet (pickA t100 (.val (.bool true)) t104) H fun t105 H =>
              wGuard t105 false H (fun k => wGet (faddr 0 t9) H k) fun t107 H =>
              wGuard t105 false H (fun k => wGet (load1 t107 H) H k) fun t108 H =>
              wGuard t105 false H (fun k => wGet (binA .eql t108 (.val (.int .i64 7))) H k) fun t109 H =>
              wGet (pickA t105 (.val (.bool true)) t109) H fun t110 H =>
              wGuard t110 false H (fun k => wGet (faddr 0 t9) H k) fun t112 H =>
              wGuard t110 false H (fun k => wGet (load1 t112 H) H k) fun t113 H =>
              wGuard t110 false H (fun k => wGet (binA .eql t113 (.val (.int .i64 8))) H k) fun t114 H =>
              wGet (pickA t110 (.val (.bool true)) t114) H fun t115 H =>
              wIf t115 (
                wGet (iaddr 1 t5 t38) H fun t119 H =>
                wGet (load1 t119 H) H fun t120 H =>
                wGet (iaddr 1 t5 t43) H fun t123 H =>
                wGet (load1 t123 H) H fun t124 H =>
                wNewS 1 2 (fillA (List.replicate 2 [(.val (.pointer none))]).flatten [(0, 1, t120), (1, 1, t124)]) H fun t125 H =>
                wGet (nilA t47) H fun t126 H =>
                wGet (faddr 2 t126) H fun t127 H =>
                wPut (store1 t127 t125 H) fun _u H =>
                wGet (iaddr 1 t6 t38) H fun t130 H =>
                wGet (load1 t130 H) H fun t131 H =>
                wGet (binA .add (.val (.int .i64 1)) t131) H fun t132 H =>
                wGet (iaddr 1 t6 t43) H fun t135 H =>
                wGet (load1 t135 H) H fun t136 H =>
                wGet (binA .add t132 t136) H fun t137 H =>
                wGet (iaddr 1 t7 t38) H fun t140 H =>
                wGet (load1 t140 H) H fun t141 H =>
                wGet (iaddr 1 t7 t43) H fun t144 H =>
                wGet (load1 t144 H) H fun t145 H =>
                wOne (fun H k => wGet (minA true t141 t145) H k) H fun t146 H =>
                wGet (binA .add (.val (.int .i64 1)) t146) H fun t147 H =>
                wOne (fun H k => k t137 H) H fun t13 H =>
                wOne (fun H k => k t147 H) H fun t14 H =>
                wAll H fun H =>
                J2 t13 t14 H) (
                wGet (faddr 3 t9) H fun t50 H =>
                wGet (load1 t50 H) H fun t51 H =>
                wGet (nilA t47) H fun t52 H =>
                wGet (faddr 0 t52) H fun t53 H =>
                wPut (store1 t53 (.val (.int .i64 1)) H) fun _u H =>
                (wGet (load1 t50 H) H (fun y H2 => y = t51 ∧ H2 = H)) ∧
                wGet (nilA t47) H fun t54 H =>
                wGet (faddr 1 t54) H fun t55 H =>
                wPut (store1 t55 t51 H) fun _u H =>
                J2 (.val (.int .i64 1)) (.val (.int .i64 1)) H)))) fun t13_1 t14_1 H =>
          wNewS 1 1 (fillA (List.replicate 1 [(.val (.pointer none))]).flatten [(0, 1, t47)]) H fun t150 H =>
          wApp 1 8 t5 t150 H fun t151 H =>
          wGet (minA false t13_1 (.val (.int .i64 1000000))) H fun t154 H =>
          wNewS 1 1 (fillA (List.replicate 1 [(.val (.int .i64 0))]).flatten [(0, 1, t154)]) H fun t155 H =>
          wApp 1 8 t6 t155 H fun t156 H =>
          wNewS 1 1 (fillA (List.replicate 1 [(.val (.int .i64 0))]).flatten [(0, 1, t14_1)]) H fun t159 H =>
          wApp 1 8 t7 t159 H fun t160 H =>
          wGet (binA .add t8 (.val (.int .i64 1))) H fun t29 H =>
          I1 t151 t156 t160 t29 H) (
        wGet (lenA t5) H fun t162 H =>
        wGet (binA .sub t162 (.val (.int .i64 1))) H fun t163 H =>
        wGet (iaddr 1 t5 t163) H fun t166 H =>
        wGet (load1 t166 H) H fun t167 H =>
        wGet (iaddr 1 t6 t163) H fun t170 H =>
        wGet (load1 t170 H) H fun t171 H =>
        wGet (iaddr 1 t7 t163) H fun t174 H =>
        wGet (load1 t174 H) H fun t175 H =>
        wGet (binA .leq t175 (.val (.int .i64 20))) H fun t176 H =>
        (wGet (load1 t170 H) H (fun y H2 => y = t171 ∧ H2 = H)) ∧
        (wGet (load1 t174 H) H (fun y H2 => y = t175 ∧ H2 = H)) ∧
        (wGet (load1 t174 H) H (fun y H2 => y = t175 ∧ H2 = H)) ∧
        R (.tup [t167, t171, t176]) H))

/-- signalbox/signalboxref.WordCheck -/
def ref_WordCheck (E : Env) (P : Program) (a0 : AV) (H : AH) (R : Kt) : Prop :=
  wNew 2 (AV.cells? a0) H fun t1 H =>
  wGet (faddr 1 t1) H fun t7 H =>
  wGet (load1 t7 H) H fun t8 H =>
  wGet (lenA t8) H fun t9 H =>
  wGet (binA .eql t9 (.val (.int .i64 0))) H fun t10 H =>
  wGuard t10 false H (fun k => wGet (faddr 0 t1) H k) fun t12 H =>
  wGuard t10 false H (fun k => wGet (load1 t12 H) H k) fun t13 H =>
  wGuard t10 false H (fun k => wGet (lenA t13) H k) fun t14 H =>
  wGuard t10 false H (fun k => wGet (faddr 1 t1) H k) fun t15 H =>
  wGuard t10 false H (fun k => wGet (load1 t15 H) H k) fun t16 H =>
  wGuard t10 false H (fun k => wGet (lenA t16) H k) fun t17 H =>
  wGuard t10 false H (fun k => wGet (binA .add t14 t17) H k) fun t18 H =>
  wGuard t10 false H (fun k => wGet (binA .gtr t18 (.val (.int .i64 60))) H k) fun t19 H =>
  wGet (pickA t10 (.val (.bool true)) t19) H fun t20 H =>
  wIf t20 (
    R (.val (.int .i64 4)) H) (
    wGet (faddr 0 t1) H fun t22 H =>
    wGet (load1 t22 H) H fun t23 H =>
    wGet (faddr 1 t1) H fun t25 H =>
    wGet (load1 t25 H) H fun t26 H =>
    wNewS 1 0 (fillA (List.replicate 0 [(.val (.slice none 0 0))]).flatten []) H fun t21 H =>
    (wGet (load1 t22 H) H (fun y H2 => y = t23 ∧ H2 = H)) ∧
    (wGet (load1 t25 H) H (fun y H2 => y = t26 ∧ H2 = H)) ∧
    wApp 1 24 t21 t23 H fun t24 H =>
    (wGet (load1 t25 H) H (fun y H2 => y = t26 ∧ H2 = H)) ∧
    wApp 1 24 t24 t26 H fun t27 H =>
    wGet (lenA t27) H fun t28 H =>
    wLoop 1 (fun I1 => I1 (.val (.int .i64 0)) H) fun I1 t29 H =>
      wGet (binA .lss t29 t28) H fun t30 H =>
      wIf t30 (
        wGet (iaddr 1 t27 t29) H fun t31 H =>
        wGet (load1 t31 H) H fun t32 H =>
        wGet (lenA t32) H fun t34 H =>
        wLoop 1 (fun I2 => I2 (.val (.int .i64 0)) H) fun I2 t35 H =>
          wGet (binA .lss t35 t34) H fun t36 H =>
          wIf t36 (
            wGet (iaddr 1 t32 t35) H fun t37 H =>
            wGet (load1 t37 H) H fun t38 H =>
            wCall E P 2 [t38] H fun t40 H =>
            wGet (unA .not t40) H fun t41 H =>
            wIf t41 (
              R (.val (.int .i64 5)) H) (
              wGet (binA .add t35 (.val (.int .i64 1))) H fun t42 H =>
              I2 t42 H)) (
            wGet (binA .add t29 (.val (.int .i64 1))) H fun t43 H =>
            I1 t43 H)) (
        R (.val (.int .i64 0)) H))

/-- signalbox/signalboxlaw.named -/
def law_named (E : Env) (P : Program) (a0 : AV) (H : AH) (R : Kt) : Prop :=
  wGet (nilA a0) H fun t5 H =>
  wGet (faddr 0 t5) H fun t6 H =>
  wGet (load1 t6 H) H fun t7 H =>
  wGet (binA .eql t7 (.val (.int .i64 1))) H fun t8 H =>
  wGuard t8 true H (fun k => k a0 H) fun t10 H =>
  wGuard t8 true H (fun k => wGet (nilA t10) H k) fun t11 H =>
  wGuard t8 true H (fun k => wGet (faddr 1 t11) H k) fun t12 H =>
  wGuard t8 true H (fun k => wGet (load1 t12 H) H k) fun t13 H =>
  wGuard t8 true H (fun k => wCall E P 2 [t13] H k) fun t14 H =>
  wGuard t8 true H (fun k => wGet (unA .not t14) H k) fun t15 H =>
  wGet (pickA t8 t15 (.val (.bool false))) H fun t16 H =>
  wIf t16 (
    R (.val (.bool false)) H) (
    wLoop 1 (fun I1 => I1 (.val (.int .i64 0)) H) fun I1 t3 H =>
      wGet (nilA a0) H fun t19 H =>
      wGet (faddr 2 t19) H fun t20 H =>
      wGet (load1 t20 H) H fun t21 H =>
      wGet (lenA t21) H fun t22 H =>
      wGet (binA .lss t3 t22) H fun t23 H =>
      wIf t23 (
        wGet (nilA a0) H fun t27 H =>
        wGet (faddr 2 t27) H fun t28 H =>
        wGet (load1 t28 H) H fun t29 H =>
        wGet (iaddr 1 t29 t3) H fun t31 H =>
        wGet (load1 t31 H) H fun t32 H =>
        wCall E P 94 [t32] H fun t33 H =>
        wGet (unA .not t33) H fun t34 H =>
        wIf t34 (
          R (.val (.bool false)) H) (
          wGet (binA .add t3 (.val (.int .i64 1))) H fun t25 H =>
          I1 t25 H)) (
        R (.val (.bool true)) H))

/-- (*signalbox/signalboxref.Formula).At -/
def pref_Formula_At (E : Env) (P : Program) (a0 a1 a2 : AV) (H : AH) (R : Kt) : Prop :=
  wNew 2 (AV.cells? a1) H fun t4 H =>
  wGet (faddr 0 t4) H fun t14 H =>
  wGet (load1 t14 H) H fun t15 H =>
  wGet (lenA t15) H fun t16 H =>
  wNew 1 (some [(.val (.int .i64 0))]) H fun t7 H =>
  wPut (store1 t7 t16 H) fun _u H =>
  wGet (load1 t7 H) H fun t19 H =>
  wGet (minA true a2 t19) H fun t20 H =>
  wGet (faddr 1 t4) H fun t21 H =>
  wGet (load1 t21 H) H fun t22 H =>
  wGet (lenA t22) H fun t23 H =>
  wGet (binA .mul (.val (.int .i64 2)) t23) H fun t24 H =>
  wGet (binA .add t20 t24) H fun t25 H =>
  wGet (nilA a0) H fun t27 H =>
  wGet (faddr 0 t27) H fun t28 H =>
  wGet (load1 t28 H) H fun t29 H =>
  wGet (binA .eql t29 (.val (.int .i64 1))) H fun t31 H =>
  wIf t31 (
    wGet (faddr 0 t4) H fun t33 H =>
    wGet (load1 t33 H) H fun t34 H =>
    wGet (faddr 1 t4) H fun t36 H =>
    wGet (load1 t36 H) H fun t37 H =>
    wNewS 1 0 (fillA (List.replicate 0 [(.val (.slice none 0 0))]).flatten []) H fun t32 H =>
    (wGet (load1 t33 H) H (fun y H2 => y = t34 ∧ H2 = H)) ∧
    (wGet (load1 t36 H) H (fun y H2 => y = t37 ∧ H2 = H)) ∧
    wApp 1 24 t32 t34 H fun t35 H =>
    (wGet (load1 t36 H) H (fun y H2 => y = t37 ∧ H2 = H)) ∧
    wApp 1 24 t35 t37 H fun t38 H =>
    wCallV E P (.fn 97 [] [t7, t4]) [a2] H fun t41 H =>
    wGet (iaddr 1 t38 t41) H fun t42 H =>
    wGet (load1 t42 H) H fun t43 H =>
    wGet (nilA a0) H fun t46 H =>
    wGet (faddr 1 t46) H fun t47 H =>
    wGet (load1 t47 H) H fun t48 H =>
    wCall E P 98 [t43, t48] H fun t49 H =>
    wGet (binA .geq t49 (.val (.int .i64 0))) H fun t50 H =>
    R t50 H) (
    wGet (binA .eql t29 (.val (.int .i64 2))) H fun t52 H =>
    wIf t52 (
      R (.val (.bool true)) H) (
      wGet (binA .eql t29 (.val (.int .i64 3))) H fun t54 H =>
      wIf t54 (
        wGet (nilA a0) H fun t56 H =>
        wGet (faddr 2 t56) H fun t57 H =>
        wGet (load1 t57 H) H fun t58 H =>
        wGet (iaddr 1 t58 (.val (.int .i64 0))) H fun t59 H =>
        wGet (load1 t59 H) H fun t60 H =>
        wGet (loadN 2 t4 H) H fun t61 H =>
        wCall E P 95 [t60, t61, a2] H fun t63 H =>
        wGet (unA .not t63) H fun t64 H =>
        R t64 H) (
        wGet (binA .eql t29 (.val (.int .i64 4))) H fun t66 H =>
        wIf t66 (
          wGet (nilA a0) H fun t68 H =>
          wGet (faddr 2 t68) H fun t69 H =>
          wGet (load1 t69 H) H fun t70 H =>
          wGet (iaddr 1 t70 (.val (.int .i64 0))) H fun t71 H =>
          wGet (load1 t71 H) H fun t72 H =>
          wGet (loadN 2 t4 H) H fun t73 H =>
          wCall E P 95 [t72, t73, a2] H fun t75 H =>
          wGuard t75 true H (fun k => k a0 H) fun t77 H =>
          wGuard t75 true H (fun k => wGet (nilA t77) H k) fun t78 H =>
          wGuard t75 true H (fun k => wGet (faddr 2 t78) H k) fun t79 H =>
          wGuard t75 true H (fun k => wGet (load1 t79 H) H k) fun t80 H =>
          wGuard t75 true H (fun k => wGet (iaddr 1 t80 (.val (.int .i64 1))) H k) fun t81 H =>
          wGuard t75 true H (fun k => wGet (load1 t81 H) H k) fun t82 H =>
          wGuard t75 true H (fun k => wGet (loadN 2 t4 H) H k) fun t83 H =>
          wGuard t75 true H (fun k => k a2 H) fun t84 H =>
          wGuard t75 true H (fun k => wCall E P 95 [t82, t83, t84] H k) fun t85 H =>
          wGet (pickA t75 t85 (.val (.bool false))) H fun t86 H =>
          R t86 H) (
          wGet (binA .eql t29 (.val (.int .i64 5))) H fun t88 H =>
          wIf t88 (
            wGet (nilA a0) H fun t90 H =>
            wGet (faddr 2 t90) H fun t91 H =>
            wGet (load1 t91 H) H fun t92 H =>
            wGet (iaddr 1 t92 (.val (.int .i64 0))) H fun t93 H =>
            wGet (load1 t93 H) H fun t94 H =>
            wGet (loadN 2 t4 H) H fun t95 H =>
            wCall E P 95 [t94, t95, a2] H fun t97 H =>
            wGuard t97 false H (fun k => k a0 H) fun t99 H =>
            wGuard t97 false H (fun k => wGet (nilA t99) H k) fun t100 H =>
            wGuard t97 false H (fun k => wGet (faddr 2 t100) H k) fun t101 H =>
            wGuard t97 false H (fun k => wGet (load1 t101 H) H k) fun t102 H =>
            wGuard t97 false H (fun k => wGet (iaddr 1 t102 (.val (.int .i64 1))) H k) fun t103 H =>
            wGuard t97 false H (fun k => wGet (load1 t103 H) H k) fun t104 H =>
            wGuard t97 false H (fun k => wGet (loadN 2 t4 H) H k) fun t105 H =>
            wGuard t97 false H (fun k => k a2 H) fun t106 H =>
            wGuard t97 false H (fun k => wCall E P 95 [t104, t105, t106] H k) fun t107 H =>
            wGet (pickA t97 (.val (.bool true)) t107) H fun t108 H =>
            R t108 H) (
            wGet (binA .eql t29 (.val (.int .i64 6))) H fun t110 H =>
            wIf t110 (
              wGet (nilA a0) H fun t112 H =>
              wGet (faddr 2 t112) H fun t113 H =>
              wGet (load1 t113 H) H fun t114 H =>
              wGet (iaddr 1 t114 (.val (.int .i64 0))) H fun t115 H =>
              wGet (load1 t115 H) H fun t116 H =>
              wGet (loadN 2 t4 H) H fun t117 H =>
              wGet (binA .add a2 (.val (.int .i64 1))) H fun t120 H =>
              wCallV E P (.fn 97 [] [t7, t4]) [t120] H fun t121 H =>
              (wGet (load1 t113 H) H (fun y H2 => y = t114 ∧ H2 = H)) ∧
              (wGet (load1 t115 H) H (fun y H2 => y = t116 ∧ H2 = H)) ∧
              (wGet (loadN 2 t4 H) H (fun y H2 => y = t117 ∧ H2 = H)) ∧
              wCall E P 95 [t116, t117, t121] H fun t122 H =>
              R t122 H) (
              wGet (binA .eql t29 (.val (.int .i64 7))) H fun t124 H =>
              wIf t124 (
                wLoop 1 (fun I1 => I1 a2 H) fun I1 t11 H =>
                  wGet (binA .lss t11 t25) H fun t128 H =>
                  wIf t128 (
                    wGet (nilA a0) H fun t132 H =>
                    wGet (faddr 2 t132) H fun t133 H =>
                    wGet (load1 t133 H) H fun t134 H =>
                    wGet (iaddr 1 t134 (.val (.int .i64 1))) H fun t135 H =>
                    wGet (load1 t135 H) H fun t136 H =>
                    wGet (loadN 2 t4 H) H fun t137 H =>
                    wCallV E P (.fn 97 [] [t7, t4]) [t11] H fun t140 H =>
                    (wGet (load1 t133 H) H (fun y H2 => y = t134 ∧ H2 = H)) ∧
                    (wGet (load1 t135 H) H (fun y H2 => y = t136 ∧ H2 = H)) ∧
                    (wGet (loadN 2 t4 H) H (fun y H2 => y = t137 ∧ H2 = H)) ∧
                    wCall E P 95 [t136, t137, t140] H fun t141 H =>
                    wIf t141 (
                      R (.val (.bool true)) H) (
                      wGet (nilA a0) H fun t143 H =>
                      wGet (faddr 2 t143) H fun t144 H =>
                      wGet (load1 t144 H) H fun t145 H =>
                      wGet (iaddr 1 t145 (.val (.int .i64 0))) H fun t146 H =>
                      wGet (load1 t146 H) H fun t147 H =>
                      wGet (loadN 2 t4 H) H fun t148 H =>
                      wCallV E P (.fn 97 [] [t7, t4]) [t11] H fun t151 H =>
                      (wGet (load1 t144 H) H (fun y H2 => y = t145 ∧ H2 = H)) ∧
                      (wGet (load1 t146 H) H (fun y H2 => y = t147 ∧ H2 = H)) ∧
                      (wGet (loadN 2 t4 H) H (fun y H2 => y = t148 ∧ H2 = H)) ∧
                      wCall E P 95 [t147, t148, t151] H fun t152 H =>
                      wGet (unA .not t152) H fun t153 H =>
                      wIf t153 (
                        R (.val (.bool false)) H) (
                        wGet (binA .add t11 (.val (.int .i64 1))) H fun t130 H =>
                        I1 t130 H))) (
                    R (.val (.bool false)) H)) (
                wGet (binA .eql t29 (.val (.int .i64 8))) H fun t155 H =>
                wIf t155 (
                  wLoop 1 (fun I2 => I2 a2 H) fun I2 t12 H =>
                    wGet (binA .lss t12 t25) H fun t159 H =>
                    wIf t159 (
                      wGet (nilA a0) H fun t163 H =>
                      wGet (faddr 2 t163) H fun t164 H =>
                      wGet (load1 t164 H) H fun t165 H =>
                      wGet (iaddr 1 t165 (.val (.int .i64 1))) H fun t166 H =>
                      wGet (load1 t166 H) H fun t167 H =>
                      wGet (loadN 2 t4 H) H fun t168 H =>
                      wCallV E P (.fn 97 [] [t7, t4]) [t12] H fun t171 H =>
                      (wGet (load1 t164 H) H (fun y H2 => y = t165 ∧ H2 = H)) ∧
                      (wGet (load1 t166 H) H (fun y H2 => y = t167 ∧ H2 = H)) ∧
                      (wGet (loadN 2 t4 H) H (fun y H2 => y = t168 ∧ H2 = H)) ∧
                      wCall E P 95 [t167, t168, t171] H fun t172 H =>
                      wGet (unA .not t172) H fun t173 H =>
                      wIf t173 (
                        R (.val (.bool false)) H) (
                        wGet (nilA a0) H fun t175 H =>
                        wGet (faddr 2 t175) H fun t176 H =>
                        wGet (load1 t176 H) H fun t177 H =>
                        wGet (iaddr 1 t177 (.val (.int .i64 0))) H fun t178 H =>
                        wGet (load1 t178 H) H fun t179 H =>
                        wGet (loadN 2 t4 H) H fun t180 H =>
                        wCallV E P (.fn 97 [] [t7, t4]) [t12] H fun t183 H =>
                        (wGet (load1 t176 H) H (fun y H2 => y = t177 ∧ H2 = H)) ∧
                        (wGet (load1 t178 H) H (fun y H2 => y = t179 ∧ H2 = H)) ∧
                        (wGet (loadN 2 t4 H) H (fun y H2 => y = t180 ∧ H2 = H)) ∧
                        wCall E P 95 [t179, t180, t183] H fun t184 H =>
                        wIf t184 (
                          R (.val (.bool true)) H) (
                          wGet (binA .add t12 (.val (.int .i64 1))) H fun t161 H =>
                          I2 t161 H))) (
                      R (.val (.bool true)) H)) (
                  wLoop 1 (fun I3 => I3 a2 H) fun I3 t13 H =>
                    wGet (binA .lss t13 t25) H fun t188 H =>
                    wIf t188 (
                      wGet (nilA a0) H fun t192 H =>
                      wGet (faddr 2 t192) H fun t193 H =>
                      wGet (load1 t193 H) H fun t194 H =>
                      wGet (iaddr 1 t194 (.val (.int .i64 0))) H fun t195 H =>
                      wGet (load1 t195 H) H fun t196 H =>
                      wGet (loadN 2 t4 H) H fun t197 H =>
                      wGet (nilA a0) H fun t203 H =>
                      wGet (faddr 0 t203) H fun t204 H =>
                      wGet (load1 t204 H) H fun t205 H =>
                      wGet (binA .eql t205 (.val (.int .i64 9))) H fun t206 H =>
                      wCallV E P (.fn 97 [] [t7, t4]) [t13] H fun t200 H =>
                      (wGet (load1 t193 H) H (fun y H2 => y = t194 ∧ H2 = H)) ∧
                      (wGet (load1 t195 H) H (fun y H2 => y = t196 ∧ H2 = H)) ∧
                      (wGet (loadN 2 t4 H) H (fun y H2 => y = t197 ∧ H2 = H)) ∧
                      (wGet (load1 t204 H) H (fun y H2 => y = t205 ∧ H2 = H)) ∧
                      wCall E P 95 [t196, t197, t200] H fun t201 H =>
                      (wGet (load1 t204 H) H (fun y H2 => y = t205 ∧ H2 = H)) ∧
                      wBool (eqA .bool t201 t206) H false fun t207 H =>
                      wIf t207 (
                        wGet (nilA a0) H fun t209 H =>
                        wGet (faddr 0 t209) H fun t210 H =>
                        wGet (load1 t210 H) H fun t211 H =>
                        wGet (binA .eql t211 (.val (.int .i64 9))) H fun t212 H =>
                        R t212 H) (
                        wGet (binA .add t13 (.val (.int .i64 1))) H fun t190 H =>
                        I3 t190 H)) (
                      wGet (nilA a0) H fun t214 H =>
                      wGet (faddr 0 t214) H fun t215 H =>
                      wGet (load1 t215 H) H fun t216 H =>
                      wGet (binA .neq t216 (.val (.int .i64 9))) H fun t217 H =>
                      R t217 H)))))))))

/-- (*signalbox/signalboxref.Formula).At$1 -/
def pref_Formula_At_c1 (E : Env) (P : Program) (a0 a1 a2 : AV) (H : AH) (R : Kt) : Prop :=
  wGet (load1 a1 H) H fun t6 H =>
  wGet (faddr 1 a2) H fun t7 H =>
  wGet (load1 t7 H) H fun t8 H =>
  wGet (lenA t8) H fun t9 H =>
  wGet (binA .add t6 t9) H fun t10 H =>
  wGet (binA .lss a0 t10) H fun t11 H =>
  wIf t11 (
    R a0 H) (
    wGet (load1 a1 H) H fun t13 H =>
    wGet (load1 a1 H) H fun t15 H =>
    wGet (binA .sub a0 t15) H fun t16 H =>
    wGet (faddr 1 a2) H fun t17 H =>
    wGet (load1 t17 H) H fun t18 H =>
    wGet (lenA t18) H fun t19 H =>
    wGet (binA .rem t16 t19) H fun t20 H =>
    wGet (binA .add t13 t20) H fun t21 H =>
    R t21 H)

/-- signalbox/signalboxref.index -/
def ref_index (E : Env) (P : Program) (a0 a1 : AV) (H : AH) (R : Kt) : Prop :=
  wGet (lenA a0) H fun t8 H =>
  wLoop 1 (fun I1 => I1 (.val (.int .i64 0)) H) fun I1 t9 H =>
    wGet (binA .lss t9 t8) H fun t10 H =>
    wIf t10 (
      wGet (iaddr 1 a0 t9) H fun t12 H =>
      wGet (load1 t12 H) H fun t13 H =>
      wGet (binA .eql t13 a1) H fun t16 H =>
      wGuard t16 true H (fun k => k a1 H) fun t18 H =>
      wGuard t16 true H (fun k => wGet (binA .neq t18 (.val (.string ⟨#[]⟩))) H k) fun t19 H =>
      wGet (pickA t16 t19 (.val (.bool false))) H fun t20 H =>
      wIf t20 (
        R t9 H) (
        wGet (binA .add t9 (.val (.int .i64 1))) H fun t22 H =>
        I1 t22 H)) (
      R (.val (.int .i64 (-1))) H)

end Go.Sc.F
