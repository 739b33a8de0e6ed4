/- of the seat YtdhcpnachceklaaDoor, printed by a program of ours -/
import Derived.Test.YtdhcpnachceklaaDoorScC
namespace Go.Sc.F
open Go Go.Sc
set_option linter.unusedVariables false

/-- signalbox/signalboxlaw.BlockParts -/
def law_BlockParts (E : Env) (P : Program) (a0 a1 a2 a3 : AV) (H : AH) (R : Kt) : Prop :=
  wNew 2 (AV.cells? a0) H fun t4 H =>
  wGet (loadN 2 t4 H) H fun t22 H =>
  wCall E P 76 [t22] H fun t23 H =>
  wGet (extractA t23 0) H fun t24 H =>
  wGet (extractA t23 1) H fun t25 H =>
  wGet (extractA t23 2) H fun t26 H =>
  wNew 2 (some [(.val (.slice none 0 0)), (.val (.slice none 0 0))]) H fun t9 H =>
  wNew 2 (some [(.val (.int .i64 0)), (.val (.int .i64 0))]) H fun t10 H =>
  wPut (storeN 2 t9 t24 H) fun _u H =>
  wPut (storeN 2 t10 t25 H) fun _u H =>
  wGet (unA .not t26) H fun t28 H =>
  wGuard t28 false H (fun k => k a3 H) fun t30 H =>
  wGuard t28 false H (fun k => wGet (lenA t30) H k) fun t31 H =>
  wGuard t28 false H (fun k => wGet (binA .gtr t31 (.val (.int .i64 60))) H k) fun t32 H =>
  wGet (pickA t28 (.val (.bool true)) t32) H fun t33 H =>
  wIf t33 (
    R (.val (.bool true)) H) (
    wGet (loadN 2 t4 H) H fun t35 H =>
    wCall E P 52 [t35, a1, a2] H fun t38 H =>
    wGet (extractA t38 0) H fun t39 H =>
    wGet (extractA t38 1) H fun t40 H =>
    wGet (loadN 2 t4 H) H fun t42 H =>
    wCall E P 50 [t42, a1, a3] H fun t45 H =>
    wGet (extractA t45 0) H fun t46 H =>
    wGet (extractA t45 1) H fun t47 H =>
    wGet (faddr 0 t10) H fun t48 H =>
    wGet (load1 t48 H) H fun t49 H =>
    wGet (binA .neq t49 (.val (.int .i64 0))) H fun t50 H =>
    wIf t50 (
      wGet (loadN 2 t10 H) H fun t52 H =>
      wCall E P 77 [t40, t52] H fun t53 H =>
      wGuard t53 true H (fun k => k t47 H) fun t55 H =>
      wGuard t53 true H (fun k => wGet (loadN 2 t10 H) H k) fun t56 H =>
      wGuard t53 true H (fun k => wCall E P 77 [t55, t56] H k) fun t57 H =>
      wGet (pickA t53 t57 (.val (.bool false))) H fun t58 H =>
      wGuard t58 true H (fun k => k t39 H) fun t60 H =>
      wGuard t58 true H (fun k => wGet (lenA t60) H k) fun t61 H =>
      wGuard t58 true H (fun k => k t46 H) fun t62 H =>
      wGuard t58 true H (fun k => wGet (lenA t62) H k) fun t63 H =>
      wGuard t58 true H (fun k => wGet (binA .add t61 t63) H k) fun t64 H =>
      wGuard t58 true H (fun k => wGet (binA .eql t64 (.val (.int .i64 0))) H k) fun t65 H =>
      wGet (pickA t58 t65 (.val (.bool false))) H fun t66 H =>
      R t66 H) (
      wGet (faddr 0 t4) H fun t67 H =>
      wGet (load1 t67 H) H fun t68 H =>
      wGet (lenA t68) H fun t69 H =>
      wJoin 2 (fun J1 =>
        wGet (binA .lss a1 (.val (.int .i64 0))) H fun t71 H =>
        wGuard t71 false H (fun k => k a1 H) fun t73 H =>
        wGuard t71 false H (fun k => k t69 H) fun t74 H =>
        wGuard t71 false H (fun k => wGet (binA .geq t73 t74) H k) fun t75 H =>
        wGet (pickA t71 (.val (.bool true)) t75) H fun t76 H =>
        wGuard t76 false H (fun k => k a2 H) fun t78 H =>
        wGuard t76 false H (fun k => wGet (binA .lss t78 (.val (.int .i64 0))) H k) fun t79 H =>
        wGet (pickA t76 (.val (.bool true)) t79) H fun t80 H =>
        wGuard t80 false H (fun k => k a2 H) fun t82 H =>
        wGuard t80 false H (fun k => k t69 H) fun t83 H =>
        wGuard t80 false H (fun k => wGet (binA .geq t82 t83) H k) fun t84 H =>
        wGet (pickA t80 (.val (.bool true)) t84) H fun t85 H =>
        wIf t85 (
          J1 (.val (.int .i64 2)) (.val (.slice none 0 0)) H) (
          wGet (loadN 2 t9 H) H fun t87 H =>
          wCall E P 88 [t87, a1, a2] H fun t90 H =>
          wGet (extractA t90 0) H fun t91 H =>
          wGet (extractA t90 1) H fun t92 H =>
          wGet (unA .not t92) H fun t94 H =>
          wIf t94 (
            J1 (.val (.int .i64 8)) t91 H) (
            J1 (.val (.int .i64 0)) t91 H))) fun t17 t18 H =>
        wCall E P 89 [t40, t17] H fun t97 H =>
        wGet (unA .not t97) H fun t98 H =>
        wGuard t98 false H (fun k => k t39 H) fun t100 H =>
        wGuard t98 false H (fun k => k t18 H) fun t101 H =>
        wGuard t98 false H (fun k => wCall E P 80 [t100, t101] H k) fun t102 H =>
        wGuard t98 false H (fun k => wGet (unA .not t102) H k) fun t103 H =>
        wGet (pickA t98 (.val (.bool true)) t103) H fun t104 H =>
        wIf t104 (
          R (.val (.bool false)) H) (
          wJoin 1 (fun J2 =>
            wGet (binA .lss a1 (.val (.int .i64 0))) H fun t106 H =>
            wGuard t106 false H (fun k => k a1 H) fun t108 H =>
            wGuard t106 false H (fun k => k t69 H) fun t109 H =>
            wGuard t106 false H (fun k => wGet (binA .geq t108 t109) H k) fun t110 H =>
            wGet (pickA t106 (.val (.bool true)) t110) H fun t111 H =>
            wIf t111 (
              J2 (.val (.int .i64 2)) H) (
              J2 (.val (.int .i64 0)) H)) fun t17_1 H =>
            wJoin 2 (fun J3 =>
              wLoop 4 (fun I4 => I4 t17_1 (.val (.slice none 0 0)) (.val (.int .i64 0)) a1 H) fun I4 t17_2 t18_1 t19 t20 H =>
                wGet (lenA a3) H fun t115 H =>
                wGet (binA .lss t19 t115) H fun t116 H =>
                wGuard t116 true H (fun k => k t17_2 H) fun t118 H =>
                wGuard t116 true H (fun k => wGet (binA .eql t118 (.val (.int .i64 0))) H k) fun t119 H =>
                wGet (pickA t116 t119 (.val (.bool false))) H fun t120 H =>
                wIf t120 (
                  wGet (iaddr 1 a3 t19) H fun t125 H =>
                  wGet (load1 t125 H) H fun t126 H =>
                  wGet (binA .lss t126 (.val (.int .i64 0))) H fun t127 H =>
                  wGuard t127 false H (fun k => k a3 H) fun t129 H =>
                  wGuard t127 false H (fun k => k t19 H) fun t130 H =>
                  wGuard t127 false H (fun k => wGet (iaddr 1 t129 t130) H k) fun t131 H =>
                  wGuard t127 false H (fun k => wGet (load1 t131 H) H k) fun t132 H =>
                  wGuard t127 false H (fun k => wGet (faddr 0 t4) H k) fun t133 H =>
                  wGuard t127 false H (fun k => wGet (load1 t133 H) H k) fun t134 H =>
                  wGuard t127 false H (fun k => wGet (iaddr 1 t134 (.val (.int .i64 0))) H k) fun t135 H =>
                  wGuard t127 false H (fun k => wGet (load1 t135 H) H k) fun t136 H =>
                  wGuard t127 false H (fun k => wGet (lenA t136) H k) fun t137 H =>
                  wGuard t127 false H (fun k => wGet (binA .geq t132 t137) H k) fun t138 H =>
                  wGet (pickA t127 (.val (.bool true)) t138) H fun t139 H =>
                  wIf t139 (
                    J3 (.val (.int .i64 2)) (.val (.slice none 0 0)) H) (
                    wGet (faddr 1 t4) H fun t141 H =>
                    wGet (load1 t141 H) H fun t142 H =>
                    wGet (iaddr 1 t142 t20) H fun t144 H =>
                    wGet (load1 t144 H) H fun t145 H =>
                    wGet (iaddr 1 a3 t19) H fun t148 H =>
                    wGet (load1 t148 H) H fun t149 H =>
                    wGet (iaddr 1 t145 t149) H fun t150 H =>
                    wGet (load1 t150 H) H fun t151 H =>
                    wNewS 1 1 (fillA (List.replicate 1 [(.val (.int .i64 0))]).flatten [(0, 1, t151)]) H fun t152 H =>
                    wApp 1 8 t18_1 t152 H fun t153 H =>
                    wGet (faddr 0 t4) H fun t154 H =>
                    wGet (load1 t154 H) H fun t155 H =>
                    wGet (iaddr 1 t155 t20) H fun t157 H =>
                    wGet (load1 t157 H) H fun t158 H =>
                    wGet (iaddr 1 a3 t19) H fun t161 H =>
                    wGet (load1 t161 H) H fun t162 H =>
                    wGet (iaddr 1 t158 t162) H fun t163 H =>
                    wGet (load1 t163 H) H fun t164 H =>
                    wGet (binA .add t19 (.val (.int .i64 1))) H fun t122 H =>
                    I4 t17_2 t153 t122 t164 H)) (
                  J3 t17_2 t18_1 H)) fun t17_3 t18_2 H =>
              wCall E P 89 [t47, t17_3] H fun t167 H =>
              wGuard t167 true H (fun k => k t46 H) fun t169 H =>
              wGuard t167 true H (fun k => k t18_2 H) fun t170 H =>
              wGuard t167 true H (fun k => wCall E P 80 [t169, t170] H k) fun t171 H =>
              wGet (pickA t167 t171 (.val (.bool false))) H fun t172 H =>
              R t172 H)))

/-- (signalbox/signalboxref.Table).Part -/
def ref_Table_Part (E : Env) (P : Program) (a0 a1 a2 : AV) (H : AH) (R : Kt) : Prop :=
  wNew 2 (AV.cells? a0) H fun t3 H =>
  wGet (loadN 2 t3 H) H fun t14 H =>
  wCall E P 85 [t14] H fun t15 H =>
  wGet (iaddr 1 t15 a1) H fun t18 H =>
  wGet (load1 t18 H) H fun t19 H =>
  wGet (iaddr 1 t19 a2) H fun t21 H =>
  wGet (load1 t21 H) H fun t22 H =>
  wGet (binA .eql t22 (.val (.int .i64 0))) H fun t23 H =>
  wIf t23 (
    R (.tup [(.val (.slice none 0 0)), (.val (.bool false))]) H) (
    wGet (iaddr 1 t15 a1) H fun t26 H =>
    wGet (load1 t26 H) H fun t27 H =>
    wGet (iaddr 1 t27 a2) H fun t29 H =>
    wGet (load1 t29 H) H fun t30 H =>
    wLoop 4 (fun I1 => I1 a1 a2 (.val (.slice none 0 0)) t30 H) fun I1 t1 t2 t9 t10 H =>
      wGet (binA .gtr t10 (.val (.int .i64 0))) H fun t32 H =>
      wIf t32 (
        wJoin 3 (fun J2 =>
          wGet (faddr 0 t3) H fun t35 H =>
          wGet (load1 t35 H) H fun t36 H =>
          wGet (iaddr 1 t36 t1) H fun t38 H =>
          wGet (load1 t38 H) H fun t39 H =>
          wGet (lenA t39) H fun t40 H =>
          wLoop 4 (fun I3 => I3 t1 t2 t9 (.val (.int .i64 0)) H) fun I3 t1_1 t2_1 t9_1 t41 H =>
            wGet (binA .lss t41 t40) H fun t42 H =>
            wIf t42 (
              wGet (faddr 0 t3) H fun t44 H =>
              wGet (load1 t44 H) H fun t45 H =>
              wGet (iaddr 1 t45 t1_1) H fun t47 H =>
              wGet (load1 t47 H) H fun t48 H =>
              wGet (iaddr 1 t48 t41) H fun t50 H =>
              wGet (load1 t50 H) H fun t51 H =>
              wGet (faddr 0 t3) H fun t52 H =>
              wGet (load1 t52 H) H fun t53 H =>
              wGet (iaddr 1 t53 t2_1) H fun t55 H =>
              wGet (load1 t55 H) H fun t56 H =>
              wGet (iaddr 1 t56 t41) H fun t58 H =>
              wGet (load1 t58 H) H fun t59 H =>
              (wGet (load1 t52 H) H (fun y H2 => y = t53 ∧ H2 = H)) ∧
              (wGet (load1 t55 H) H (fun y H2 => y = t56 ∧ H2 = H)) ∧
              (wGet (load1 t58 H) H (fun y H2 => y = t59 ∧ H2 = H)) ∧
              wGet (binA .eql t10 (.val (.int .i64 1))) H fun t61 H =>
              wGuard t61 true H (fun k => wGet (faddr 1 t3) H k) fun t63 H =>
              wGuard t61 true H (fun k => wGet (load1 t63 H) H k) fun t64 H =>
              wGuard t61 true H (fun k => k t1_1 H) fun t65 H =>
              wGuard t61 true H (fun k => wGet (iaddr 1 t64 t65) H k) fun t66 H =>
              wGuard t61 true H (fun k => wGet (load1 t66 H) H k) fun t67 H =>
              wGuard t61 true H (fun k => k t41 H) fun t68 H =>
              wGuard t61 true H (fun k => wGet (iaddr 1 t67 t68) H k) fun t69 H =>
              wGuard t61 true H (fun k => wGet (load1 t69 H) H k) fun t70 H =>
              wGuard t61 true H (fun k => wGet (faddr 1 t3) H k) fun t71 H =>
              wGuard t61 true H (fun k => wGet (load1 t71 H) H k) fun t72 H =>
              wGuard t61 true H (fun k => k t2_1 H) fun t73 H =>
              wGuard t61 true H (fun k => wGet (iaddr 1 t72 t73) H k) fun t74 H =>
              wGuard t61 true H (fun k => wGet (load1 t74 H) H k) fun t75 H =>
              wGuard t61 true H (fun k => k t41 H) fun t76 H =>
              wGuard t61 true H (fun k => wGet (iaddr 1 t75 t76) H k) fun t77 H =>
              wGuard t61 true H (fun k => wGet (load1 t77 H) H k) fun t78 H =>
              wGuard t61 true H (fun k => wGet (binA .neq t70 t78) H k) fun t79 H =>
              wGet (pickA t61 t79 (.val (.bool false))) H fun t80 H =>
              wGuard t80 false H (fun k => k t10 H) fun t82 H =>
              wGuard t80 false H (fun k => wGet (binA .gtr t82 (.val (.int .i64 1))) H k) fun t83 H =>
              wGuard t80 false H (fun k => k t83 H) fun t84 H =>
              wGuard t84 true H (fun k => k t15 H) fun t85 H =>
              wGuard t84 true H (fun k => k t51 H) fun t86 H =>
              wGuard t84 true H (fun k => wGet (iaddr 1 t85 t86) H k) fun t87 H =>
              wGuard t84 true H (fun k => wGet (load1 t87 H) H k) fun t88 H =>
              wGuard t84 true H (fun k => k t59 H) fun t89 H =>
              wGuard t84 true H (fun k => wGet (iaddr 1 t88 t89) H k) fun t90 H =>
              wGuard t84 true H (fun k => wGet (load1 t90 H) H k) fun t91 H =>
              wGuard t84 true H (fun k => k t10 H) fun t92 H =>
              wGuard t84 true H (fun k => wGet (binA .sub t92 (.val (.int .i64 1))) H k) fun t93 H =>
              wGuard t84 true H (fun k => wGet (binA .eql t91 t93) H k) fun t94 H =>
              wGuard t80 false H (fun k => wGet (pickA t84 t94 (.val (.bool false))) H k) fun t95 H =>
              wGet (pickA t80 (.val (.bool true)) t95) H fun t96 H =>
              wIf t96 (
                wNewS 1 1 (fillA (List.replicate 1 [(.val (.int .i64 0))]).flatten [(0, 1, t41)]) H fun t99 H =>
                wApp 1 8 t9_1 t99 H fun t100 H =>
                J2 t51 t59 t100 H) (
                wGet (binA .add t41 (.val (.int .i64 1))) H fun t103 H =>
                I3 t1_1 t2_1 t9_1 t103 H)) (
              J2 t1_1 t2_1 t9_1 H)) fun t1_2 t2_2 t9_2 H =>
          wGet (binA .sub t10 (.val (.int .i64 1))) H fun t34 H =>
          I1 t1_2 t2_2 t9_2 t34 H) (
        R (.tup [t9, (.val (.bool true))]) H))

/-- signalbox/signalboxlaw.bare -/
def law_bare (E : Env) (P : Program) (a0 a1 : AV) (H : AH) (R : Kt) : Prop :=
  wCall E P 87 [a1] H fun t7 H =>
  wCall E P 77 [a0, t7] H fun t8 H =>
  R t8 H

end Go.Sc.F
