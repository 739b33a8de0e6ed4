/- of the seat YtfeebmmadiphoaaDoor, printed by a program of ours -/
import Derived.Test.YtfeebmmadiphoaaDoorScC
namespace Go.Sc.F
open Go Go.Sc
set_option linter.unusedVariables false

/-- signalbox/signalboxkeep.LassoGrows -/
def keep_LassoGrows (E : Env) (P : Program) (a0 a1 a2 : AV) (H : AH) (R : Kt) : Prop :=
  wNew 2 (AV.cells? a0) H fun t3 H =>
  wGet (lenA a1) H fun t17 H =>
  wGet (binA .gtr t17 (.val (.int .i64 8))) H fun t18 H =>
  wGuard t18 false H (fun k => k a2 H) fun t20 H =>
  wGuard t18 false H (fun k => wGet (lenA t20) H k) fun t21 H =>
  wGuard t18 false H (fun k => wGet (binA .gtr t21 (.val (.int .i64 8))) H k) fun t22 H =>
  wGet (pickA t18 (.val (.bool true)) t22) H fun t23 H =>
  wGuard t23 false H (fun k => wGet (faddr 0 t3) H k) fun t25 H =>
  wGuard t23 false H (fun k => wGet (load1 t25 H) H k) fun t26 H =>
  wGuard t23 false H (fun k => wGet (lenA t26) H k) fun t27 H =>
  wGuard t23 false H (fun k => wGet (faddr 1 t3) H k) fun t28 H =>
  wGuard t23 false H (fun k => wGet (load1 t28 H) H k) fun t29 H =>
  wGuard t23 false H (fun k => wGet (lenA t29) H k) fun t30 H =>
  wGuard t23 false H (fun k => wGet (binA .add t27 t30) H k) fun t31 H =>
  wGuard t23 false H (fun k => wGet (binA .gtr t31 (.val (.int .i64 30))) H k) fun t32 H =>
  wGet (pickA t23 (.val (.bool true)) t32) H fun t33 H =>
  wIf t33 (
    R (.val (.bool true)) H) (
    wCall E P 26 [a1] H fun t35 H =>
    wCall E P 26 [a2] H fun t37 H =>
    wNewS 1 2 (fillA (List.replicate 2 [(.val (.pointer none))]).flatten [(0, 1, t35), (1, 1, t37)]) H fun t42 H =>
    wCallV E P (.fn 42 [] []) [(.val (.int .i64 7)), t42] H fun t43 H =>
    wNewS 1 2 (fillA (List.replicate 2 [(.val (.pointer none))]).flatten [(0, 1, t35), (1, 1, t37)]) H fun t47 H =>
    wCallV E P (.fn 42 [] []) [(.val (.int .i64 8)), t47] H fun t48 H =>
    wNewS 1 1 (fillA (List.replicate 1 [(.val (.pointer none))]).flatten [(0, 1, t35)]) H fun t51 H =>
    wCallV E P (.fn 42 [] []) [(.val (.int .i64 9)), t51] H fun t52 H =>
    wNewS 1 1 (fillA (List.replicate 1 [(.val (.pointer none))]).flatten [(0, 1, t35)]) H fun t55 H =>
    wCallV E P (.fn 42 [] []) [(.val (.int .i64 10)), t55] H fun t56 H =>
    wCall E P 28 [] H fun t57 H =>
    wGet (unA .not t57) H fun t58 H =>
    wIf t58 (
      R (.val (.bool false)) H) (
      wNewS 1 1 (fillA (List.replicate 1 [(.val (.pointer none))]).flatten [(0, 1, t43)]) H fun t65 H =>
      wCallV E P (.fn 42 [] []) [(.val (.int .i64 6)), t65] H fun t66 H =>
      wNewS 1 2 (fillA (List.replicate 2 [(.val (.pointer none))]).flatten [(0, 1, t35), (1, 1, t66)]) H fun t67 H =>
      wCallV E P (.fn 42 [] []) [(.val (.int .i64 4)), t67] H fun t68 H =>
      wNewS 1 2 (fillA (List.replicate 2 [(.val (.pointer none))]).flatten [(0, 1, t37), (1, 1, t68)]) H fun t69 H =>
      wCallV E P (.fn 42 [] []) [(.val (.int .i64 5)), t69] H fun t70 H =>
      wCall E P 32 [t70] H fun t72 H =>
      wBool (eqA .iface t72 (.val (.nilIface))) H true fun t73 H =>
      wGuard t73 false H (fun k => wGet (loadN 2 t3 H) H k) fun t75 H =>
      wGuard t73 false H (fun k => wCall E P 31 [t75] H k) fun t76 H =>
      wGuard t73 false H (fun k => wBool (eqA .iface t76 (.val (.nilIface))) H true k) fun t77 H =>
      wGet (pickA t73 (.val (.bool true)) t77) H fun t78 H =>
      wIf t78 (
        R (.val (.bool true)) H) (
        wCallV E P (.fn 43 [] [t3]) [t43, t70] H fun t82 H =>
        wGuard t82 true H (fun k => k (.fn 43 [] [t3]) H) fun t84 H =>
        wGuard t82 true H (fun k => k t48 H) fun t85 H =>
        wGuard t82 true H (fun k => k (.fn 42 [] []) H) fun t86 H =>
        wGuard t82 true H (fun k => k t37 H) fun t87 H =>
        wGuard t82 true H (fun k => k (.fn 42 [] []) H) fun t88 H =>
        wGuard t82 true H (fun k => k t35 H) fun t89 H =>
        wGuard t82 true H (fun k => k (.fn 42 [] []) H) fun t90 H =>
        wGuard t82 true H (fun k => k t48 H) fun t91 H =>
        wGuard t82 true H (fun k => wNewS 1 1 (fillA (List.replicate 1 [(.val (.pointer none))]).flatten [(0, 1, t91)]) H k) fun t92 H =>
        wGuard t82 true H (fun k => wCallV E P t90 [(.val (.int .i64 6)), t92] H k) fun t93 H =>
        wGuard t82 true H (fun k => wNewS 1 2 (fillA (List.replicate 2 [(.val (.pointer none))]).flatten [(0, 1, t89), (1, 1, t93)]) H k) fun t94 H =>
        wGuard t82 true H (fun k => wCallV E P t88 [(.val (.int .i64 5)), t94] H k) fun t95 H =>
        wGuard t82 true H (fun k => wNewS 1 2 (fillA (List.replicate 2 [(.val (.pointer none))]).flatten [(0, 1, t87), (1, 1, t95)]) H k) fun t96 H =>
        wGuard t82 true H (fun k => wCallV E P t86 [(.val (.int .i64 4)), t96] H k) fun t97 H =>
        wGuard t82 true H (fun k => wCallV E P t84 [t85, t97] H k) fun t98 H =>
        wGet (pickA t82 t98 (.val (.bool false))) H fun t99 H =>
        wGuard t99 true H (fun k => k (.fn 43 [] [t3]) H) fun t101 H =>
        wGuard t99 true H (fun k => k t52 H) fun t102 H =>
        wGuard t99 true H (fun k => k (.fn 42 [] []) H) fun t103 H =>
        wGuard t99 true H (fun k => k t35 H) fun t104 H =>
        wGuard t99 true H (fun k => k (.fn 42 [] []) H) fun t105 H =>
        wGuard t99 true H (fun k => k t52 H) fun t106 H =>
        wGuard t99 true H (fun k => wNewS 1 1 (fillA (List.replicate 1 [(.val (.pointer none))]).flatten [(0, 1, t106)]) H k) fun t107 H =>
        wGuard t99 true H (fun k => wCallV E P t105 [(.val (.int .i64 6)), t107] H k) fun t108 H =>
        wGuard t99 true H (fun k => wNewS 1 2 (fillA (List.replicate 2 [(.val (.pointer none))]).flatten [(0, 1, t104), (1, 1, t108)]) H k) fun t109 H =>
        wGuard t99 true H (fun k => wCallV E P t103 [(.val (.int .i64 5)), t109] H k) fun t110 H =>
        wGuard t99 true H (fun k => wCallV E P t101 [t102, t110] H k) fun t111 H =>
        wGet (pickA t99 t111 (.val (.bool false))) H fun t112 H =>
        wGuard t112 true H (fun k => k (.fn 43 [] [t3]) H) fun t114 H =>
        wGuard t112 true H (fun k => k t56 H) fun t115 H =>
        wGuard t112 true H (fun k => k (.fn 42 [] []) H) fun t116 H =>
        wGuard t112 true H (fun k => k t35 H) fun t117 H =>
        wGuard t112 true H (fun k => k (.fn 42 [] []) H) fun t118 H =>
        wGuard t112 true H (fun k => k t56 H) fun t119 H =>
        wGuard t112 true H (fun k => wNewS 1 1 (fillA (List.replicate 1 [(.val (.pointer none))]).flatten [(0, 1, t119)]) H k) fun t120 H =>
        wGuard t112 true H (fun k => wCallV E P t118 [(.val (.int .i64 6)), t120] H k) fun t121 H =>
        wGuard t112 true H (fun k => wNewS 1 2 (fillA (List.replicate 2 [(.val (.pointer none))]).flatten [(0, 1, t117), (1, 1, t121)]) H k) fun t122 H =>
        wGuard t112 true H (fun k => wCallV E P t116 [(.val (.int .i64 4)), t122] H k) fun t123 H =>
        wGuard t112 true H (fun k => wCallV E P t114 [t115, t123] H k) fun t124 H =>
        wGet (pickA t112 t124 (.val (.bool false))) H fun t125 H =>
        wGuard t125 true H (fun k => k (.fn 43 [] [t3]) H) fun t127 H =>
        wGuard t125 true H (fun k => k t56 H) fun t128 H =>
        wGuard t125 true H (fun k => k (.fn 42 [] []) H) fun t129 H =>
        wGuard t125 true H (fun k => k (.fn 42 [] []) H) fun t130 H =>
        wGuard t125 true H (fun k => k (.fn 42 [] []) H) fun t131 H =>
        wGuard t125 true H (fun k => k t35 H) fun t132 H =>
        wGuard t125 true H (fun k => wNewS 1 1 (fillA (List.replicate 1 [(.val (.pointer none))]).flatten [(0, 1, t132)]) H k) fun t133 H =>
        wGuard t125 true H (fun k => wCallV E P t131 [(.val (.int .i64 3)), t133] H k) fun t134 H =>
        wGuard t125 true H (fun k => wNewS 1 1 (fillA (List.replicate 1 [(.val (.pointer none))]).flatten [(0, 1, t134)]) H k) fun t135 H =>
        wGuard t125 true H (fun k => wCallV E P t130 [(.val (.int .i64 9)), t135] H k) fun t136 H =>
        wGuard t125 true H (fun k => wNewS 1 1 (fillA (List.replicate 1 [(.val (.pointer none))]).flatten [(0, 1, t136)]) H k) fun t137 H =>
        wGuard t125 true H (fun k => wCallV E P t129 [(.val (.int .i64 3)), t137] H k) fun t138 H =>
        wGuard t125 true H (fun k => wCallV E P t127 [t128, t138] H k) fun t139 H =>
        wGet (pickA t125 t139 (.val (.bool false))) H fun t140 H =>
        R t140 H)))

/-- signalbox/signalboxkeep.LassoGrows$1 -/
def keep_LassoGrows_c1 (E : Env) (P : Program) (a0 a1 : AV) (H : AH) (R : Kt) : Prop :=
  wAgg (fillA [(.val (.int .i64 0)), (.val (.string ⟨#[]⟩)), (.val (.slice none 0 0))] [(0, 1, a0), (2, 1, a1)]) H fun t7 H =>
  wNew 3 (AV.cells? t7) H fun t8 H =>
  R t8 H

/-- signalbox/signalboxkeep.LassoGrows$2 -/
def keep_LassoGrows_c2 (E : Env) (P : Program) (a0 a1 a2 : AV) (H : AH) (R : Kt) : Prop :=
  wGet (loadN 2 a2 H) H fun t11 H =>
  wCall E P 27 [t11, a0] H fun t13 H =>
  wGet (extractA t13 0) H fun t14 H =>
  wGet (extractA t13 1) H fun t15 H =>
  wGet (loadN 2 a2 H) H fun t17 H =>
  wCall E P 27 [t17, a1] H fun t19 H =>
  wGet (extractA t19 0) H fun t20 H =>
  wGet (extractA t19 1) H fun t21 H =>
  wBool (eqA .iface t15 (.val (.nilIface))) H false fun t23 H =>
  wBool (eqA .iface t21 (.val (.nilIface))) H false fun t25 H =>
  wBool (eqA .bool t23 t25) H false fun t26 H =>
  wGuard t26 true H (fun k => k t14 H) fun t28 H =>
  wGuard t26 true H (fun k => k t20 H) fun t29 H =>
  wGuard t26 true H (fun k => wCall E P 34 [t28, t29] H k) fun t30 H =>
  wGet (pickA t26 t30 (.val (.bool false))) H fun t31 H =>
  R t31 H

end Go.Sc.F
