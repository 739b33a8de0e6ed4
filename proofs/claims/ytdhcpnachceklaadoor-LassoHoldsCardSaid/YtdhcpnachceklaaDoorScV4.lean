/- of the seat YtdhcpnachceklaaDoor, printed by a program of ours -/
import Derived.Test.YtdhcpnachceklaaDoorScC
namespace Go.Sc.F
open Go Go.Sc
set_option linter.unusedVariables false

/-- signalbox/signalboxkeep.BlockMoore -/
def keep_BlockMoore (E : Env) (P : Program) (a0 a1 a2 a3 : AV) (H : AH) (R : Kt) : Prop :=
  wNew 2 (AV.cells? a0) H fun t4 H =>
  wGet (loadN 2 t4 H) H fun t26 H =>
  wCall E P 45 [t26, (.val (.int .i64 60))] H fun t27 H =>
  wGet (unA .not t27) H fun t28 H =>
  wGuard t28 false H (fun k => k a3 H) fun t30 H =>
  wGuard t28 false H (fun k => wGet (lenA t30) H k) fun t31 H =>
  wGuard t28 false H (fun k => wGet (binA .gtr t31 (.val (.int .i64 40))) H k) fun t32 H =>
  wGet (pickA t28 (.val (.bool true)) t32) H fun t33 H =>
  wIf t33 (
    R (.val (.bool true)) H) (
    wGet (loadN 2 t4 H) H fun t35 H =>
    wCall E P 46 [t35] H fun t36 H =>
    wGet (extractA t36 0) H fun t37 H =>
    wGet (extractA t36 1) H fun t38 H =>
    wCall E P 47 [] H fun t39 H =>
    wGet (unA .not t39) H fun t40 H =>
    wGuard t40 false H (fun k => k t38 H) fun t42 H =>
    wGuard t40 false H (fun k => wBool (eqA .iface t42 (.val (.nilIface))) H true k) fun t43 H =>
    wGet (pickA t40 (.val (.bool true)) t43) H fun t44 H =>
    wIf t44 (
      wCall E P 47 [] H fun t45 H =>
      wGuard t45 true H (fun k => k t37 H) fun t47 H =>
      wGuard t45 true H (fun k => wGet (lenA t47) H k) fun t48 H =>
      wGuard t45 true H (fun k => wGet (binA .eql t48 (.val (.int .i64 0))) H k) fun t49 H =>
      wGet (pickA t45 t49 (.val (.bool false))) H fun t50 H =>
      R t50 H) (
      wGet (faddr 0 t4) H fun t51 H =>
      wGet (load1 t51 H) H fun t52 H =>
      wGet (lenA t52) H fun t53 H =>
      wGet (faddr 0 t4) H fun t54 H =>
      wGet (load1 t54 H) H fun t55 H =>
      wGet (iaddr 1 t55 (.val (.int .i64 0))) H fun t56 H =>
      wGet (load1 t56 H) H fun t57 H =>
      wGet (lenA t57) H fun t58 H =>
      (wGet (load1 t54 H) H (fun y H2 => y = t55 ∧ H2 = H)) ∧
      (wGet (load1 t56 H) H (fun y H2 => y = t57 ∧ H2 = H)) ∧
      wCall E P 48 [a1, t53] H fun t61 H =>
      wCall E P 48 [a2, t53] H fun t64 H =>
      wGet (loadN 2 t4 H) H fun t66 H =>
      wCall E P 49 [t66] H fun t67 H =>
      wGet (extractA t67 0) H fun t68 H =>
      wGet (extractA t67 1) H fun t69 H =>
      wNew 2 (some [(.val (.slice none 0 0)), (.val (.slice none 0 0))]) H fun t13 H =>
      wPut (storeN 2 t13 t68 H) fun _u H =>
      wBool (eqA .iface t69 (.val (.nilIface))) H true fun t71 H =>
      wGuard t71 false H (fun k => k t37 H) fun t73 H =>
      wGuard t71 false H (fun k => wGet (lenA t73) H k) fun t74 H =>
      wGuard t71 false H (fun k => k t53 H) fun t75 H =>
      wGuard t71 false H (fun k => wGet (binA .neq t74 t75) H k) fun t76 H =>
      wGet (pickA t71 (.val (.bool true)) t76) H fun t77 H =>
      wIf t77 (
        R (.val (.bool false)) H) (
        wLoop 2 (fun I1 => I1 (.val (.slice none 0 0)) (.val (.int .i64 0)) H) fun I1 t14 t15 H =>
          wGet (lenA a3) H fun t80 H =>
          wGet (binA .lss t15 t80) H fun t81 H =>
          wGuard t81 true H (fun k => k t58 H) fun t83 H =>
          wGuard t81 true H (fun k => wGet (binA .gtr t83 (.val (.int .i64 0))) H k) fun t84 H =>
          wGet (pickA t81 t84 (.val (.bool false))) H fun t85 H =>
          wIf t85 (
            wGet (iaddr 1 a3 t15) H fun t91 H =>
            wGet (load1 t91 H) H fun t92 H =>
            wCall E P 48 [t92, t58] H fun t94 H =>
            wNewS 1 1 (fillA (List.replicate 1 [(.val (.int .i64 0))]).flatten [(0, 1, t94)]) H fun t95 H =>
            wApp 1 8 t14 t95 H fun t96 H =>
            wGet (binA .add t15 (.val (.int .i64 1))) H fun t87 H =>
            I1 t96 t87 H) (
            wGet (loadN 2 t4 H) H fun t98 H =>
            wCall E P 50 [t98, t61, t14] H fun t101 H =>
            wGet (extractA t101 0) H fun t102 H =>
            wGet (extractA t101 1) H fun t103 H =>
            wGet (loadN 2 t4 H) H fun t105 H =>
            wCall E P 50 [t105, t64, t14] H fun t108 H =>
            wGet (extractA t108 0) H fun t109 H =>
            wGet (extractA t108 1) H fun t110 H =>
            wGet (loadN 2 t13 H) H fun t112 H =>
            wGet (iaddr 1 t37 t61) H fun t115 H =>
            wGet (load1 t115 H) H fun t116 H =>
            wCall E P 50 [t112, t116, t14] H fun t118 H =>
            wGet (extractA t118 0) H fun t119 H =>
            wGet (extractA t118 1) H fun t120 H =>
            wBool (eqA .iface t103 (.val (.nilIface))) H true fun t122 H =>
            wGuard t122 false H (fun k => k t110 H) fun t124 H =>
            wGuard t122 false H (fun k => wBool (eqA .iface t124 (.val (.nilIface))) H true k) fun t125 H =>
            wGet (pickA t122 (.val (.bool true)) t125) H fun t126 H =>
            wGuard t126 false H (fun k => k t120 H) fun t128 H =>
            wGuard t126 false H (fun k => wBool (eqA .iface t128 (.val (.nilIface))) H true k) fun t129 H =>
            wGet (pickA t126 (.val (.bool true)) t129) H fun t130 H =>
            wGuard t130 false H (fun k => k t102 H) fun t132 H =>
            wGuard t130 false H (fun k => k t119 H) fun t133 H =>
            wGuard t130 false H (fun k => wCall E P 51 [t132, t133] H k) fun t134 H =>
            wGuard t130 false H (fun k => wGet (unA .not t134) H k) fun t135 H =>
            wGet (pickA t130 (.val (.bool true)) t135) H fun t136 H =>
            wIf t136 (
              R (.val (.bool false)) H) (
              wGet (loadN 2 t4 H) H fun t138 H =>
              wCall E P 52 [t138, t61, t64] H fun t141 H =>
              wGet (extractA t141 0) H fun t142 H =>
              wGet (extractA t141 1) H fun t143 H =>
              wGet (iaddr 1 t37 t61) H fun t146 H =>
              wGet (load1 t146 H) H fun t147 H =>
              wGet (iaddr 1 t37 t64) H fun t150 H =>
              wGet (load1 t150 H) H fun t151 H =>
              wGet (binA .eql t147 t151) H fun t152 H =>
              wIf t152 (
                wCall E P 51 [t102, t109] H fun t155 H =>
                wGuard t155 true H (fun k => k t143 H) fun t157 H =>
                wGuard t155 true H (fun k => wCall E P 53 [t157] H k) fun t158 H =>
                wGuard t155 true H (fun k => wGet (binA .eql t158 (.val (.int .i64 8))) H k) fun t159 H =>
                wGet (pickA t155 t159 (.val (.bool false))) H fun t160 H =>
                R t160 H) (
                wGet (loadN 2 t4 H) H fun t162 H =>
                wCall E P 50 [t162, t61, t142] H fun t165 H =>
                wGet (extractA t165 0) H fun t166 H =>
                wGet (extractA t165 1) H fun t167 H =>
                wGet (loadN 2 t4 H) H fun t169 H =>
                wCall E P 50 [t169, t64, t142] H fun t172 H =>
                wGet (extractA t172 0) H fun t173 H =>
                wGet (extractA t172 1) H fun t174 H =>
                wBool (eqA .iface t143 (.val (.nilIface))) H true fun t176 H =>
                wGuard t176 false H (fun k => k t167 H) fun t178 H =>
                wGuard t176 false H (fun k => wBool (eqA .iface t178 (.val (.nilIface))) H true k) fun t179 H =>
                wGet (pickA t176 (.val (.bool true)) t179) H fun t180 H =>
                wGuard t180 false H (fun k => k t174 H) fun t182 H =>
                wGuard t180 false H (fun k => wBool (eqA .iface t182 (.val (.nilIface))) H true k) fun t183 H =>
                wGet (pickA t180 (.val (.bool true)) t183) H fun t184 H =>
                wGuard t184 false H (fun k => k t166 H) fun t186 H =>
                wGuard t184 false H (fun k => wGet (lenA t186) H k) fun t187 H =>
                wGuard t184 false H (fun k => k t142 H) fun t188 H =>
                wGuard t184 false H (fun k => wGet (lenA t188) H k) fun t189 H =>
                wGuard t184 false H (fun k => wGet (binA .neq t187 t189) H k) fun t190 H =>
                wGet (pickA t184 (.val (.bool true)) t190) H fun t191 H =>
                wGuard t191 false H (fun k => k t173 H) fun t193 H =>
                wGuard t191 false H (fun k => wGet (lenA t193) H k) fun t194 H =>
                wGuard t191 false H (fun k => k t142 H) fun t195 H =>
                wGuard t191 false H (fun k => wGet (lenA t195) H k) fun t196 H =>
                wGuard t191 false H (fun k => wGet (binA .neq t194 t196) H k) fun t197 H =>
                wGet (pickA t191 (.val (.bool true)) t197) H fun t198 H =>
                wGuard t198 false H (fun k => k t142 H) fun t200 H =>
                wGuard t198 false H (fun k => wGet (lenA t200) H k) fun t201 H =>
                wGuard t198 false H (fun k => wGet (binA .eql t201 (.val (.int .i64 0))) H k) fun t202 H =>
                wGet (pickA t198 (.val (.bool true)) t202) H fun t203 H =>
                wIf t203 (
                  R (.val (.bool false)) H) (
                  wGet (lenA t142) H fun t205 H =>
                  wGet (binA .sub t205 (.val (.int .i64 1))) H fun t206 H =>
                  wGet (iaddr 1 t166 t206) H fun t209 H =>
                  wGet (load1 t209 H) H fun t210 H =>
                  wGet (iaddr 1 t173 t206) H fun t213 H =>
                  wGet (load1 t213 H) H fun t214 H =>
                  wGet (binA .neq t210 t214) H fun t215 H =>
                  wGuard t215 true H (fun k => k t166 H) fun t217 H =>
                  wGuard t215 true H (fun k => k t206 H) fun t218 H =>
                  wGuard t215 true H (fun k => wGet (sliceA 1 t217 none (some t218) H) H k) fun t219 H =>
                  wGuard t215 true H (fun k => k t173 H) fun t220 H =>
                  wGuard t215 true H (fun k => k t206 H) fun t221 H =>
                  wGuard t215 true H (fun k => wGet (sliceA 1 t220 none (some t221) H) H k) fun t222 H =>
                  wGuard t215 true H (fun k => wCall E P 51 [t219, t222] H k) fun t223 H =>
                  wGet (pickA t215 t223 (.val (.bool false))) H fun t224 H =>
                  R t224 H)))))))

/-- signalbox/signalboxkeep.few -/
def keep_few (E : Env) (P : Program) (a0 a1 : AV) (H : AH) (R : Kt) : Prop :=
  wNew 2 (AV.cells? a0) H fun t2 H =>
  wGet (faddr 0 t2) H fun t5 H =>
  wGet (load1 t5 H) H fun t6 H =>
  wGet (lenA t6) H fun t7 H =>
  wGet (binA .leq t7 a1) H fun t9 H =>
  wGuard t9 true H (fun k => wGet (faddr 1 t2) H k) fun t11 H =>
  wGuard t9 true H (fun k => wGet (load1 t11 H) H k) fun t12 H =>
  wGuard t9 true H (fun k => wGet (lenA t12) H k) fun t13 H =>
  wGuard t9 true H (fun k => wGet (binA .leq t13 (.val (.int .i64 500))) H k) fun t14 H =>
  wGet (pickA t9 t14 (.val (.bool false))) H fun t15 H =>
  wGuard t15 true H (fun k => wGet (faddr 0 t2) H k) fun t17 H =>
  wGuard t15 true H (fun k => wGet (load1 t17 H) H k) fun t18 H =>
  wGuard t15 true H (fun k => wGet (lenA t18) H k) fun t19 H =>
  wGuard t15 true H (fun k => wGet (binA .eql t19 (.val (.int .i64 0))) H k) fun t20 H =>
  wGuard t15 true H (fun k => k t20 H) fun t21 H =>
  wGuard t21 false H (fun k => wGet (faddr 0 t2) H k) fun t22 H =>
  wGuard t21 false H (fun k => wGet (load1 t22 H) H k) fun t23 H =>
  wGuard t21 false H (fun k => wGet (iaddr 1 t23 (.val (.int .i64 0))) H k) fun t24 H =>
  wGuard t21 false H (fun k => wGet (load1 t24 H) H k) fun t25 H =>
  wGuard t21 false H (fun k => wGet (lenA t25) H k) fun t26 H =>
  wGuard t21 false H (fun k => wGet (binA .leq t26 (.val (.int .i64 16))) H k) fun t27 H =>
  wGuard t15 true H (fun k => wGet (pickA t21 (.val (.bool true)) t27) H k) fun t28 H =>
  wGet (pickA t15 t28 (.val (.bool false))) H fun t29 H =>
  R t29 H

/-- signalbox/block.Blocks -/
def block_Blocks (E : Env) (P : Program) (a0 : AV) (H : AH) (R : Kt) : Prop :=
  wNew 2 (AV.cells? a0) H fun t1 H =>
  wGet (loadN 2 t1 H) H fun t6 H =>
  wCall E P 55 [t6] H fun t7 H =>
  wBool (eqA .iface t7 (.val (.nilIface))) H true fun t9 H =>
  wIf t9 (
    R (.tup [(.val (.slice none 0 0)), t7]) H) (
    wGet (loadN 2 t1 H) H fun t11 H =>
    wCall E P 56 [t11] H fun t12 H =>
    wGet (lenA t12) H fun t15 H =>
    wGet (binA .sub t15 (.val (.int .i64 1))) H fun t16 H =>
    wGet (iaddr 1 t12 t16) H fun t17 H =>
    wGet (load1 t17 H) H fun t18 H =>
    R (.tup [t18, (.val (.nilIface))]) H)

/-- signalbox/signalboxkeep.blocked -/
def keep_blocked (E : Env) (P : Program) (H : AH) (R : Kt) : Prop :=
  wNewS 1 1 (fillA (List.replicate 1 [(.val (.int .i64 0))]).flatten [(0, 1, (.val (.int .i64 1)))]) H fun t6 H =>
  wNewS 1 1 (fillA (List.replicate 1 [(.val (.int .i64 0))]).flatten [(0, 1, (.val (.int .i64 0)))]) H fun t7 H =>
  wNewS 1 1 (fillA (List.replicate 1 [(.val (.int .i64 0))]).flatten [(0, 1, (.val (.int .i64 0)))]) H fun t8 H =>
  wNewS 1 3 (fillA (List.replicate 3 [(.val (.slice none 0 0))]).flatten [(0, 1, t6), (1, 1, t7), (2, 1, t8)]) H fun t9 H =>
  wNewS 1 1 (fillA (List.replicate 1 [(.val (.int .i64 0))]).flatten [(0, 1, (.val (.int .i64 5)))]) H fun t10 H =>
  wNewS 1 1 (fillA (List.replicate 1 [(.val (.int .i64 0))]).flatten [(0, 1, (.val (.int .i64 5)))]) H fun t11 H =>
  wNewS 1 1 (fillA (List.replicate 1 [(.val (.int .i64 0))]).flatten [(0, 1, (.val (.int .i64 6)))]) H fun t12 H =>
  wNewS 1 3 (fillA (List.replicate 3 [(.val (.slice none 0 0))]).flatten [(0, 1, t10), (1, 1, t11), (2, 1, t12)]) H fun t13 H =>
  wAgg (fillA [(.val (.slice none 0 0)), (.val (.slice none 0 0))] [(0, 1, t9), (1, 1, t13)]) H fun t14 H =>
  wNew 2 (some [(.val (.slice none 0 0)), (.val (.slice none 0 0))]) H fun t1 H =>
  wPut (storeN 2 t1 t14 H) fun _u H =>
  wGet (loadN 2 t1 H) H fun t16 H =>
  wCall E P 46 [t16] H fun t17 H =>
  wGet (extractA t17 0) H fun t18 H =>
  wGet (extractA t17 1) H fun t19 H =>
  wGet (loadN 2 t1 H) H fun t21 H =>
  wCall E P 52 [t21, (.val (.int .i64 0)), (.val (.int .i64 2))] H fun t22 H =>
  wGet (extractA t22 0) H fun t23 H =>
  wGet (extractA t22 1) H fun t24 H =>
  wBool (eqA .iface t19 (.val (.nilIface))) H false fun t26 H =>
  wGuard t26 true H (fun k => k t24 H) fun t28 H =>
  wGuard t26 true H (fun k => wBool (eqA .iface t28 (.val (.nilIface))) H false k) fun t29 H =>
  wGet (pickA t26 t29 (.val (.bool false))) H fun t30 H =>
  wGuard t30 true H (fun k => k t18 H) fun t32 H =>
  wGuard t30 true H (fun k => wNewS 1 3 (fillA (List.replicate 3 [(.val (.int .i64 0))]).flatten [(0, 1, (.val (.int .i64 0))), (1, 1, (.val (.int .i64 0))), (2, 1, (.val (.int .i64 1)))]) H k) fun t33 H =>
  wGuard t30 true H (fun k => wCall E P 51 [t32, t33] H k) fun t34 H =>
  wGet (pickA t30 t34 (.val (.bool false))) H fun t35 H =>
  wGuard t35 true H (fun k => k t23 H) fun t37 H =>
  wGuard t35 true H (fun k => wNewS 1 1 (fillA (List.replicate 1 [(.val (.int .i64 0))]).flatten [(0, 1, (.val (.int .i64 0)))]) H k) fun t38 H =>
  wGuard t35 true H (fun k => wCall E P 51 [t37, t38] H k) fun t39 H =>
  wGet (pickA t35 t39 (.val (.bool false))) H fun t40 H =>
  R t40 H

/-- signalbox/signalboxkeep.pick -/
def keep_pick (E : Env) (P : Program) (a0 a1 : AV) (H : AH) (R : Kt) : Prop :=
  wGet (convA (.int .u64) a0) H fun t6 H =>
  wGet (convA (.int .u64) a1) H fun t8 H =>
  wGet (binA .rem t6 t8) H fun t9 H =>
  wGet (convA (.int .i64) t9) H fun t10 H =>
  R t10 H

/-- signalbox/block.Least -/
def block_Least (E : Env) (P : Program) (a0 : AV) (H : AH) (R : Kt) : Prop :=
  wNew 2 (AV.cells? a0) H fun t1 H =>
  wNew 2 (some [(.val (.slice none 0 0)), (.val (.slice none 0 0))]) H fun t2 H =>
  wGet (loadN 2 t1 H) H fun t13 H =>
  wCall E P 46 [t13] H fun t14 H =>
  wGet (extractA t14 0) H fun t15 H =>
  wGet (extractA t14 1) H fun t16 H =>
  wBool (eqA .iface t16 (.val (.nilIface))) H true fun t18 H =>
  wIf t18 (
    wAgg (fillA [(.val (.slice none 0 0)), (.val (.slice none 0 0))] []) H fun t19 H =>
    wPut (storeN 2 t2 t19 H) fun _u H =>
    wGet (retPack [loadN 2 t2 H, some t16]) H R) (
    wNew 2 (some [(.val (.slice none 0 0)), (.val (.slice none 0 0))]) H fun t6 H =>
    wGet (lenA t15) H fun t22 H =>
    wLoop 1 (fun I1 => I1 (.val (.int .i64 0)) H) fun I1 t23 H =>
      wGet (binA .lss t23 t22) H fun t24 H =>
      wIf t24 (
        wJoin 0 (fun J2 =>
          wGet (iaddr 1 t15 t23) H fun t26 H =>
          wGet (load1 t26 H) H fun t27 H =>
          wGet (faddr 0 t6) H fun t29 H =>
          wGet (load1 t29 H) H fun t30 H =>
          wGet (lenA t30) H fun t31 H =>
          wGet (binA .lss t27 t31) H fun t32 H =>
          wIf t32 (
            J2 H) (
            wGet (faddr 0 t1) H fun t33 H =>
            wGet (load1 t33 H) H fun t34 H =>
            wGet (iaddr 1 t34 t23) H fun t36 H =>
            wGet (load1 t36 H) H fun t37 H =>
            wGet (lenA t37) H fun t38 H =>
            wLoop 2 (fun I3 => I3 (.val (.slice none 0 0)) (.val (.int .i64 0)) H) fun I3 t9 t39 H =>
              wGet (binA .lss t39 t38) H fun t40 H =>
              wIf t40 (
                wGet (iaddr 1 t37 t39) H fun t41 H =>
                wGet (load1 t41 H) H fun t42 H =>
                wGet (iaddr 1 t15 t42) H fun t46 H =>
                wGet (load1 t46 H) H fun t47 H =>
                wNewS 1 1 (fillA (List.replicate 1 [(.val (.int .i64 0))]).flatten [(0, 1, t47)]) H fun t48 H =>
                wApp 1 8 t9 t48 H fun t49 H =>
                wGet (binA .add t39 (.val (.int .i64 1))) H fun t50 H =>
                I3 t49 t50 H) (
                wGet (faddr 0 t6) H fun t51 H =>
                wGet (load1 t51 H) H fun t52 H =>
                wGet (faddr 1 t6) H fun t56 H =>
                wGet (load1 t56 H) H fun t57 H =>
                wGet (faddr 1 t1) H fun t58 H =>
                wGet (load1 t58 H) H fun t59 H =>
                wGet (iaddr 1 t59 t23) H fun t61 H =>
                wGet (load1 t61 H) H fun t62 H =>
                wNewS 1 1 (fillA (List.replicate 1 [(.val (.slice none 0 0))]).flatten [(0, 1, t9)]) H fun t54 H =>
                (wGet (load1 t51 H) H (fun y H2 => y = t52 ∧ H2 = H)) ∧
                (wGet (load1 t56 H) H (fun y H2 => y = t57 ∧ H2 = H)) ∧
                (wGet (load1 t58 H) H (fun y H2 => y = t59 ∧ H2 = H)) ∧
                (wGet (load1 t61 H) H (fun y H2 => y = t62 ∧ H2 = H)) ∧
                wApp 1 24 t52 t54 H fun t55 H =>
                (wGet (load1 t56 H) H (fun y H2 => y = t57 ∧ H2 = H)) ∧
                (wGet (load1 t58 H) H (fun y H2 => y = t59 ∧ H2 = H)) ∧
                (wGet (load1 t61 H) H (fun y H2 => y = t62 ∧ H2 = H)) ∧
                wGet (faddr 0 t6) H fun t66 H =>
                wCall E P 57 [t62] H fun t63 H =>
                (wGet (load1 t56 H) H (fun y H2 => y = t57 ∧ H2 = H)) ∧
                wNewS 1 1 (fillA (List.replicate 1 [(.val (.slice none 0 0))]).flatten [(0, 1, t63)]) H fun t64 H =>
                (wGet (load1 t56 H) H (fun y H2 => y = t57 ∧ H2 = H)) ∧
                wApp 1 24 t57 t64 H fun t65 H =>
                wPut (store1 t66 t55 H) fun _u H =>
                wGet (faddr 1 t6) H fun t67 H =>
                wPut (store1 t67 t65 H) fun _u H =>
                J2 H))) fun H =>
          wGet (binA .add t23 (.val (.int .i64 1))) H fun t68 H =>
          I1 t68 H) (
        wGet (loadN 2 t6 H) H fun t69 H =>
        wPut (storeN 2 t2 t69 H) fun _u H =>
        wGet (retPack [loadN 2 t2 H, some (.val (.nilIface))]) H R))

/-- signalbox/block.Tell -/
def block_Tell (E : Env) (P : Program) (a0 a1 a2 : AV) (H : AH) (R : Kt) : Prop :=
  wNew 2 (AV.cells? a0) H fun t3 H =>
  wGet (loadN 2 t3 H) H fun t12 H =>
  wCall E P 55 [t12] H fun t13 H =>
  wBool (eqA .iface t13 (.val (.nilIface))) H true fun t15 H =>
  wIf t15 (
    R (.tup [(.val (.slice none 0 0)), t13]) H) (
    wGet (binA .lss a1 (.val (.int .i64 0))) H fun t18 H =>
    wGuard t18 false H (fun k => k a1 H) fun t20 H =>
    wGuard t18 false H (fun k => wGet (faddr 0 t3) H k) fun t21 H =>
    wGuard t18 false H (fun k => wGet (load1 t21 H) H k) fun t22 H =>
    wGuard t18 false H (fun k => wGet (lenA t22) H k) fun t23 H =>
    wGuard t18 false H (fun k => wGet (binA .geq t20 t23) H k) fun t24 H =>
    wGet (pickA t18 (.val (.bool true)) t24) H fun t25 H =>
    wGuard t25 false H (fun k => k a2 H) fun t27 H =>
    wGuard t25 false H (fun k => k (.fn 58 [] [t3]) H) fun t28 H =>
    wGuard t25 false H (fun k => wCall E P 59 [t27, t28] H k) fun t29 H =>
    wGet (pickA t25 (.val (.bool true)) t29) H fun t30 H =>
    wIf t30 (
      R (.tup [(.val (.slice none 0 0)), (.ifc 1 (.val (.int .i64 2)))]) H) (
      wGet (lenA a2) H fun t33 H =>
      wLoop 3 (fun I1 => I1 a1 (.val (.slice none 0 0)) (.val (.int .i64 0)) H) fun I1 t1 t9 t34 H =>
        wGet (binA .lss t34 t33) H fun t35 H =>
        wIf t35 (
          wGet (iaddr 1 a2 t34) H fun t36 H =>
          wGet (load1 t36 H) H fun t37 H =>
          wGet (faddr 1 t3) H fun t39 H =>
          wGet (load1 t39 H) H fun t40 H =>
          wGet (iaddr 1 t40 t1) H fun t42 H =>
          wGet (load1 t42 H) H fun t43 H =>
          wGet (iaddr 1 t43 t37) H fun t45 H =>
          wGet (load1 t45 H) H fun t46 H =>
          wNewS 1 1 (fillA (List.replicate 1 [(.val (.int .i64 0))]).flatten [(0, 1, t46)]) H fun t47 H =>
          wApp 1 8 t9 t47 H fun t48 H =>
          wGet (faddr 0 t3) H fun t49 H =>
          wGet (load1 t49 H) H fun t50 H =>
          wGet (iaddr 1 t50 t1) H fun t52 H =>
          wGet (load1 t52 H) H fun t53 H =>
          wGet (iaddr 1 t53 t37) H fun t55 H =>
          wGet (load1 t55 H) H fun t56 H =>
          wGet (binA .add t34 (.val (.int .i64 1))) H fun t57 H =>
          I1 t56 t48 t57 H) (
          R (.tup [t9, (.val (.nilIface))]) H)))

/-- signalbox/signalboxkeep.sameInts -/
def keep_sameInts (E : Env) (P : Program) (a0 a1 : AV) (H : AH) (R : Kt) : Prop :=
  wGet (lenA a0) H fun t7 H =>
  wGet (lenA a1) H fun t9 H =>
  wGet (binA .neq t7 t9) H fun t10 H =>
  wIf t10 (
    R (.val (.bool false)) H) (
    wLoop 1 (fun I1 => I1 (.val (.int .i64 0)) H) fun I1 t5 H =>
      wGet (lenA a0) H fun t13 H =>
      wGet (binA .lss t5 t13) H fun t14 H =>
      wIf t14 (
        wGet (iaddr 1 a0 t5) H fun t19 H =>
        wGet (load1 t19 H) H fun t20 H =>
        wGet (iaddr 1 a1 t5) H fun t23 H =>
        wGet (load1 t23 H) H fun t24 H =>
        wGet (binA .neq t20 t24) H fun t25 H =>
        wIf t25 (
          R (.val (.bool false)) H) (
          wGet (binA .add t5 (.val (.int .i64 1))) H fun t16 H =>
          I1 t16 H)) (
        R (.val (.bool true)) H))

/-- signalbox/block.Part -/
def block_Part (E : Env) (P : Program) (a0 a1 a2 : AV) (H : AH) (R : Kt) : Prop :=
  wNew 2 (AV.cells? a0) H fun t3 H =>
  wNew 1 (AV.cells? a1) H fun t4 H =>
  wNew 1 (AV.cells? a2) H fun t5 H =>
  wGet (loadN 2 t3 H) H fun t15 H =>
  wCall E P 55 [t15] H fun t16 H =>
  wBool (eqA .iface t16 (.val (.nilIface))) H true fun t18 H =>
  wIf t18 (
    R (.tup [(.val (.slice none 0 0)), t16]) H) (
    wGet (load1 t4 H) H fun t20 H =>
    wGet (binA .lss t20 (.val (.int .i64 0))) H fun t21 H =>
    wGuard t21 false H (fun k => wGet (load1 t4 H) H k) fun t23 H =>
    wGuard t21 false H (fun k => wGet (faddr 0 t3) H k) fun t24 H =>
    wGuard t21 false H (fun k => wGet (load1 t24 H) H k) fun t25 H =>
    wGuard t21 false H (fun k => wGet (lenA t25) H k) fun t26 H =>
    wGuard t21 false H (fun k => wGet (binA .geq t23 t26) H k) fun t27 H =>
    wGet (pickA t21 (.val (.bool true)) t27) H fun t28 H =>
    wGuard t28 false H (fun k => wGet (load1 t5 H) H k) fun t30 H =>
    wGuard t28 false H (fun k => wGet (binA .lss t30 (.val (.int .i64 0))) H k) fun t31 H =>
    wGet (pickA t28 (.val (.bool true)) t31) H fun t32 H =>
    wGuard t32 false H (fun k => wGet (load1 t5 H) H k) fun t34 H =>
    wGuard t32 false H (fun k => wGet (faddr 0 t3) H k) fun t35 H =>
    wGuard t32 false H (fun k => wGet (load1 t35 H) H k) fun t36 H =>
    wGuard t32 false H (fun k => wGet (lenA t36) H k) fun t37 H =>
    wGuard t32 false H (fun k => wGet (binA .geq t34 t37) H k) fun t38 H =>
    wGet (pickA t32 (.val (.bool true)) t38) H fun t39 H =>
    wIf t39 (
      R (.tup [(.val (.slice none 0 0)), (.ifc 1 (.val (.int .i64 2)))]) H) (
      wGet (loadN 2 t3 H) H fun t41 H =>
      wCall E P 56 [t41] H fun t42 H =>
      wCall E P 61 [t42, (.fn 60 [] [t4, t5])] H fun t45 H =>
      wGet (binA .lss t45 (.val (.int .i64 0))) H fun t47 H =>
      wIf t47 (
        R (.tup [(.val (.slice none 0 0)), (.ifc 1 (.val (.int .i64 8)))]) H) (
        wLoop 2 (fun I1 => I1 t45 (.val (.slice none 0 0)) H) fun I1 t10 t11 H =>
          wGet (binA .gtr t10 (.val (.int .i64 0))) H fun t50 H =>
          wIf t50 (
            wJoin 1 (fun J2 =>
              wGet (faddr 0 t3) H fun t53 H =>
              wGet (load1 t53 H) H fun t54 H =>
              wGet (load1 t4 H) H fun t55 H =>
              wGet (iaddr 1 t54 t55) H fun t56 H =>
              wGet (load1 t56 H) H fun t57 H =>
              wGet (lenA t57) H fun t58 H =>
              wLoop 2 (fun I3 => I3 t11 (.val (.int .i64 0)) H) fun I3 t11_1 t59 H =>
                wGet (binA .lss t59 t58) H fun t60 H =>
                wIf t60 (
                  wGet (faddr 0 t3) H fun t62 H =>
                  wGet (load1 t62 H) H fun t63 H =>
                  wGet (load1 t4 H) H fun t64 H =>
                  wGet (iaddr 1 t63 t64) H fun t65 H =>
                  wGet (load1 t65 H) H fun t66 H =>
                  wGet (iaddr 1 t66 t59) H fun t68 H =>
                  wGet (load1 t68 H) H fun t69 H =>
                  wGet (faddr 0 t3) H fun t70 H =>
                  wGet (load1 t70 H) H fun t71 H =>
                  wGet (load1 t5 H) H fun t72 H =>
                  wGet (iaddr 1 t71 t72) H fun t73 H =>
                  wGet (load1 t73 H) H fun t74 H =>
                  wGet (iaddr 1 t74 t59) H fun t76 H =>
                  wGet (load1 t76 H) H fun t77 H =>
                  (wGet (load1 t70 H) H (fun y H2 => y = t71 ∧ H2 = H)) ∧
                  (wGet (load1 t5 H) H (fun y H2 => y = t72 ∧ H2 = H)) ∧
                  (wGet (load1 t73 H) H (fun y H2 => y = t74 ∧ H2 = H)) ∧
                  (wGet (load1 t76 H) H (fun y H2 => y = t77 ∧ H2 = H)) ∧
                  wGet (binA .eql t10 (.val (.int .i64 1))) H fun t79 H =>
                  wGuard t79 true H (fun k => wGet (faddr 1 t3) H k) fun t81 H =>
                  wGuard t79 true H (fun k => wGet (load1 t81 H) H k) fun t82 H =>
                  wGuard t79 true H (fun k => wGet (load1 t4 H) H k) fun t83 H =>
                  wGuard t79 true H (fun k => wGet (iaddr 1 t82 t83) H k) fun t84 H =>
                  wGuard t79 true H (fun k => wGet (load1 t84 H) H k) fun t85 H =>
                  wGuard t79 true H (fun k => k t59 H) fun t86 H =>
                  wGuard t79 true H (fun k => wGet (iaddr 1 t85 t86) H k) fun t87 H =>
                  wGuard t79 true H (fun k => wGet (load1 t87 H) H k) fun t88 H =>
                  wGuard t79 true H (fun k => wGet (faddr 1 t3) H k) fun t89 H =>
                  wGuard t79 true H (fun k => wGet (load1 t89 H) H k) fun t90 H =>
                  wGuard t79 true H (fun k => wGet (load1 t5 H) H k) fun t91 H =>
                  wGuard t79 true H (fun k => wGet (iaddr 1 t90 t91) H k) fun t92 H =>
                  wGuard t79 true H (fun k => wGet (load1 t92 H) H k) fun t93 H =>
                  wGuard t79 true H (fun k => k t59 H) fun t94 H =>
                  wGuard t79 true H (fun k => wGet (iaddr 1 t93 t94) H k) fun t95 H =>
                  wGuard t79 true H (fun k => wGet (load1 t95 H) H k) fun t96 H =>
                  wGuard t79 true H (fun k => wGet (binA .neq t88 t96) H k) fun t97 H =>
                  wGet (pickA t79 t97 (.val (.bool false))) H fun t98 H =>
                  wGuard t98 false H (fun k => k t10 H) fun t100 H =>
                  wGuard t98 false H (fun k => wGet (binA .gtr t100 (.val (.int .i64 1))) H k) fun t101 H =>
                  wGuard t98 false H (fun k => k t101 H) fun t102 H =>
                  wGuard t102 true H (fun k => k t42 H) fun t103 H =>
                  wGuard t102 true H (fun k => k t10 H) fun t104 H =>
                  wGuard t102 true H (fun k => wGet (binA .sub t104 (.val (.int .i64 1))) H k) fun t105 H =>
                  wGuard t102 true H (fun k => wGet (iaddr 1 t103 t105) H k) fun t106 H =>
                  wGuard t102 true H (fun k => wGet (load1 t106 H) H k) fun t107 H =>
                  wGuard t102 true H (fun k => k t69 H) fun t108 H =>
                  wGuard t102 true H (fun k => wGet (iaddr 1 t107 t108) H k) fun t109 H =>
                  wGuard t102 true H (fun k => wGet (load1 t109 H) H k) fun t110 H =>
                  wGuard t102 true H (fun k => k t42 H) fun t111 H =>
                  wGuard t102 true H (fun k => k t10 H) fun t112 H =>
                  wGuard t102 true H (fun k => wGet (binA .sub t112 (.val (.int .i64 1))) H k) fun t113 H =>
                  wGuard t102 true H (fun k => wGet (iaddr 1 t111 t113) H k) fun t114 H =>
                  wGuard t102 true H (fun k => wGet (load1 t114 H) H k) fun t115 H =>
                  wGuard t102 true H (fun k => k t77 H) fun t116 H =>
                  wGuard t102 true H (fun k => wGet (iaddr 1 t115 t116) H k) fun t117 H =>
                  wGuard t102 true H (fun k => wGet (load1 t117 H) H k) fun t118 H =>
                  wGuard t102 true H (fun k => wGet (binA .neq t110 t118) H k) fun t119 H =>
                  wGuard t98 false H (fun k => wGet (pickA t102 t119 (.val (.bool false))) H k) fun t120 H =>
                  wGet (pickA t98 (.val (.bool true)) t120) H fun t121 H =>
                  wIf t121 (
                    wNewS 1 1 (fillA (List.replicate 1 [(.val (.int .i64 0))]).flatten [(0, 1, t59)]) H fun t124 H =>
                    wApp 1 8 t11_1 t124 H fun t125 H =>
                    wPut (store1 t4 t69 H) fun _u H =>
                    wPut (store1 t5 t77 H) fun _u H =>
                    J2 t125 H) (
                    wGet (binA .add t59 (.val (.int .i64 1))) H fun t128 H =>
                    I3 t11_1 t128 H)) (
                  J2 t11_1 H)) fun t11_2 H =>
              wGet (binA .sub t10 (.val (.int .i64 1))) H fun t52 H =>
              I1 t52 t11_2 H) (
            R (.tup [t11, (.val (.nilIface))]) H))))

/-- signalbox/api.Tell -/
def api_Tell (E : Env) (P : Program) (a0 : AV) (H : AH) (R : Kt) : Prop :=
  wBool (eqA .iface a0 (.val (.nilIface))) H false fun t5 H =>
  wIf t5 (
    R (.val (.int .i64 0)) H) (
    wNew 1 (some [(.val (.int .i64 0))]) H fun t3 H =>
    wCall E P 62 [a0, (.ifc 3 t3)] H fun t8 H =>
    wIf t8 (
      wGet (load1 t3 H) H fun t9 H =>
      R t9 H) (
      R (.val (.int .i64 (-1))) H))

/-- signalbox/block.Check -/
def block_Check (E : Env) (P : Program) (a0 : AV) (H : AH) (R : Kt) : Prop :=
  wNew 2 (AV.cells? a0) H fun t1 H =>
  wGet (faddr 0 t1) H fun t5 H =>
  wGet (load1 t5 H) H fun t6 H =>
  wGet (lenA t6) H fun t7 H =>
  wNew 1 (some [(.val (.int .i64 0))]) H fun t3 H =>
  wPut (store1 t3 t7 H) fun _u H =>
  wGet (load1 t3 H) H fun t8 H =>
  wGet (binA .lss t8 (.val (.int .i64 1))) H fun t9 H =>
  wGuard t9 false H (fun k => wGet (load1 t3 H) H k) fun t11 H =>
  wGuard t9 false H (fun k => wGet (binA .gtr t11 (.val (.int .i64 500))) H k) fun t12 H =>
  wGet (pickA t9 (.val (.bool true)) t12) H fun t13 H =>
  wGuard t13 false H (fun k => wGet (faddr 0 t1) H k) fun t15 H =>
  wGuard t13 false H (fun k => wGet (load1 t15 H) H k) fun t16 H =>
  wGuard t13 false H (fun k => wGet (iaddr 1 t16 (.val (.int .i64 0))) H k) fun t17 H =>
  wGuard t13 false H (fun k => wGet (load1 t17 H) H k) fun t18 H =>
  wGuard t13 false H (fun k => wGet (lenA t18) H k) fun t19 H =>
  wGuard t13 false H (fun k => wGet (binA .gtr t19 (.val (.int .i64 64))) H k) fun t20 H =>
  wGet (pickA t13 (.val (.bool true)) t20) H fun t21 H =>
  wIf t21 (
    R (.ifc 1 (.val (.int .i64 4))) H) (
    wGet (faddr 1 t1) H fun t23 H =>
    wGet (load1 t23 H) H fun t24 H =>
    wGet (lenA t24) H fun t25 H =>
    wGet (load1 t3 H) H fun t26 H =>
    wGet (binA .neq t25 t26) H fun t27 H =>
    wIf t27 (
      R (.ifc 1 (.val (.int .i64 3))) H) (
      wGet (faddr 0 t1) H fun t29 H =>
      wGet (load1 t29 H) H fun t30 H =>
      wGet (lenA t30) H fun t31 H =>
      wLoop 1 (fun I1 => I1 (.val (.int .i64 0)) H) fun I1 t32 H =>
        wGet (binA .lss t32 t31) H fun t33 H =>
        wIf t33 (
          wGet (faddr 0 t1) H fun t35 H =>
          wGet (load1 t35 H) H fun t36 H =>
          wGet (iaddr 1 t36 t32) H fun t38 H =>
          wGet (load1 t38 H) H fun t39 H =>
          wGet (lenA t39) H fun t40 H =>
          wGet (faddr 0 t1) H fun t41 H =>
          wGet (load1 t41 H) H fun t42 H =>
          wGet (iaddr 1 t42 (.val (.int .i64 0))) H fun t43 H =>
          wGet (load1 t43 H) H fun t44 H =>
          wGet (lenA t44) H fun t45 H =>
          wGet (binA .neq t40 t45) H fun t46 H =>
          wGuard t46 false H (fun k => wGet (faddr 1 t1) H k) fun t48 H =>
          wGuard t46 false H (fun k => wGet (load1 t48 H) H k) fun t49 H =>
          wGuard t46 false H (fun k => k t32 H) fun t50 H =>
          wGuard t46 false H (fun k => wGet (iaddr 1 t49 t50) H k) fun t51 H =>
          wGuard t46 false H (fun k => wGet (load1 t51 H) H k) fun t52 H =>
          wGuard t46 false H (fun k => wGet (lenA t52) H k) fun t53 H =>
          wGuard t46 false H (fun k => wGet (faddr 0 t1) H k) fun t54 H =>
          wGuard t46 false H (fun k => wGet (load1 t54 H) H k) fun t55 H =>
          wGuard t46 false H (fun k => wGet (iaddr 1 t55 (.val (.int .i64 0))) H k) fun t56 H =>
          wGuard t46 false H (fun k => wGet (load1 t56 H) H k) fun t57 H =>
          wGuard t46 false H (fun k => wGet (lenA t57) H k) fun t58 H =>
          wGuard t46 false H (fun k => wGet (binA .neq t53 t58) H k) fun t59 H =>
          wGet (pickA t46 (.val (.bool true)) t59) H fun t60 H =>
          wIf t60 (
            wAgg (fillA [(.val (.int .i64 0)), (.val (.int .i64 0))] [(0, 1, (.val (.int .i64 3))), (1, 1, t32)]) H fun t62 H =>
            wNew 2 (AV.cells? t62) H fun t63 H =>
            R (.ifc 2 t63) H) (
            wGet (faddr 0 t1) H fun t65 H =>
            wGet (load1 t65 H) H fun t66 H =>
            wGet (iaddr 1 t66 t32) H fun t68 H =>
            wGet (load1 t68 H) H fun t69 H =>
            wCall E P 59 [t69, (.fn 63 [] [t3])] H fun t71 H =>
            wIf t71 (
              wAgg (fillA [(.val (.int .i64 0)), (.val (.int .i64 0))] [(0, 1, (.val (.int .i64 2))), (1, 1, t32)]) H fun t73 H =>
              wNew 2 (AV.cells? t73) H fun t74 H =>
              R (.ifc 2 t74) H) (
              wGet (binA .add t32 (.val (.int .i64 1))) H fun t76 H =>
              I1 t76 H))) (
          R (.val (.nilIface)) H)))

/-- signalbox/block.rounds -/
def block_rounds (E : Env) (P : Program) (a0 : AV) (H : AH) (R : Kt) : Prop :=
  wNew 2 (AV.cells? a0) H fun t1 H =>
  wGet (faddr 0 t1) H fun t12 H =>
  wGet (load1 t12 H) H fun t13 H =>
  wGet (lenA t13) H fun t14 H =>
  wMake 1 8 [(.val (.int .i64 0))] t14 t14 H fun t16 H =>
  wNewS 1 1 (fillA (List.replicate 1 [(.val (.slice none 0 0))]).flatten [(0, 1, t16)]) H fun t17 H =>
  wLoop 1 (fun I1 => I1 t17 H) fun I1 t4 H =>
    wGet (lenA t4) H fun t20 H =>
    wGet (binA .sub t20 (.val (.int .i64 1))) H fun t21 H =>
    wGet (iaddr 1 t4 t21) H fun t22 H =>
    wGet (load1 t22 H) H fun t23 H =>
    wLoop 2 (fun I2 => I2 (.val (.slice none 0 0)) (.val (.int .i64 0)) H) fun I2 t6 t25 H =>
      wGet (binA .lss t25 t14) H fun t26 H =>
      wIf t26 (
        wGet (iaddr 1 t23 t25) H fun t30 H =>
        wGet (load1 t30 H) H fun t31 H =>
        wNewS 1 1 (fillA (List.replicate 1 [(.val (.int .i64 0))]).flatten [(0, 1, t31)]) H fun t32 H =>
        wGet (faddr 0 t1) H fun t33 H =>
        wGet (load1 t33 H) H fun t34 H =>
        wGet (iaddr 1 t34 t25) H fun t36 H =>
        wGet (load1 t36 H) H fun t37 H =>
        wGet (lenA t37) H fun t38 H =>
        wLoop 2 (fun I3 => I3 t32 (.val (.int .i64 0)) H) fun I3 t8 t39 H =>
          wGet (binA .lss t39 t38) H fun t40 H =>
          wIf t40 (
            wGet (iaddr 1 t37 t39) H fun t42 H =>
            wGet (load1 t42 H) H fun t43 H =>
            wGet (faddr 1 t1) H fun t45 H =>
            wGet (load1 t45 H) H fun t46 H =>
            wGet (iaddr 1 t46 t25) H fun t48 H =>
            wGet (load1 t48 H) H fun t49 H =>
            wGet (iaddr 1 t49 t39) H fun t51 H =>
            wGet (load1 t51 H) H fun t52 H =>
            wGet (iaddr 1 t23 t43) H fun t55 H =>
            wGet (load1 t55 H) H fun t56 H =>
            wNewS 1 2 (fillA (List.replicate 2 [(.val (.int .i64 0))]).flatten [(0, 1, t52), (1, 1, t56)]) H fun t57 H =>
            wApp 1 8 t8 t57 H fun t58 H =>
            wGet (binA .add t39 (.val (.int .i64 1))) H fun t59 H =>
            I3 t58 t59 H) (
            wNewS 1 1 (fillA (List.replicate 1 [(.val (.slice none 0 0))]).flatten [(0, 1, t8)]) H fun t62 H =>
            wApp 1 24 t6 t62 H fun t63 H =>
            wGet (binA .add t25 (.val (.int .i64 1))) H fun t64 H =>
            I2 t63 t64 H)) (
        wCall E P 64 [t6] H fun t66 H =>
        wCall E P 65 [t66, t23] H fun t69 H =>
        wIf t69 (
          R t4 H) (
          wNewS 1 1 (fillA (List.replicate 1 [(.val (.slice none 0 0))]).flatten [(0, 1, t66)]) H fun t73 H =>
          wApp 1 24 t4 t73 H fun t74 H =>
          I1 t74 H))

/-- slices.Clone[[]int,int] -/
def slices_Clone_Lint_int (E : Env) (P : Program) (a0 : AV) (H : AH) (R : Kt) : Prop :=
  wBool (eqA .slice a0 (.val (.slice none 0 0))) H false fun t4 H =>
  wIf t4 (
    R (.val (.slice none 0 0)) H) (
    wNewS 1 0 (fillA (List.replicate 0 [(.val (.int .i64 0))]).flatten []) H fun t5 H =>
    wApp 1 8 t5 a0 H fun t7 H =>
    R t7 H)

/-- slices.ContainsFunc[[]int,int] -/
def slices_ContainsFunc_Lint_int (E : Env) (P : Program) (a0 a1 : AV) (H : AH) (R : Kt) : Prop :=
  wCall E P 66 [a0, a1] H fun t7 H =>
  wGet (binA .geq t7 (.val (.int .i64 0))) H fun t8 H =>
  R t8 H

/-- signalbox/block.Tell$1 -/
def block_Tell_c1 (E : Env) (P : Program) (a0 a1 : AV) (H : AH) (R : Kt) : Prop :=
  wGet (binA .lss a0 (.val (.int .i64 0))) H fun t5 H =>
  wGuard t5 false H (fun k => k a0 H) fun t7 H =>
  wGuard t5 false H (fun k => wGet (faddr 0 a1) H k) fun t8 H =>
  wGuard t5 false H (fun k => wGet (load1 t8 H) H k) fun t9 H =>
  wGuard t5 false H (fun k => wGet (iaddr 1 t9 (.val (.int .i64 0))) H k) fun t10 H =>
  wGuard t5 false H (fun k => wGet (load1 t10 H) H k) fun t11 H =>
  wGuard t5 false H (fun k => wGet (lenA t11) H k) fun t12 H =>
  wGuard t5 false H (fun k => wGet (binA .geq t7 t12) H k) fun t13 H =>
  wGet (pickA t5 (.val (.bool true)) t13) H fun t14 H =>
  R t14 H

/-- slices.IndexFunc[[][]int,[]int] -/
def slices_IndexFunc_LLint_Lint (E : Env) (P : Program) (a0 a1 : AV) (H : AH) (R : Kt) : Prop :=
  wGet (lenA a0) H fun t7 H =>
  wLoop 1 (fun I1 => I1 (.val (.int .i64 0)) H) fun I1 t8 H =>
    wGet (binA .lss t8 t7) H fun t9 H =>
    wIf t9 (
      wGet (iaddr 1 a0 t8) H fun t14 H =>
      wGet (load1 t14 H) H fun t15 H =>
      wCallV E P a1 [t15] H fun t16 H =>
      wIf t16 (
        R t8 H) (
        wGet (binA .add t8 (.val (.int .i64 1))) H fun t18 H =>
        I1 t18 H)) (
      R (.val (.int .i64 (-1))) H)

/-- signalbox/block.Part$1 -/
def block_Part_c1 (E : Env) (P : Program) (a0 a1 a2 : AV) (H : AH) (R : Kt) : Prop :=
  wGet (load1 a1 H) H fun t6 H =>
  wGet (iaddr 1 a0 t6) H fun t7 H =>
  wGet (load1 t7 H) H fun t8 H =>
  wGet (load1 a2 H) H fun t10 H =>
  wGet (iaddr 1 a0 t10) H fun t11 H =>
  wGet (load1 t11 H) H fun t12 H =>
  wGet (binA .neq t8 t12) H fun t13 H =>
  R t13 H

/-- errors.As -/
def errors_As (E : Env) (P : Program) (a0 a1 : AV) (H : AH) (R : Kt) : Prop :=
  wBool (eqA .iface a0 (.val (.nilIface))) H false fun t9 H =>
  wIf t9 (
    R (.val (.bool false)) H) (
    wJoin 0 (fun J1 =>
      wBool (eqA .iface a1 (.val (.nilIface))) H false fun t11 H =>
      wIf t11 (
        False) (
        J1 H)) fun H =>
      wCall E P 67 [a1] H fun t14 H =>
      wNew 3 (some [(.val (.pointer none)), (.val (.pointer none)), (.val (.int .u64 0))]) H fun t5 H =>
      wPut (storeN 3 t5 t14 H) fun _u H =>
      wGet (loadN 3 t5 H) H fun t15 H =>
      wCall E P 68 [t15] H fun t16 H =>
      wJoin 0 (fun J2 =>
        wInv E P t16 "Kind" [] H fun t18 H =>
        wGet (binA .neq t18 (.val (.int .u8 22))) H fun t19 H =>
        wGuard t19 false H (fun k => wGet (loadN 3 t5 H) H k) fun t21 H =>
        wGuard t19 false H (fun k => wCall E P 69 [t21] H k) fun t22 H =>
        wGet (pickA t19 (.val (.bool true)) t22) H fun t23 H =>
        wIf t23 (
          False) (
          J2 H)) fun H =>
        wInv E P t16 "Elem" [] H fun t26 H =>
        wJoin 0 (fun J3 =>
          wInv E P t26 "Kind" [] H fun t28 H =>
          wGet (binA .neq t28 (.val (.int .u8 20))) H fun t29 H =>
          wGuard t29 true H (fun k => k t26 H) fun t31 H =>
          wGuard t29 true H (fun k => wGet (load1 (gptr E 4) H) H k) fun t32 H =>
          wGuard t29 true H (fun k => wInv E P t31 "Implements" [t32] H k) fun t33 H =>
          wGuard t29 true H (fun k => wGet (unA .not t33) H k) fun t34 H =>
          wGet (pickA t29 t34 (.val (.bool false))) H fun t35 H =>
          wIf t35 (
            False) (
            J3 H)) fun H =>
          wGet (loadN 3 t5 H) H fun t39 H =>
          wCall E P 70 [a0, a1, t39, t26] H fun t41 H =>
          R t41 H)

/-- signalbox/block.Check$1 -/
def block_Check_c1 (E : Env) (P : Program) (a0 a1 : AV) (H : AH) (R : Kt) : Prop :=
  wGet (binA .lss a0 (.val (.int .i64 0))) H fun t5 H =>
  wGuard t5 false H (fun k => k a0 H) fun t7 H =>
  wGuard t5 false H (fun k => wGet (load1 a1 H) H k) fun t8 H =>
  wGuard t5 false H (fun k => wGet (binA .geq t7 t8) H k) fun t9 H =>
  wGet (pickA t5 (.val (.bool true)) t9) H fun t10 H =>
  R t10 H

/-- signalbox/block.number -/
def block_number (E : Env) (P : Program) (a0 : AV) (H : AH) (R : Kt) : Prop :=
  wGet (lenA a0) H fun t9 H =>
  wLoop 3 (fun I1 => I1 (.val (.slice none 0 0)) (.val (.slice none 0 0)) (.val (.int .i64 0)) H) fun I1 t3 t4 t10 H =>
    wGet (binA .lss t10 t9) H fun t11 H =>
    wIf t11 (
      wGet (iaddr 1 a0 t10) H fun t12 H =>
      wGet (load1 t12 H) H fun t13 H =>
      wNew 1 (some [(.val (.slice none 0 0))]) H fun t6 H =>
      wPut (store1 t6 t13 H) fun _u H =>
      wCall E P 61 [t3, (.fn 71 [] [t6])] H fun t16 H =>
      wJoin 2 (fun J2 =>
        wGet (binA .lss t16 (.val (.int .i64 0))) H fun t18 H =>
        wIf t18 (
          wGet (lenA t3) H fun t20 H =>
          wGet (load1 t6 H) H fun t22 H =>
          wNewS 1 1 (fillA (List.replicate 1 [(.val (.slice none 0 0))]).flatten [(0, 1, t22)]) H fun t23 H =>
          wApp 1 24 t3 t23 H fun t24 H =>
          J2 t24 t20 H) (
          J2 t3 t16 H)) fun t3_1 t7 H =>
        wNewS 1 1 (fillA (List.replicate 1 [(.val (.int .i64 0))]).flatten [(0, 1, t7)]) H fun t27 H =>
        wApp 1 8 t4 t27 H fun t28 H =>
        wGet (binA .add t10 (.val (.int .i64 1))) H fun t29 H =>
        I1 t3_1 t28 t29 H) (
      R t4 H)

/-- slices.Equal[[]int,int] -/
def slices_Equal_Lint_int (E : Env) (P : Program) (a0 a1 : AV) (H : AH) (R : Kt) : Prop :=
  wGet (lenA a0) H fun t7 H =>
  wGet (lenA a1) H fun t9 H =>
  wGet (binA .neq t7 t9) H fun t10 H =>
  wIf t10 (
    R (.val (.bool false)) H) (
    wGet (lenA a0) H fun t12 H =>
    wLoop 1 (fun I1 => I1 (.val (.int .i64 0)) H) fun I1 t13 H =>
      wGet (binA .lss t13 t12) H fun t14 H =>
      wIf t14 (
        wGet (iaddr 1 a0 t13) H fun t18 H =>
        wGet (load1 t18 H) H fun t19 H =>
        wGet (iaddr 1 a1 t13) H fun t22 H =>
        wGet (load1 t22 H) H fun t23 H =>
        wGet (binA .neq t19 t23) H fun t24 H =>
        wIf t24 (
          R (.val (.bool false)) H) (
          wGet (binA .add t13 (.val (.int .i64 1))) H fun t25 H =>
          I1 t25 H)) (
        R (.val (.bool true)) H))

/-- slices.IndexFunc[[]int,int] -/
def slices_IndexFunc_Lint_int (E : Env) (P : Program) (a0 a1 : AV) (H : AH) (R : Kt) : Prop :=
  wGet (lenA a0) H fun t7 H =>
  wLoop 1 (fun I1 => I1 (.val (.int .i64 0)) H) fun I1 t8 H =>
    wGet (binA .lss t8 t7) H fun t9 H =>
    wIf t9 (
      wGet (iaddr 1 a0 t8) H fun t14 H =>
      wGet (load1 t14 H) H fun t15 H =>
      wCallV E P a1 [t15] H fun t16 H =>
      wIf t16 (
        R t8 H) (
        wGet (binA .add t8 (.val (.int .i64 1))) H fun t18 H =>
        I1 t18 H)) (
      R (.val (.int .i64 (-1))) H)

/-- errors.as -/
def errors_as (E : Env) (P : Program) (a0 a1 a2 a3 : AV) (H : AH) (R : Kt) : Prop :=
  wNew 3 (AV.cells? a2) H fun t6 H =>
  wLoop 1 (fun I1 => I1 a0 H) fun I1 t0 H =>
    wCall E P 72 [t0] H fun t17 H =>
    wInv E P t17 "AssignableTo" [a3] H fun t19 H =>
    wIf t19 (
      wGet (loadN 3 t6 H) H fun t20 H =>
      wCall E P 73 [t20] H fun t21 H =>
      wCall E P 67 [t0] H fun t23 H =>
      wCall E P 74 [t21, t23] H fun t24 H =>
      R (.val (.bool true)) H) (
      wAsI E P 5 t0 H fun t27 H =>
      wGet (extractA t27 0) H fun t28 H =>
      wGet (extractA t27 1) H fun t29 H =>
      wGuard t29 true H (fun k => k t28 H) fun t32 H =>
      wGuard t29 true H (fun k => k a1 H) fun t33 H =>
      wGuard t29 true H (fun k => wInv E P t32 "As" [t33] H k) fun t34 H =>
      wGet (pickA t29 t34 (.val (.bool false))) H fun t35 H =>
      wIf t35 (
        R (.val (.bool true)) H) (
        wAsI E P 6 t0 H fun t37 H =>
        wGet (extractA t37 1) H fun t38 H =>
        wGet (extractA t37 0) H fun t39 H =>
        wIf t38 (
          wInv E P t39 "Unwrap" [] H fun t41 H =>
          wBool (eqA .iface t41 (.val (.nilIface))) H false fun t43 H =>
          wIf t43 (
            R (.val (.bool false)) H) (
            I1 t41 H)) (
          wAsI E P 7 t0 H fun t44 H =>
          wGet (extractA t44 1) H fun t45 H =>
          wGet (extractA t44 0) H fun t46 H =>
          wIf t45 (
            wInv E P t46 "Unwrap" [] H fun t48 H =>
            wGet (lenA t48) H fun t49 H =>
            wLoop 1 (fun I2 => I2 (.val (.int .i64 0)) H) fun I2 t50 H =>
              wGet (binA .lss t50 t49) H fun t51 H =>
              wIf t51 (
                wJoin 0 (fun J3 =>
                  wGet (iaddr 1 t48 t50) H fun t52 H =>
                  wGet (load1 t52 H) H fun t53 H =>
                  wBool (eqA .iface t53 (.val (.nilIface))) H false fun t55 H =>
                  wIf t55 (
                    J3 H) (
                    wGet (loadN 3 t6 H) H fun t58 H =>
                    wCall E P 70 [t53, a1, t58, a3] H fun t60 H =>
                    wIf t60 (
                      R (.val (.bool true)) H) (
                      J3 H))) fun H =>
                  wGet (binA .add t50 (.val (.int .i64 1))) H fun t61 H =>
                  I2 t61 H) (
                R (.val (.bool false)) H)) (
            R (.val (.bool false)) H))))

/-- signalbox/block.number$1 -/
def block_number_c1 (E : Env) (P : Program) (a0 a1 : AV) (H : AH) (R : Kt) : Prop :=
  wGet (load1 a1 H) H fun t5 H =>
  wCall E P 65 [a0, t5] H fun t6 H =>
  R t6 H

/-- (*signalbox/api.At).Unwrap -/
def papi_At_Unwrap (E : Env) (P : Program) (a0 : AV) (H : AH) (R : Kt) : Prop :=
  wGet (nilA a0) H fun t4 H =>
  wGet (faddr 0 t4) H fun t5 H =>
  wGet (load1 t5 H) H fun t6 H =>
  R (.ifc 1 t6) H

end Go.Sc.F
