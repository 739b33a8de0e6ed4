/- CONTRACTS: lists of numbers are compared, searched, copied. PLAIN LAWS of tables: numbering, rounds, blocks (no program in sight). PLAIN LAWS OF TABLES: the rounds end; in the table of blocks no two states are alike. PLAIN LAWS OF TABLES, MORE: states of one block tell the same; the table of blocks tells what its states do; the inputs that are told part states at the last one alone. (of the seat YtcfndjhmdfjhhaaDoor) -/
import Derived.Test.YtcfndjhmdfjhhaaDoorCore9
namespace Go.Sc.F
open Go Go.Sc
set_option linter.unusedVariables false

/-- signalbox/signalboxkeep.BlockMoore -/
def keep_BlockMoore (E : Env) (P : Program) (a0 a1 a2 a3 : AV) (H : AH) (R : Kt) : Prop :=
  wNew 2 (AV.cells? a0) H fun t4 H =>
  wGet (loadN 2 t4 H) H fun t26 H =>
  wCall E P 45 [t26, (.val (.int .i64 60))] H fun t27 H =>
  wGet (unA .not t27) H fun t28 H =>
  wGuard t28 false H (fun k => k a3 H) fun t30 H =>
  wGuard t28 false H (fun k => wGet (lenA t30) H k) fun t31 H =>
  wGuard t28 false H (fun k => wGet (binA .gtr t31 (.val (.int .i64 40))) H k) fun t32 H =>
  wGet (pickA t28 (.val (.bool true)) t32) H fun t33 H =>
  wIf t33 (
    R (.val (.bool true)) H) (
    wGet (loadN 2 t4 H) H fun t35 H =>
    wCall E P 46 [t35] H fun t36 H =>
    wGet (extractA t36 0) H fun t37 H =>
    wGet (extractA t36 1) H fun t38 H =>
    wCall E P 47 [] H fun t39 H =>
    wGet (unA .not t39) H fun t40 H =>
    wGuard t40 false H (fun k => k t38 H) fun t42 H =>
    wGuard t40 false H (fun k => wBool (eqA .iface t42 (.val (.nilIface))) H true k) fun t43 H =>
    wGet (pickA t40 (.val (.bool true)) t43) H fun t44 H =>
    wIf t44 (
      wCall E P 47 [] H fun t45 H =>
      wGuard t45 true H (fun k => k t37 H) fun t47 H =>
      wGuard t45 true H (fun k => wGet (lenA t47) H k) fun t48 H =>
      wGuard t45 true H (fun k => wGet (binA .eql t48 (.val (.int .i64 0))) H k) fun t49 H =>
      wGet (pickA t45 t49 (.val (.bool false))) H fun t50 H =>
      R t50 H) (
      wGet (faddr 0 t4) H fun t51 H =>
      wGet (load1 t51 H) H fun t52 H =>
      wGet (lenA t52) H fun t53 H =>
      wGet (faddr 0 t4) H fun t54 H =>
      wGet (load1 t54 H) H fun t55 H =>
      wGet (iaddr 1 t55 (.val (.int .i64 0))) H fun t56 H =>
      wGet (load1 t56 H) H fun t57 H =>
      wGet (lenA t57) H fun t58 H =>
      (wGet (load1 t54 H) H (fun y H2 => y = t55 ∧ H2 = H)) ∧
      (wGet (load1 t56 H) H (fun y H2 => y = t57 ∧ H2 = H)) ∧
      wCall E P 48 [a1, t53] H fun t61 H =>
      wCall E P 48 [a2, t53] H fun t64 H =>
      wGet (loadN 2 t4 H) H fun t66 H =>
      wCall E P 49 [t66] H fun t67 H =>
      wGet (extractA t67 0) H fun t68 H =>
      wGet (extractA t67 1) H fun t69 H =>
      wNew 2 (some [(.val (.slice none 0 0)), (.val (.slice none 0 0))]) H fun t13 H =>
      wPut (storeN 2 t13 t68 H) fun _u H =>
      wBool (eqA .iface t69 (.val (.nilIface))) H true fun t71 H =>
      wGuard t71 false H (fun k => k t37 H) fun t73 H =>
      wGuard t71 false H (fun k => wGet (lenA t73) H k) fun t74 H =>
      wGuard t71 false H (fun k => k t53 H) fun t75 H =>
      wGuard t71 false H (fun k => wGet (binA .neq t74 t75) H k) fun t76 H =>
      wGet (pickA t71 (.val (.bool true)) t76) H fun t77 H =>
      wIf t77 (
        R (.val (.bool false)) H) (
        wLoop 2 (fun I1 => I1 (.val (.slice none 0 0)) (.val (.int .i64 0)) H) fun I1 t14 t15 H =>
          wGet (lenA a3) H fun t80 H =>
          wGet (binA .lss t15 t80) H fun t81 H =>
          wGuard t81 true H (fun k => k t58 H) fun t83 H =>
          wGuard t81 true H (fun k => wGet (binA .gtr t83 (.val (.int .i64 0))) H k) fun t84 H =>
          wGet (pickA t81 t84 (.val (.bool false))) H fun t85 H =>
          wIf t85 (
            wGet (iaddr 1 a3 t15) H fun t91 H =>
            wGet (load1 t91 H) H fun t92 H =>
            wCall E P 48 [t92, t58] H fun t94 H =>
            wNewS 1 1 (fillA (List.replicate 1 [(.val (.int .i64 0))]).flatten [(0, 1, t94)]) H fun t95 H =>
            wApp 1 8 t14 t95 H fun t96 H =>
            wGet (binA .add t15 (.val (.int .i64 1))) H fun t87 H =>
            I1 t96 t87 H) (
            wGet (loadN 2 t4 H) H fun t98 H =>
            wCall E P 50 [t98, t61, t14] H fun t101 H =>
            wGet (extractA t101 0) H fun t102 H =>
            wGet (extractA t101 1) H fun t103 H =>
            wGet (loadN 2 t4 H) H fun t105 H =>
            wCall E P 50 [t105, t64, t14] H fun t108 H =>
            wGet (extractA t108 0) H fun t109 H =>
            wGet (extractA t108 1) H fun t110 H =>
            wGet (loadN 2 t13 H) H fun t112 H =>
            wGet (iaddr 1 t37 t61) H fun t115 H =>
            wGet (load1 t115 H) H fun t116 H =>
            wCall E P 50 [t112, t116, t14] H fun t118 H =>
            wGet (extractA t118 0) H fun t119 H =>
            wGet (extractA t118 1) H fun t120 H =>
            wBool (eqA .iface t103 (.val (.nilIface))) H true fun t122 H =>
            wGuard t122 false H (fun k => k t110 H) fun t124 H =>
            wGuard t122 false H (fun k => wBool (eqA .iface t124 (.val (.nilIface))) H true k) fun t125 H =>
            wGet (pickA t122 (.val (.bool true)) t125) H fun t126 H =>
            wGuard t126 false H (fun k => k t120 H) fun t128 H =>
            wGuard t126 false H (fun k => wBool (eqA .iface t128 (.val (.nilIface))) H true k) fun t129 H =>
            wGet (pickA t126 (.val (.bool true)) t129) H fun t130 H =>
            wGuard t130 false H (fun k => k t102 H) fun t132 H =>
            wGuard t130 false H (fun k => k t119 H) fun t133 H =>
            wGuard t130 false H (fun k => wCall E P 51 [t132, t133] H k) fun t134 H =>
            wGuard t130 false H (fun k => wGet (unA .not t134) H k) fun t135 H =>
            wGet (pickA t130 (.val (.bool true)) t135) H fun t136 H =>
            wIf t136 (
              R (.val (.bool false)) H) (
              wGet (loadN 2 t4 H) H fun t138 H =>
              wCall E P 52 [t138, t61, t64] H fun t141 H =>
              wGet (extractA t141 0) H fun t142 H =>
              wGet (extractA t141 1) H fun t143 H =>
              wGet (iaddr 1 t37 t61) H fun t146 H =>
              wGet (load1 t146 H) H fun t147 H =>
              wGet (iaddr 1 t37 t64) H fun t150 H =>
              wGet (load1 t150 H) H fun t151 H =>
              wGet (binA .eql t147 t151) H fun t152 H =>
              wIf t152 (
                wCall E P 51 [t102, t109] H fun t155 H =>
                wGuard t155 true H (fun k => k t143 H) fun t157 H =>
                wGuard t155 true H (fun k => wCall E P 53 [t157] H k) fun t158 H =>
                wGuard t155 true H (fun k => wGet (binA .eql t158 (.val (.int .i64 8))) H k) fun t159 H =>
                wGet (pickA t155 t159 (.val (.bool false))) H fun t160 H =>
                R t160 H) (
                wGet (loadN 2 t4 H) H fun t162 H =>
                wCall E P 50 [t162, t61, t142] H fun t165 H =>
                wGet (extractA t165 0) H fun t166 H =>
                wGet (extractA t165 1) H fun t167 H =>
                wGet (loadN 2 t4 H) H fun t169 H =>
                wCall E P 50 [t169, t64, t142] H fun t172 H =>
                wGet (extractA t172 0) H fun t173 H =>
                wGet (extractA t172 1) H fun t174 H =>
                wBool (eqA .iface t143 (.val (.nilIface))) H true fun t176 H =>
                wGuard t176 false H (fun k => k t167 H) fun t178 H =>
                wGuard t176 false H (fun k => wBool (eqA .iface t178 (.val (.nilIface))) H true k) fun t179 H =>
                wGet (pickA t176 (.val (.bool true)) t179) H fun t180 H =>
                wGuard t180 false H (fun k => k t174 H) fun t182 H =>
                wGuard t180 false H (fun k => wBool (eqA .iface t182 (.val (.nilIface))) H true k) fun t183 H =>
                wGet (pickA t180 (.val (.bool true)) t183) H fun t184 H =>
                wGuard t184 false H (fun k => k t166 H) fun t186 H =>
                wGuard t184 false H (fun k => wGet (lenA t186) H k) fun t187 H =>
                wGuard t184 false H (fun k => k t142 H) fun t188 H =>
                wGuard t184 false H (fun k => wGet (lenA t188) H k) fun t189 H =>
                wGuard t184 false H (fun k => wGet (binA .neq t187 t189) H k) fun t190 H =>
                wGet (pickA t184 (.val (.bool true)) t190) H fun t191 H =>
                wGuard t191 false H (fun k => k t173 H) fun t193 H =>
                wGuard t191 false H (fun k => wGet (lenA t193) H k) fun t194 H =>
                wGuard t191 false H (fun k => k t142 H) fun t195 H =>
                wGuard t191 false H (fun k => wGet (lenA t195) H k) fun t196 H =>
                wGuard t191 false H (fun k => wGet (binA .neq t194 t196) H k) fun t197 H =>
                wGet (pickA t191 (.val (.bool true)) t197) H fun t198 H =>
                wGuard t198 false H (fun k => k t142 H) fun t200 H =>
                wGuard t198 false H (fun k => wGet (lenA t200) H k) fun t201 H =>
                wGuard t198 false H (fun k => wGet (binA .eql t201 (.val (.int .i64 0))) H k) fun t202 H =>
                wGet (pickA t198 (.val (.bool true)) t202) H fun t203 H =>
                wIf t203 (
                  R (.val (.bool false)) H) (
                  wGet (lenA t142) H fun t205 H =>
                  wGet (binA .sub t205 (.val (.int .i64 1))) H fun t206 H =>
                  wGet (iaddr 1 t166 t206) H fun t209 H =>
                  wGet (load1 t209 H) H fun t210 H =>
                  wGet (iaddr 1 t173 t206) H fun t213 H =>
                  wGet (load1 t213 H) H fun t214 H =>
                  wGet (binA .neq t210 t214) H fun t215 H =>
                  wGuard t215 true H (fun k => k t166 H) fun t217 H =>
                  wGuard t215 true H (fun k => k t206 H) fun t218 H =>
                  wGuard t215 true H (fun k => wGet (sliceA 1 t217 none (some t218) H) H k) fun t219 H =>
                  wGuard t215 true H (fun k => k t173 H) fun t220 H =>
                  wGuard t215 true H (fun k => k t206 H) fun t221 H =>
                  wGuard t215 true H (fun k => wGet (sliceA 1 t220 none (some t221) H) H k) fun t222 H =>
                  wGuard t215 true H (fun k => wCall E P 51 [t219, t222] H k) fun t223 H =>
                  wGet (pickA t215 t223 (.val (.bool false))) H fun t224 H =>
                  R t224 H)))))))

/-- signalbox/signalboxkeep.few -/
def keep_few (E : Env) (P : Program) (a0 a1 : AV) (H : AH) (R : Kt) : Prop :=
  wNew 2 (AV.cells? a0) H fun t2 H =>
  wGet (faddr 0 t2) H fun t5 H =>
  wGet (load1 t5 H) H fun t6 H =>
  wGet (lenA t6) H fun t7 H =>
  wGet (binA .leq t7 a1) H fun t9 H =>
  wGuard t9 true H (fun k => wGet (faddr 1 t2) H k) fun t11 H =>
  wGuard t9 true H (fun k => wGet (load1 t11 H) H k) fun t12 H =>
  wGuard t9 true H (fun k => wGet (lenA t12) H k) fun t13 H =>
  wGuard t9 true H (fun k => wGet (binA .leq t13 (.val (.int .i64 500))) H k) fun t14 H =>
  wGet (pickA t9 t14 (.val (.bool false))) H fun t15 H =>
  wGuard t15 true H (fun k => wGet (faddr 0 t2) H k) fun t17 H =>
  wGuard t15 true H (fun k => wGet (load1 t17 H) H k) fun t18 H =>
  wGuard t15 true H (fun k => wGet (lenA t18) H k) fun t19 H =>
  wGuard t15 true H (fun k => wGet (binA .eql t19 (.val (.int .i64 0))) H k) fun t20 H =>
  wGuard t15 true H (fun k => k t20 H) fun t21 H =>
  wGuard t21 false H (fun k => wGet (faddr 0 t2) H k) fun t22 H =>
  wGuard t21 false H (fun k => wGet (load1 t22 H) H k) fun t23 H =>
  wGuard t21 false H (fun k => wGet (iaddr 1 t23 (.val (.int .i64 0))) H k) fun t24 H =>
  wGuard t21 false H (fun k => wGet (load1 t24 H) H k) fun t25 H =>
  wGuard t21 false H (fun k => wGet (lenA t25) H k) fun t26 H =>
  wGuard t21 false H (fun k => wGet (binA .leq t26 (.val (.int .i64 16))) H k) fun t27 H =>
  wGuard t15 true H (fun k => wGet (pickA t21 (.val (.bool true)) t27) H k) fun t28 H =>
  wGet (pickA t15 t28 (.val (.bool false))) H fun t29 H =>
  R t29 H

/-- signalbox/block.Blocks -/
def block_Blocks (E : Env) (P : Program) (a0 : AV) (H : AH) (R : Kt) : Prop :=
  wNew 2 (AV.cells? a0) H fun t1 H =>
  wGet (loadN 2 t1 H) H fun t6 H =>
  wCall E P 55 [t6] H fun t7 H =>
  wBool (eqA .iface t7 (.val (.nilIface))) H true fun t9 H =>
  wIf t9 (
    R (.tup [(.val (.slice none 0 0)), t7]) H) (
    wGet (loadN 2 t1 H) H fun t11 H =>
    wCall E P 56 [t11] H fun t12 H =>
    wGet (lenA t12) H fun t15 H =>
    wGet (binA .sub t15 (.val (.int .i64 1))) H fun t16 H =>
    wGet (iaddr 1 t12 t16) H fun t17 H =>
    wGet (load1 t17 H) H fun t18 H =>
    R (.tup [t18, (.val (.nilIface))]) H)

/-- signalbox/signalboxkeep.blocked -/
def keep_blocked (E : Env) (P : Program) (H : AH) (R : Kt) : Prop :=
  wNewS 1 1 (fillA (List.replicate 1 [(.val (.int .i64 0))]).flatten [(0, 1, (.val (.int .i64 1)))]) H fun t6 H =>
  wNewS 1 1 (fillA (List.replicate 1 [(.val (.int .i64 0))]).flatten [(0, 1, (.val (.int .i64 0)))]) H fun t7 H =>
  wNewS 1 1 (fillA (List.replicate 1 [(.val (.int .i64 0))]).flatten [(0, 1, (.val (.int .i64 0)))]) H fun t8 H =>
  wNewS 1 3 (fillA (List.replicate 3 [(.val (.slice none 0 0))]).flatten [(0, 1, t6), (1, 1, t7), (2, 1, t8)]) H fun t9 H =>
  wNewS 1 1 (fillA (List.replicate 1 [(.val (.int .i64 0))]).flatten [(0, 1, (.val (.int .i64 5)))]) H fun t10 H =>
  wNewS 1 1 (fillA (List.replicate 1 [(.val (.int .i64 0))]).flatten [(0, 1, (.val (.int .i64 5)))]) H fun t11 H =>
  wNewS 1 1 (fillA (List.replicate 1 [(.val (.int .i64 0))]).flatten [(0, 1, (.val (.int .i64 6)))]) H fun t12 H =>
  wNewS 1 3 (fillA (List.replicate 3 [(.val (.slice none 0 0))]).flatten [(0, 1, t10), (1, 1, t11), (2, 1, t12)]) H fun t13 H =>
  wAgg (fillA [(.val (.slice none 0 0)), (.val (.slice none 0 0))] [(0, 1, t9), (1, 1, t13)]) H fun t14 H =>
  wNew 2 (some [(.val (.slice none 0 0)), (.val (.slice none 0 0))]) H fun t1 H =>
  wPut (storeN 2 t1 t14 H) fun _u H =>
  wGet (loadN 2 t1 H) H fun t16 H =>
  wCall E P 46 [t16] H fun t17 H =>
  wGet (extractA t17 0) H fun t18 H =>
  wGet (extractA t17 1) H fun t19 H =>
  wGet (loadN 2 t1 H) H fun t21 H =>
  wCall E P 52 [t21, (.val (.int .i64 0)), (.val (.int .i64 2))] H fun t22 H =>
  wGet (extractA t22 0) H fun t23 H =>
  wGet (extractA t22 1) H fun t24 H =>
  wBool (eqA .iface t19 (.val (.nilIface))) H false fun t26 H =>
  wGuard t26 true H (fun k => k t24 H) fun t28 H =>
  wGuard t26 true H (fun k => wBool (eqA .iface t28 (.val (.nilIface))) H false k) fun t29 H =>
  wGet (pickA t26 t29 (.val (.bool false))) H fun t30 H =>
  wGuard t30 true H (fun k => k t18 H) fun t32 H =>
  wGuard t30 true H (fun k => wNewS 1 3 (fillA (List.replicate 3 [(.val (.int .i64 0))]).flatten [(0, 1, (.val (.int .i64 0))), (1, 1, (.val (.int .i64 0))), (2, 1, (.val (.int .i64 1)))]) H k) fun t33 H =>
  wGuard t30 true H (fun k => wCall E P 51 [t32, t33] H k) fun t34 H =>
  wGet (pickA t30 t34 (.val (.bool false))) H fun t35 H =>
  wGuard t35 true H (fun k => k t23 H) fun t37 H =>
  wGuard t35 true H (fun k => wNewS 1 1 (fillA (List.replicate 1 [(.val (.int .i64 0))]).flatten [(0, 1, (.val (.int .i64 0)))]) H k) fun t38 H =>
  wGuard t35 true H (fun k => wCall E P 51 [t37, t38] H k) fun t39 H =>
  wGet (pickA t35 t39 (.val (.bool false))) H fun t40 H =>
  R t40 H

/-- signalbox/signalboxkeep.pick -/
def keep_pick (E : Env) (P : Program) (a0 a1 : AV) (H : AH) (R : Kt) : Prop :=
  wGet (convA (.int .u64) a0) H fun t6 H =>
  wGet (convA (.int .u64) a1) H fun t8 H =>
  wGet (binA .rem t6 t8) H fun t9 H =>
  wGet (convA (.int .i64) t9) H fun t10 H =>
  R t10 H

/-- signalbox/block.Least -/
def block_Least (E : Env) (P : Program) (a0 : AV) (H : AH) (R : Kt) : Prop :=
  wNew 2 (AV.cells? a0) H fun t1 H =>
  wNew 2 (some [(.val (.slice none 0 0)), (.val (.slice none 0 0))]) H fun t2 H =>
  wGet (loadN 2 t1 H) H fun t13 H =>
  wCall E P 46 [t13] H fun t14 H =>
  wGet (extractA t14 0) H fun t15 H =>
  wGet (extractA t14 1) H fun t16 H =>
  wBool (eqA .iface t16 (.val (.nilIface))) H true fun t18 H =>
  wIf t18 (
    wAgg (fillA [(.val (.slice none 0 0)), (.val (.slice none 0 0))] []) H fun t19 H =>
    wPut (storeN 2 t2 t19 H) fun _u H =>
    wGet (retPack [loadN 2 t2 H, some t16]) H R) (
    wNew 2 (some [(.val (.slice none 0 0)), (.val (.slice none 0 0))]) H fun t6 H =>
    wGet (lenA t15) H fun t22 H =>
    wLoop 1 (fun I1 => I1 (.val (.int .i64 0)) H) fun I1 t23 H =>
      wGet (binA .lss t23 t22) H fun t24 H =>
      wIf t24 (
        wJoin 0 (fun J2 =>
          wGet (iaddr 1 t15 t23) H fun t26 H =>
          wGet (load1 t26 H) H fun t27 H =>
          wGet (faddr 0 t6) H fun t29 H =>
          wGet (load1 t29 H) H fun t30 H =>
          wGet (lenA t30) H fun t31 H =>
          wGet (binA .lss t27 t31) H fun t32 H =>
          wIf t32 (
            J2 H) (
            wGet (faddr 0 t1) H fun t33 H =>
            wGet (load1 t33 H) H fun t34 H =>
            wGet (iaddr 1 t34 t23) H fun t36 H =>
            wGet (load1 t36 H) H fun t37 H =>
            wGet (lenA t37) H fun t38 H =>
            wLoop 2 (fun I3 => I3 (.val (.slice none 0 0)) (.val (.int .i64 0)) H) fun I3 t9 t39 H =>
              wGet (binA .lss t39 t38) H fun t40 H =>
              wIf t40 (
                wGet (iaddr 1 t37 t39) H fun t41 H =>
                wGet (load1 t41 H) H fun t42 H =>
                wGet (iaddr 1 t15 t42) H fun t46 H =>
                wGet (load1 t46 H) H fun t47 H =>
                wNewS 1 1 (fillA (List.replicate 1 [(.val (.int .i64 0))]).flatten [(0, 1, t47)]) H fun t48 H =>
                wApp 1 8 t9 t48 H fun t49 H =>
                wGet (binA .add t39 (.val (.int .i64 1))) H fun t50 H =>
                I3 t49 t50 H) (
                wGet (faddr 0 t6) H fun t51 H =>
                wGet (load1 t51 H) H fun t52 H =>
                wGet (faddr 1 t6) H fun t56 H =>
                wGet (load1 t56 H) H fun t57 H =>
                wGet (faddr 1 t1) H fun t58 H =>
                wGet (load1 t58 H) H fun t59 H =>
                wGet (iaddr 1 t59 t23) H fun t61 H =>
                wGet (load1 t61 H) H fun t62 H =>
                wNewS 1 1 (fillA (List.replicate 1 [(.val (.slice none 0 0))]).flatten [(0, 1, t9)]) H fun t54 H =>
                (wGet (load1 t51 H) H (fun y H2 => y = t52 ∧ H2 = H)) ∧
                (wGet (load1 t56 H) H (fun y H2 => y = t57 ∧ H2 = H)) ∧
                (wGet (load1 t58 H) H (fun y H2 => y = t59 ∧ H2 = H)) ∧
                (wGet (load1 t61 H) H (fun y H2 => y = t62 ∧ H2 = H)) ∧
                wApp 1 24 t52 t54 H fun t55 H =>
                (wGet (load1 t56 H) H (fun y H2 => y = t57 ∧ H2 = H)) ∧
                (wGet (load1 t58 H) H (fun y H2 => y = t59 ∧ H2 = H)) ∧
                (wGet (load1 t61 H) H (fun y H2 => y = t62 ∧ H2 = H)) ∧
                wGet (faddr 0 t6) H fun t66 H =>
                wCall E P 57 [t62] H fun t63 H =>
                (wGet (load1 t56 H) H (fun y H2 => y = t57 ∧ H2 = H)) ∧
                wNewS 1 1 (fillA (List.replicate 1 [(.val (.slice none 0 0))]).flatten [(0, 1, t63)]) H fun t64 H =>
                (wGet (load1 t56 H) H (fun y H2 => y = t57 ∧ H2 = H)) ∧
                wApp 1 24 t57 t64 H fun t65 H =>
                wPut (store1 t66 t55 H) fun _u H =>
                wGet (faddr 1 t6) H fun t67 H =>
                wPut (store1 t67 t65 H) fun _u H =>
                J2 H))) fun H =>
          wGet (binA .add t23 (.val (.int .i64 1))) H fun t68 H =>
          I1 t68 H) (
        wGet (loadN 2 t6 H) H fun t69 H =>
        wPut (storeN 2 t2 t69 H) fun _u H =>
        wGet (retPack [loadN 2 t2 H, some (.val (.nilIface))]) H R))

/-- signalbox/block.Tell -/
def block_Tell (E : Env) (P : Program) (a0 a1 a2 : AV) (H : AH) (R : Kt) : Prop :=
  wNew 2 (AV.cells? a0) H fun t3 H =>
  wGet (loadN 2 t3 H) H fun t12 H =>
  wCall E P 55 [t12] H fun t13 H =>
  wBool (eqA .iface t13 (.val (.nilIface))) H true fun t15 H =>
  wIf t15 (
    R (.tup [(.val (.slice none 0 0)), t13]) H) (
    wGet (binA .lss a1 (.val (.int .i64 0))) H fun t18 H =>
    wGuard t18 false H (fun k => k a1 H) fun t20 H =>
    wGuard t18 false H (fun k => wGet (faddr 0 t3) H k) fun t21 H =>
    wGuard t18 false H (fun k => wGet (load1 t21 H) H k) fun t22 H =>
    wGuard t18 false H (fun k => wGet (lenA t22) H k) fun t23 H =>
    wGuard t18 false H (fun k => wGet (binA .geq t20 t23) H k) fun t24 H =>
    wGet (pickA t18 (.val (.bool true)) t24) H fun t25 H =>
    wGuard t25 false H (fun k => k a2 H) fun t27 H =>
    wGuard t25 false H (fun k => k (.fn 58 [] [t3]) H) fun t28 H =>
    wGuard t25 false H (fun k => wCall E P 59 [t27, t28] H k) fun t29 H =>
    wGet (pickA t25 (.val (.bool true)) t29) H fun t30 H =>
    wIf t30 (
      R (.tup [(.val (.slice none 0 0)), (.ifc 1 (.val (.int .i64 2)))]) H) (
      wGet (lenA a2) H fun t33 H =>
      wLoop 3 (fun I1 => I1 a1 (.val (.slice none 0 0)) (.val (.int .i64 0)) H) fun I1 t1 t9 t34 H =>
        wGet (binA .lss t34 t33) H fun t35 H =>
        wIf t35 (
          wGet (iaddr 1 a2 t34) H fun t36 H =>
          wGet (load1 t36 H) H fun t37 H =>
          wGet (faddr 1 t3) H fun t39 H =>
          wGet (load1 t39 H) H fun t40 H =>
          wGet (iaddr 1 t40 t1) H fun t42 H =>
          wGet (load1 t42 H) H fun t43 H =>
          wGet (iaddr 1 t43 t37) H fun t45 H =>
          wGet (load1 t45 H) H fun t46 H =>
          wNewS 1 1 (fillA (List.replicate 1 [(.val (.int .i64 0))]).flatten [(0, 1, t46)]) H fun t47 H =>
          wApp 1 8 t9 t47 H fun t48 H =>
          wGet (faddr 0 t3) H fun t49 H =>
          wGet (load1 t49 H) H fun t50 H =>
          wGet (iaddr 1 t50 t1) H fun t52 H =>
          wGet (load1 t52 H) H fun t53 H =>
          wGet (iaddr 1 t53 t37) H fun t55 H =>
          wGet (load1 t55 H) H fun t56 H =>
          wGet (binA .add t34 (.val (.int .i64 1))) H fun t57 H =>
          I1 t56 t48 t57 H) (
          R (.tup [t9, (.val (.nilIface))]) H)))

/-- signalbox/signalboxkeep.sameInts -/
def keep_sameInts (E : Env) (P : Program) (a0 a1 : AV) (H : AH) (R : Kt) : Prop :=
  wGet (lenA a0) H fun t7 H =>
  wGet (lenA a1) H fun t9 H =>
  wGet (binA .neq t7 t9) H fun t10 H =>
  wIf t10 (
    R (.val (.bool false)) H) (
    wLoop 1 (fun I1 => I1 (.val (.int .i64 0)) H) fun I1 t5 H =>
      wGet (lenA a0) H fun t13 H =>
      wGet (binA .lss t5 t13) H fun t14 H =>
      wIf t14 (
        wGet (iaddr 1 a0 t5) H fun t19 H =>
        wGet (load1 t19 H) H fun t20 H =>
        wGet (iaddr 1 a1 t5) H fun t23 H =>
        wGet (load1 t23 H) H fun t24 H =>
        wGet (binA .neq t20 t24) H fun t25 H =>
        wIf t25 (
          R (.val (.bool false)) H) (
          wGet (binA .add t5 (.val (.int .i64 1))) H fun t16 H =>
          I1 t16 H)) (
        R (.val (.bool true)) H))

/-- signalbox/block.Part -/
def block_Part (E : Env) (P : Program) (a0 a1 a2 : AV) (H : AH) (R : Kt) : Prop :=
  wNew 2 (AV.cells? a0) H fun t3 H =>
  wNew 1 (AV.cells? a1) H fun t4 H =>
  wNew 1 (AV.cells? a2) H fun t5 H =>
  wGet (loadN 2 t3 H) H fun t15 H =>
  wCall E P 55 [t15] H fun t16 H =>
  wBool (eqA .iface t16 (.val (.nilIface))) H true fun t18 H =>
  wIf t18 (
    R (.tup [(.val (.slice none 0 0)), t16]) H) (
    wGet (load1 t4 H) H fun t20 H =>
    wGet (binA .lss t20 (.val (.int .i64 0))) H fun t21 H =>
    wGuard t21 false H (fun k => wGet (load1 t4 H) H k) fun t23 H =>
    wGuard t21 false H (fun k => wGet (faddr 0 t3) H k) fun t24 H =>
    wGuard t21 false H (fun k => wGet (load1 t24 H) H k) fun t25 H =>
    wGuard t21 false H (fun k => wGet (lenA t25) H k) fun t26 H =>
    wGuard t21 false H (fun k => wGet (binA .geq t23 t26) H k) fun t27 H =>
    wGet (pickA t21 (.val (.bool true)) t27) H fun t28 H =>
    wGuard t28 false H (fun k => wGet (load1 t5 H) H k) fun t30 H =>
    wGuard t28 false H (fun k => wGet (binA .lss t30 (.val (.int .i64 0))) H k) fun t31 H =>
    wGet (pickA t28 (.val (.bool true)) t31) H fun t32 H =>
    wGuard t32 false H (fun k => wGet (load1 t5 H) H k) fun t34 H =>
    wGuard t32 false H (fun k => wGet (faddr 0 t3) H k) fun t35 H =>
    wGuard t32 false H (fun k => wGet (load1 t35 H) H k) fun t36 H =>
    wGuard t32 false H (fun k => wGet (lenA t36) H k) fun t37 H =>
    wGuard t32 false H (fun k => wGet (binA .geq t34 t37) H k) fun t38 H =>
    wGet (pickA t32 (.val (.bool true)) t38) H fun t39 H =>
    wIf t39 (
      R (.tup [(.val (.slice none 0 0)), (.ifc 1 (.val (.int .i64 2)))]) H) (
      wGet (loadN 2 t3 H) H fun t41 H =>
      wCall E P 56 [t41] H fun t42 H =>
      wCall E P 61 [t42, (.fn 60 [] [t4, t5])] H fun t45 H =>
      wGet (binA .lss t45 (.val (.int .i64 0))) H fun t47 H =>
      wIf t47 (
        R (.tup [(.val (.slice none 0 0)), (.ifc 1 (.val (.int .i64 8)))]) H) (
        wLoop 2 (fun I1 => I1 t45 (.val (.slice none 0 0)) H) fun I1 t10 t11 H =>
          wGet (binA .gtr t10 (.val (.int .i64 0))) H fun t50 H =>
          wIf t50 (
            wJoin 1 (fun J2 =>
              wGet (faddr 0 t3) H fun t53 H =>
              wGet (load1 t53 H) H fun t54 H =>
              wGet (load1 t4 H) H fun t55 H =>
              wGet (iaddr 1 t54 t55) H fun t56 H =>
              wGet (load1 t56 H) H fun t57 H =>
              wGet (lenA t57) H fun t58 H =>
              wLoop 2 (fun I3 => I3 t11 (.val (.int .i64 0)) H) fun I3 t11_1 t59 H =>
                wGet (binA .lss t59 t58) H fun t60 H =>
                wIf t60 (
                  wGet (faddr 0 t3) H fun t62 H =>
                  wGet (load1 t62 H) H fun t63 H =>
                  wGet (load1 t4 H) H fun t64 H =>
                  wGet (iaddr 1 t63 t64) H fun t65 H =>
                  wGet (load1 t65 H) H fun t66 H =>
                  wGet (iaddr 1 t66 t59) H fun t68 H =>
                  wGet (load1 t68 H) H fun t69 H =>
                  wGet (faddr 0 t3) H fun t70 H =>
                  wGet (load1 t70 H) H fun t71 H =>
                  wGet (load1 t5 H) H fun t72 H =>
                  wGet (iaddr 1 t71 t72) H fun t73 H =>
                  wGet (load1 t73 H) H fun t74 H =>
                  wGet (iaddr 1 t74 t59) H fun t76 H =>
                  wGet (load1 t76 H) H fun t77 H =>
                  (wGet (load1 t70 H) H (fun y H2 => y = t71 ∧ H2 = H)) ∧
                  (wGet (load1 t5 H) H (fun y H2 => y = t72 ∧ H2 = H)) ∧
                  (wGet (load1 t73 H) H (fun y H2 => y = t74 ∧ H2 = H)) ∧
                  (wGet (load1 t76 H) H (fun y H2 => y = t77 ∧ H2 = H)) ∧
                  wGet (binA .eql t10 (.val (.int .i64 1))) H fun t79 H =>
                  wGuard t79 true H (fun k => wGet (faddr 1 t3) H k) fun t81 H =>
                  wGuard t79 true H (fun k => wGet (load1 t81 H) H k) fun t82 H =>
                  wGuard t79 true H (fun k => wGet (load1 t4 H) H k) fun t83 H =>
                  wGuard t79 true H (fun k => wGet (iaddr 1 t82 t83) H k) fun t84 H =>
                  wGuard t79 true H (fun k => wGet (load1 t84 H) H k) fun t85 H =>
                  wGuard t79 true H (fun k => k t59 H) fun t86 H =>
                  wGuard t79 true H (fun k => wGet (iaddr 1 t85 t86) H k) fun t87 H =>
                  wGuard t79 true H (fun k => wGet (load1 t87 H) H k) fun t88 H =>
                  wGuard t79 true H (fun k => wGet (faddr 1 t3) H k) fun t89 H =>
                  wGuard t79 true H (fun k => wGet (load1 t89 H) H k) fun t90 H =>
                  wGuard t79 true H (fun k => wGet (load1 t5 H) H k) fun t91 H =>
                  wGuard t79 true H (fun k => wGet (iaddr 1 t90 t91) H k) fun t92 H =>
                  wGuard t79 true H (fun k => wGet (load1 t92 H) H k) fun t93 H =>
                  wGuard t79 true H (fun k => k t59 H) fun t94 H =>
                  wGuard t79 true H (fun k => wGet (iaddr 1 t93 t94) H k) fun t95 H =>
                  wGuard t79 true H (fun k => wGet (load1 t95 H) H k) fun t96 H =>
                  wGuard t79 true H (fun k => wGet (binA .neq t88 t96) H k) fun t97 H =>
                  wGet (pickA t79 t97 (.val (.bool false))) H fun t98 H =>
                  wGuard t98 false H (fun k => k t10 H) fun t100 H =>
                  wGuard t98 false H (fun k => wGet (binA .gtr t100 (.val (.int .i64 1))) H k) fun t101 H =>
                  wGuard t98 false H (fun k => k t101 H) fun t102 H =>
                  wGuard t102 true H (fun k => k t42 H) fun t103 H =>
                  wGuard t102 true H (fun k => k t10 H) fun t104 H =>
                  wGuard t102 true H (fun k => wGet (binA .sub t104 (.val (.int .i64 1))) H k) fun t105 H =>
                  wGuard t102 true H (fun k => wGet (iaddr 1 t103 t105) H k) fun t106 H =>
                  wGuard t102 true H (fun k => wGet (load1 t106 H) H k) fun t107 H =>
                  wGuard t102 true H (fun k => k t69 H) fun t108 H =>
                  wGuard t102 true H (fun k => wGet (iaddr 1 t107 t108) H k) fun t109 H =>
                  wGuard t102 true H (fun k => wGet (load1 t109 H) H k) fun t110 H =>
                  wGuard t102 true H (fun k => k t42 H) fun t111 H =>
                  wGuard t102 true H (fun k => k t10 H) fun t112 H =>
                  wGuard t102 true H (fun k => wGet (binA .sub t112 (.val (.int .i64 1))) H k) fun t113 H =>
                  wGuard t102 true H (fun k => wGet (iaddr 1 t111 t113) H k) fun t114 H =>
                  wGuard t102 true H (fun k => wGet (load1 t114 H) H k) fun t115 H =>
                  wGuard t102 true H (fun k => k t77 H) fun t116 H =>
                  wGuard t102 true H (fun k => wGet (iaddr 1 t115 t116) H k) fun t117 H =>
                  wGuard t102 true H (fun k => wGet (load1 t117 H) H k) fun t118 H =>
                  wGuard t102 true H (fun k => wGet (binA .neq t110 t118) H k) fun t119 H =>
                  wGuard t98 false H (fun k => wGet (pickA t102 t119 (.val (.bool false))) H k) fun t120 H =>
                  wGet (pickA t98 (.val (.bool true)) t120) H fun t121 H =>
                  wIf t121 (
                    wNewS 1 1 (fillA (List.replicate 1 [(.val (.int .i64 0))]).flatten [(0, 1, t59)]) H fun t124 H =>
                    wApp 1 8 t11_1 t124 H fun t125 H =>
                    wPut (store1 t4 t69 H) fun _u H =>
                    wPut (store1 t5 t77 H) fun _u H =>
                    J2 t125 H) (
                    wGet (binA .add t59 (.val (.int .i64 1))) H fun t128 H =>
                    I3 t11_1 t128 H)) (
                  J2 t11_1 H)) fun t11_2 H =>
              wGet (binA .sub t10 (.val (.int .i64 1))) H fun t52 H =>
              I1 t52 t11_2 H) (
            R (.tup [t11, (.val (.nilIface))]) H))))

/-- signalbox/api.Tell -/
def api_Tell (E : Env) (P : Program) (a0 : AV) (H : AH) (R : Kt) : Prop :=
  wBool (eqA .iface a0 (.val (.nilIface))) H false fun t5 H =>
  wIf t5 (
    R (.val (.int .i64 0)) H) (
    wNew 1 (some [(.val (.int .i64 0))]) H fun t3 H =>
    wCall E P 62 [a0, (.ifc 3 t3)] H fun t8 H =>
    wIf t8 (
      wGet (load1 t3 H) H fun t9 H =>
      R t9 H) (
      R (.val (.int .i64 (-1))) H))

/-- signalbox/block.Check -/
def block_Check (E : Env) (P : Program) (a0 : AV) (H : AH) (R : Kt) : Prop :=
  wNew 2 (AV.cells? a0) H fun t1 H =>
  wGet (faddr 0 t1) H fun t5 H =>
  wGet (load1 t5 H) H fun t6 H =>
  wGet (lenA t6) H fun t7 H =>
  wNew 1 (some [(.val (.int .i64 0))]) H fun t3 H =>
  wPut (store1 t3 t7 H) fun _u H =>
  wGet (load1 t3 H) H fun t8 H =>
  wGet (binA .lss t8 (.val (.int .i64 1))) H fun t9 H =>
  wGuard t9 false H (fun k => wGet (load1 t3 H) H k) fun t11 H =>
  wGuard t9 false H (fun k => wGet (binA .gtr t11 (.val (.int .i64 500))) H k) fun t12 H =>
  wGet (pickA t9 (.val (.bool true)) t12) H fun t13 H =>
  wGuard t13 false H (fun k => wGet (faddr 0 t1) H k) fun t15 H =>
  wGuard t13 false H (fun k => wGet (load1 t15 H) H k) fun t16 H =>
  wGuard t13 false H (fun k => wGet (iaddr 1 t16 (.val (.int .i64 0))) H k) fun t17 H =>
  wGuard t13 false H (fun k => wGet (load1 t17 H) H k) fun t18 H =>
  wGuard t13 false H (fun k => wGet (lenA t18) H k) fun t19 H =>
  wGuard t13 false H (fun k => wGet (binA .gtr t19 (.val (.int .i64 64))) H k) fun t20 H =>
  wGet (pickA t13 (.val (.bool true)) t20) H fun t21 H =>
  wIf t21 (
    R (.ifc 1 (.val (.int .i64 4))) H) (
    wGet (faddr 1 t1) H fun t23 H =>
    wGet (load1 t23 H) H fun t24 H =>
    wGet (lenA t24) H fun t25 H =>
    wGet (load1 t3 H) H fun t26 H =>
    wGet (binA .neq t25 t26) H fun t27 H =>
    wIf t27 (
      R (.ifc 1 (.val (.int .i64 3))) H) (
      wGet (faddr 0 t1) H fun t29 H =>
      wGet (load1 t29 H) H fun t30 H =>
      wGet (lenA t30) H fun t31 H =>
      wLoop 1 (fun I1 => I1 (.val (.int .i64 0)) H) fun I1 t32 H =>
        wGet (binA .lss t32 t31) H fun t33 H =>
        wIf t33 (
          wGet (faddr 0 t1) H fun t35 H =>
          wGet (load1 t35 H) H fun t36 H =>
          wGet (iaddr 1 t36 t32) H fun t38 H =>
          wGet (load1 t38 H) H fun t39 H =>
          wGet (lenA t39) H fun t40 H =>
          wGet (faddr 0 t1) H fun t41 H =>
          wGet (load1 t41 H) H fun t42 H =>
          wGet (iaddr 1 t42 (.val (.int .i64 0))) H fun t43 H =>
          wGet (load1 t43 H) H fun t44 H =>
          wGet (lenA t44) H fun t45 H =>
          wGet (binA .neq t40 t45) H fun t46 H =>
          wGuard t46 false H (fun k => wGet (faddr 1 t1) H k) fun t48 H =>
          wGuard t46 false H (fun k => wGet (load1 t48 H) H k) fun t49 H =>
          wGuard t46 false H (fun k => k t32 H) fun t50 H =>
          wGuard t46 false H (fun k => wGet (iaddr 1 t49 t50) H k) fun t51 H =>
          wGuard t46 false H (fun k => wGet (load1 t51 H) H k) fun t52 H =>
          wGuard t46 false H (fun k => wGet (lenA t52) H k) fun t53 H =>
          wGuard t46 false H (fun k => wGet (faddr 0 t1) H k) fun t54 H =>
          wGuard t46 false H (fun k => wGet (load1 t54 H) H k) fun t55 H =>
          wGuard t46 false H (fun k => wGet (iaddr 1 t55 (.val (.int .i64 0))) H k) fun t56 H =>
          wGuard t46 false H (fun k => wGet (load1 t56 H) H k) fun t57 H =>
          wGuard t46 false H (fun k => wGet (lenA t57) H k) fun t58 H =>
          wGuard t46 false H (fun k => wGet (binA .neq t53 t58) H k) fun t59 H =>
          wGet (pickA t46 (.val (.bool true)) t59) H fun t60 H =>
          wIf t60 (
            wAgg (fillA [(.val (.int .i64 0)), (.val (.int .i64 0))] [(0, 1, (.val (.int .i64 3))), (1, 1, t32)]) H fun t62 H =>
            wNew 2 (AV.cells? t62) H fun t63 H =>
            R (.ifc 2 t63) H) (
            wGet (faddr 0 t1) H fun t65 H =>
            wGet (load1 t65 H) H fun t66 H =>
            wGet (iaddr 1 t66 t32) H fun t68 H =>
            wGet (load1 t68 H) H fun t69 H =>
            wCall E P 59 [t69, (.fn 63 [] [t3])] H fun t71 H =>
            wIf t71 (
              wAgg (fillA [(.val (.int .i64 0)), (.val (.int .i64 0))] [(0, 1, (.val (.int .i64 2))), (1, 1, t32)]) H fun t73 H =>
              wNew 2 (AV.cells? t73) H fun t74 H =>
              R (.ifc 2 t74) H) (
              wGet (binA .add t32 (.val (.int .i64 1))) H fun t76 H =>
              I1 t76 H))) (
          R (.val (.nilIface)) H)))

/-- signalbox/block.rounds -/
def block_rounds (E : Env) (P : Program) (a0 : AV) (H : AH) (R : Kt) : Prop :=
  wNew 2 (AV.cells? a0) H fun t1 H =>
  wGet (faddr 0 t1) H fun t12 H =>
  wGet (load1 t12 H) H fun t13 H =>
  wGet (lenA t13) H fun t14 H =>
  wMake 1 8 [(.val (.int .i64 0))] t14 t14 H fun t16 H =>
  wNewS 1 1 (fillA (List.replicate 1 [(.val (.slice none 0 0))]).flatten [(0, 1, t16)]) H fun t17 H =>
  wLoop 1 (fun I1 => I1 t17 H) fun I1 t4 H =>
    wGet (lenA t4) H fun t20 H =>
    wGet (binA .sub t20 (.val (.int .i64 1))) H fun t21 H =>
    wGet (iaddr 1 t4 t21) H fun t22 H =>
    wGet (load1 t22 H) H fun t23 H =>
    wLoop 2 (fun I2 => I2 (.val (.slice none 0 0)) (.val (.int .i64 0)) H) fun I2 t6 t25 H =>
      wGet (binA .lss t25 t14) H fun t26 H =>
      wIf t26 (
        wGet (iaddr 1 t23 t25) H fun t30 H =>
        wGet (load1 t30 H) H fun t31 H =>
        wNewS 1 1 (fillA (List.replicate 1 [(.val (.int .i64 0))]).flatten [(0, 1, t31)]) H fun t32 H =>
        wGet (faddr 0 t1) H fun t33 H =>
        wGet (load1 t33 H) H fun t34 H =>
        wGet (iaddr 1 t34 t25) H fun t36 H =>
        wGet (load1 t36 H) H fun t37 H =>
        wGet (lenA t37) H fun t38 H =>
        wLoop 2 (fun I3 => I3 t32 (.val (.int .i64 0)) H) fun I3 t8 t39 H =>
          wGet (binA .lss t39 t38) H fun t40 H =>
          wIf t40 (
            wGet (iaddr 1 t37 t39) H fun t42 H =>
            wGet (load1 t42 H) H fun t43 H =>
            wGet (faddr 1 t1) H fun t45 H =>
            wGet (load1 t45 H) H fun t46 H =>
            wGet (iaddr 1 t46 t25) H fun t48 H =>
            wGet (load1 t48 H) H fun t49 H =>
            wGet (iaddr 1 t49 t39) H fun t51 H =>
            wGet (load1 t51 H) H fun t52 H =>
            wGet (iaddr 1 t23 t43) H fun t55 H =>
            wGet (load1 t55 H) H fun t56 H =>
            wNewS 1 2 (fillA (List.replicate 2 [(.val (.int .i64 0))]).flatten [(0, 1, t52), (1, 1, t56)]) H fun t57 H =>
            wApp 1 8 t8 t57 H fun t58 H =>
            wGet (binA .add t39 (.val (.int .i64 1))) H fun t59 H =>
            I3 t58 t59 H) (
            wNewS 1 1 (fillA (List.replicate 1 [(.val (.slice none 0 0))]).flatten [(0, 1, t8)]) H fun t62 H =>
            wApp 1 24 t6 t62 H fun t63 H =>
            wGet (binA .add t25 (.val (.int .i64 1))) H fun t64 H =>
            I2 t63 t64 H)) (
        wCall E P 64 [t6] H fun t66 H =>
        wCall E P 65 [t66, t23] H fun t69 H =>
        wIf t69 (
          R t4 H) (
          wNewS 1 1 (fillA (List.replicate 1 [(.val (.slice none 0 0))]).flatten [(0, 1, t66)]) H fun t73 H =>
          wApp 1 24 t4 t73 H fun t74 H =>
          I1 t74 H))

/-- slices.Clone[[]int,int] -/
def slices_Clone_Lint_int (E : Env) (P : Program) (a0 : AV) (H : AH) (R : Kt) : Prop :=
  wBool (eqA .slice a0 (.val (.slice none 0 0))) H false fun t4 H =>
  wIf t4 (
    R (.val (.slice none 0 0)) H) (
    wNewS 1 0 (fillA (List.replicate 0 [(.val (.int .i64 0))]).flatten []) H fun t5 H =>
    wApp 1 8 t5 a0 H fun t7 H =>
    R t7 H)

/-- slices.ContainsFunc[[]int,int] -/
def slices_ContainsFunc_Lint_int (E : Env) (P : Program) (a0 a1 : AV) (H : AH) (R : Kt) : Prop :=
  wCall E P 66 [a0, a1] H fun t7 H =>
  wGet (binA .geq t7 (.val (.int .i64 0))) H fun t8 H =>
  R t8 H

/-- signalbox/block.Tell$1 -/
def block_Tell_c1 (E : Env) (P : Program) (a0 a1 : AV) (H : AH) (R : Kt) : Prop :=
  wGet (binA .lss a0 (.val (.int .i64 0))) H fun t5 H =>
  wGuard t5 false H (fun k => k a0 H) fun t7 H =>
  wGuard t5 false H (fun k => wGet (faddr 0 a1) H k) fun t8 H =>
  wGuard t5 false H (fun k => wGet (load1 t8 H) H k) fun t9 H =>
  wGuard t5 false H (fun k => wGet (iaddr 1 t9 (.val (.int .i64 0))) H k) fun t10 H =>
  wGuard t5 false H (fun k => wGet (load1 t10 H) H k) fun t11 H =>
  wGuard t5 false H (fun k => wGet (lenA t11) H k) fun t12 H =>
  wGuard t5 false H (fun k => wGet (binA .geq t7 t12) H k) fun t13 H =>
  wGet (pickA t5 (.val (.bool true)) t13) H fun t14 H =>
  R t14 H

/-- slices.IndexFunc[[][]int,[]int] -/
def slices_IndexFunc_LLint_Lint (E : Env) (P : Program) (a0 a1 : AV) (H : AH) (R : Kt) : Prop :=
  wGet (lenA a0) H fun t7 H =>
  wLoop 1 (fun I1 => I1 (.val (.int .i64 0)) H) fun I1 t8 H =>
    wGet (binA .lss t8 t7) H fun t9 H =>
    wIf t9 (
      wGet (iaddr 1 a0 t8) H fun t14 H =>
      wGet (load1 t14 H) H fun t15 H =>
      wCallV E P a1 [t15] H fun t16 H =>
      wIf t16 (
        R t8 H) (
        wGet (binA .add t8 (.val (.int .i64 1))) H fun t18 H =>
        I1 t18 H)) (
      R (.val (.int .i64 (-1))) H)

/-- signalbox/block.Part$1 -/
def block_Part_c1 (E : Env) (P : Program) (a0 a1 a2 : AV) (H : AH) (R : Kt) : Prop :=
  wGet (load1 a1 H) H fun t6 H =>
  wGet (iaddr 1 a0 t6) H fun t7 H =>
  wGet (load1 t7 H) H fun t8 H =>
  wGet (load1 a2 H) H fun t10 H =>
  wGet (iaddr 1 a0 t10) H fun t11 H =>
  wGet (load1 t11 H) H fun t12 H =>
  wGet (binA .neq t8 t12) H fun t13 H =>
  R t13 H

/-- errors.As -/
def errors_As (E : Env) (P : Program) (a0 a1 : AV) (H : AH) (R : Kt) : Prop :=
  wBool (eqA .iface a0 (.val (.nilIface))) H false fun t9 H =>
  wIf t9 (
    R (.val (.bool false)) H) (
    wJoin 0 (fun J1 =>
      wBool (eqA .iface a1 (.val (.nilIface))) H false fun t11 H =>
      wIf t11 (
        False) (
        J1 H)) fun H =>
      wCall E P 67 [a1] H fun t14 H =>
      wNew 3 (some [(.val (.pointer none)), (.val (.pointer none)), (.val (.int .u64 0))]) H fun t5 H =>
      wPut (storeN 3 t5 t14 H) fun _u H =>
      wGet (loadN 3 t5 H) H fun t15 H =>
      wCall E P 68 [t15] H fun t16 H =>
      wJoin 0 (fun J2 =>
        wInv E P t16 "Kind" [] H fun t18 H =>
        wGet (binA .neq t18 (.val (.int .u8 22))) H fun t19 H =>
        wGuard t19 false H (fun k => wGet (loadN 3 t5 H) H k) fun t21 H =>
        wGuard t19 false H (fun k => wCall E P 69 [t21] H k) fun t22 H =>
        wGet (pickA t19 (.val (.bool true)) t22) H fun t23 H =>
        wIf t23 (
          False) (
          J2 H)) fun H =>
        wInv E P t16 "Elem" [] H fun t26 H =>
        wJoin 0 (fun J3 =>
          wInv E P t26 "Kind" [] H fun t28 H =>
          wGet (binA .neq t28 (.val (.int .u8 20))) H fun t29 H =>
          wGuard t29 true H (fun k => k t26 H) fun t31 H =>
          wGuard t29 true H (fun k => wGet (load1 (gptr E 4) H) H k) fun t32 H =>
          wGuard t29 true H (fun k => wInv E P t31 "Implements" [t32] H k) fun t33 H =>
          wGuard t29 true H (fun k => wGet (unA .not t33) H k) fun t34 H =>
          wGet (pickA t29 t34 (.val (.bool false))) H fun t35 H =>
          wIf t35 (
            False) (
            J3 H)) fun H =>
          wGet (loadN 3 t5 H) H fun t39 H =>
          wCall E P 70 [a0, a1, t39, t26] H fun t41 H =>
          R t41 H)

/-- signalbox/block.Check$1 -/
def block_Check_c1 (E : Env) (P : Program) (a0 a1 : AV) (H : AH) (R : Kt) : Prop :=
  wGet (binA .lss a0 (.val (.int .i64 0))) H fun t5 H =>
  wGuard t5 false H (fun k => k a0 H) fun t7 H =>
  wGuard t5 false H (fun k => wGet (load1 a1 H) H k) fun t8 H =>
  wGuard t5 false H (fun k => wGet (binA .geq t7 t8) H k) fun t9 H =>
  wGet (pickA t5 (.val (.bool true)) t9) H fun t10 H =>
  R t10 H

/-- signalbox/block.number -/
def block_number (E : Env) (P : Program) (a0 : AV) (H : AH) (R : Kt) : Prop :=
  wGet (lenA a0) H fun t9 H =>
  wLoop 3 (fun I1 => I1 (.val (.slice none 0 0)) (.val (.slice none 0 0)) (.val (.int .i64 0)) H) fun I1 t3 t4 t10 H =>
    wGet (binA .lss t10 t9) H fun t11 H =>
    wIf t11 (
      wGet (iaddr 1 a0 t10) H fun t12 H =>
      wGet (load1 t12 H) H fun t13 H =>
      wNew 1 (some [(.val (.slice none 0 0))]) H fun t6 H =>
      wPut (store1 t6 t13 H) fun _u H =>
      wCall E P 61 [t3, (.fn 71 [] [t6])] H fun t16 H =>
      wJoin 2 (fun J2 =>
        wGet (binA .lss t16 (.val (.int .i64 0))) H fun t18 H =>
        wIf t18 (
          wGet (lenA t3) H fun t20 H =>
          wGet (load1 t6 H) H fun t22 H =>
          wNewS 1 1 (fillA (List.replicate 1 [(.val (.slice none 0 0))]).flatten [(0, 1, t22)]) H fun t23 H =>
          wApp 1 24 t3 t23 H fun t24 H =>
          J2 t24 t20 H) (
          J2 t3 t16 H)) fun t3_1 t7 H =>
        wNewS 1 1 (fillA (List.replicate 1 [(.val (.int .i64 0))]).flatten [(0, 1, t7)]) H fun t27 H =>
        wApp 1 8 t4 t27 H fun t28 H =>
        wGet (binA .add t10 (.val (.int .i64 1))) H fun t29 H =>
        I1 t3_1 t28 t29 H) (
      R t4 H)

/-- slices.Equal[[]int,int] -/
def slices_Equal_Lint_int (E : Env) (P : Program) (a0 a1 : AV) (H : AH) (R : Kt) : Prop :=
  wGet (lenA a0) H fun t7 H =>
  wGet (lenA a1) H fun t9 H =>
  wGet (binA .neq t7 t9) H fun t10 H =>
  wIf t10 (
    R (.val (.bool false)) H) (
    wGet (lenA a0) H fun t12 H =>
    wLoop 1 (fun I1 => I1 (.val (.int .i64 0)) H) fun I1 t13 H =>
      wGet (binA .lss t13 t12) H fun t14 H =>
      wIf t14 (
        wGet (iaddr 1 a0 t13) H fun t18 H =>
        wGet (load1 t18 H) H fun t19 H =>
        wGet (iaddr 1 a1 t13) H fun t22 H =>
        wGet (load1 t22 H) H fun t23 H =>
        wGet (binA .neq t19 t23) H fun t24 H =>
        wIf t24 (
          R (.val (.bool false)) H) (
          wGet (binA .add t13 (.val (.int .i64 1))) H fun t25 H =>
          I1 t25 H)) (
        R (.val (.bool true)) H))

/-- slices.IndexFunc[[]int,int] -/
def slices_IndexFunc_Lint_int (E : Env) (P : Program) (a0 a1 : AV) (H : AH) (R : Kt) : Prop :=
  wGet (lenA a0) H fun t7 H =>
  wLoop 1 (fun I1 => I1 (.val (.int .i64 0)) H) fun I1 t8 H =>
    wGet (binA .lss t8 t7) H fun t9 H =>
    wIf t9 (
      wGet (iaddr 1 a0 t8) H fun t14 H =>
      wGet (load1 t14 H) H fun t15 H =>
      wCallV E P a1 [t15] H fun t16 H =>
      wIf t16 (
        R t8 H) (
        wGet (binA .add t8 (.val (.int .i64 1))) H fun t18 H =>
        I1 t18 H)) (
      R (.val (.int .i64 (-1))) H)

/-- errors.as -/
def errors_as (E : Env) (P : Program) (a0 a1 a2 a3 : AV) (H : AH) (R : Kt) : Prop :=
  wNew 3 (AV.cells? a2) H fun t6 H =>
  wLoop 1 (fun I1 => I1 a0 H) fun I1 t0 H =>
    wCall E P 72 [t0] H fun t17 H =>
    wInv E P t17 "AssignableTo" [a3] H fun t19 H =>
    wIf t19 (
      wGet (loadN 3 t6 H) H fun t20 H =>
      wCall E P 73 [t20] H fun t21 H =>
      wCall E P 67 [t0] H fun t23 H =>
      wCall E P 74 [t21, t23] H fun t24 H =>
      R (.val (.bool true)) H) (
      wAsI E P 5 t0 H fun t27 H =>
      wGet (extractA t27 0) H fun t28 H =>
      wGet (extractA t27 1) H fun t29 H =>
      wGuard t29 true H (fun k => k t28 H) fun t32 H =>
      wGuard t29 true H (fun k => k a1 H) fun t33 H =>
      wGuard t29 true H (fun k => wInv E P t32 "As" [t33] H k) fun t34 H =>
      wGet (pickA t29 t34 (.val (.bool false))) H fun t35 H =>
      wIf t35 (
        R (.val (.bool true)) H) (
        wAsI E P 6 t0 H fun t37 H =>
        wGet (extractA t37 1) H fun t38 H =>
        wGet (extractA t37 0) H fun t39 H =>
        wIf t38 (
          wInv E P t39 "Unwrap" [] H fun t41 H =>
          wBool (eqA .iface t41 (.val (.nilIface))) H false fun t43 H =>
          wIf t43 (
            R (.val (.bool false)) H) (
            I1 t41 H)) (
          wAsI E P 7 t0 H fun t44 H =>
          wGet (extractA t44 1) H fun t45 H =>
          wGet (extractA t44 0) H fun t46 H =>
          wIf t45 (
            wInv E P t46 "Unwrap" [] H fun t48 H =>
            wGet (lenA t48) H fun t49 H =>
            wLoop 1 (fun I2 => I2 (.val (.int .i64 0)) H) fun I2 t50 H =>
              wGet (binA .lss t50 t49) H fun t51 H =>
              wIf t51 (
                wJoin 0 (fun J3 =>
                  wGet (iaddr 1 t48 t50) H fun t52 H =>
                  wGet (load1 t52 H) H fun t53 H =>
                  wBool (eqA .iface t53 (.val (.nilIface))) H false fun t55 H =>
                  wIf t55 (
                    J3 H) (
                    wGet (loadN 3 t6 H) H fun t58 H =>
                    wCall E P 70 [t53, a1, t58, a3] H fun t60 H =>
                    wIf t60 (
                      R (.val (.bool true)) H) (
                      J3 H))) fun H =>
                  wGet (binA .add t50 (.val (.int .i64 1))) H fun t61 H =>
                  I2 t61 H) (
                R (.val (.bool false)) H)) (
            R (.val (.bool false)) H))))

/-- signalbox/block.number$1 -/
def block_number_c1 (E : Env) (P : Program) (a0 a1 : AV) (H : AH) (R : Kt) : Prop :=
  wGet (load1 a1 H) H fun t5 H =>
  wCall E P 65 [a0, t5] H fun t6 H =>
  R t6 H

/-- (*signalbox/api.At).Unwrap -/
def papi_At_Unwrap (E : Env) (P : Program) (a0 : AV) (H : AH) (R : Kt) : Prop :=
  wGet (nilA a0) H fun t4 H =>
  wGet (faddr 0 t4) H fun t5 H =>
  wGet (load1 t5 H) H fun t6 H =>
  R (.ifc 1 t6) H

end Go.Sc.F
namespace Go.Sc
open Go
set_option linter.unusedSimpArgs false
set_option linter.unusedVariables false

def LI (l : List Int) : AV := Lm (fun z => Z z) l
def LLI (l : List (List Int)) : AV := Lm LI l
theorem LI_closed (l : List Int) : (LI l).closed := by simp [LI, Lm, AV.closed, closed_Z]
theorem LLI_closed (l : List (List Int)) : (LLI l).closed := by simp only [LLI, Lm, AV.closed]; exact closed_map LI_closed l
theorem LI_scalar (l : List Int) : (LI l).scalar = true := rfl
theorem mapZ_get {l : List Int} {i : Nat} (h : i < l.length) : (l.map fun z => Z z)[i]? = some (Z (l.getD i 0)) := by
  simp [List.getD, List.getElem?_eq_getElem h]
theorem mapL_get {l : List (List Int)} {i : Nat} (h : i < l.length) : (l.map LI)[i]? = some (LI (l.getD i [])) := by
  simp [List.getD, List.getElem?_eq_getElem h]
def idxO : Option Nat → Int
  | some i => i
  | none => -1

section
variable {E : Env} {P : Program}
theorem ACalls.slN1 {k : Nat} {cs : List AV} {len : Nat} {H : AH} {R : Kt} (h0 : len = 0 → ACalls E P k [nilS] H R) (h1 : ACalls E P k [.slF cs 0 len] H R) : ACalls E P k [.slN cs len] H R := fun c vs hH hv => by
  obtain ⟨v, rfl, hr⟩ := hv.one'
  simp only [VRel] at hr
  rcases hr with ⟨rfl, hl⟩ | ⟨p, cap, rfl, hl, hr⟩
  · exact h0 hl c _ hH (.one (by simp only [VRel]))
  · refine h1 c _ hH (.one ?_)
    simp only [VRel]
    exact ⟨p, cap, rfl, hl, hr.imp id fun ⟨b, o, hp, hc⟩ => ⟨b, o, by simpa using hp, hc⟩⟩

theorem Equal_spec (hB : Body2 E P 65 F.slices_Equal_Lint_int) (l l' : List Int) (hl : l.length < 4611686018427387904) : FX E P 65 [LI l, LI l'] (Bo (decide (l = l'))) := by
  refine FX.of' (by simp [AV.closedL, LI_closed]) (by simp [AV.closed]) fun n R hR => hB _ _ _ _ ?_
  unfold F.slices_Equal_Lint_int LI
  simp only [Y0, Y1, Y2, Y3, Y4, Y5, Y6, Y7, Y8, Y9, Ya, Yb, Yc, Yd, Ye, Yf, Yg, Yh, Yi, Yj, Yk, Yl, Ym, Yn, Yo, Yp, Yq, Yr, Ys, Yt, Yu, Yv, Yw, Yx, Yy, Yz, Y10, Y11, Y12, Y13, Y14, Y15, Y16, Y17, Y18, Y19, Y1a, Y1b, Y1c, Y1d, Y1e, Y1f, Y1g, Y1h, Y1i, Y1j, Y1k, Y1l, AV.cells?, Y1n, Y1o, Y1p, Y1q, Y1r, Y1s, Y1t, Nat.reduceAdd, Nat.reduceMul, Y1w, Y1x, Y1y, Y1z, Y20, Y21, Y22, Y23, Y24, Y25, Y26, Y27, Y28, Y29, Y2a, Y2b]
  by_cases hn : l.length = l'.length
  case neg =>
    simp only [Y0, Y1, Y2, Y3, Y4, Y5, Y6, Y7, Y8, Y9, Ya, Yb, Yc, Yd, Ye, Yf, Yg, Yh, Yi, Yj, Yk, Yl, Ym, Yn, Yo, Yp, Yq, Yr, Ys, Yt, Yu, Yv, Yw, Yx, Yy, Yz, Y10, Y11, Y12, Y13, Y14, Y15, Y16, Y17, Y18, Y19, Y1a, Y1b, Y1c, Y1d, Y1e, Y1f, Y1g, Y1h, Y1i, Y1j, Y1k, Y1l, AV.cells?, Y1n, Y1o, Y1p, Y1q, Y1r, Y1s, Y1t, Nat.reduceAdd, Nat.reduceMul, Y1w, Y1x, Y1y, Y1z, Y20, Y21, Y22, Y23, Y24, Y25, Y26, Y27, Y28, Y29, Y2a, Y2b, decide_eq_false (show ¬ ((l.length : Int) = l'.length) by omega)]
    exact hR _ _ (by rw [decide_eq_false (fun e => hn (by rw [e]))])
  simp only [Y0, Y1, Y2, Y3, Y4, Y5, Y6, Y7, Y8, Y9, Ya, Yb, Yc, Yd, Ye, Yf, Yg, Yh, Yi, Yj, Yk, Yl, Ym, Yn, Yo, Yp, Yq, Yr, Ys, Yt, Yu, Yv, Yw, Yx, Yy, Yz, Y10, Y11, Y12, Y13, Y14, Y15, Y16, Y17, Y18, Y19, Y1a, Y1b, Y1c, Y1d, Y1e, Y1f, Y1g, Y1h, Y1i, Y1j, Y1k, Y1l, AV.cells?, Y1n, Y1o, Y1p, Y1q, Y1r, Y1s, Y1t, Nat.reduceAdd, Nat.reduceMul, Y1w, Y1x, Y1y, Y1z, Y20, Y21, Y22, Y23, Y24, Y25, Y26, Y27, Y28, Y29, Y2a, Y2b, decide_eq_true (show ((l.length : Int) = l'.length) by omega)]
  refine wLoop.one (fun m i H => ∃ j : Nat, i = Z j ∧ j ≤ l.length ∧ m = l.length - j ∧ ∀ k, k < j → l[k]? = l'[k]?) l.length (gh1.mk ⟨0, rfl, by omega, rfl, by simp⟩) ?_
  rintro m i H ⟨j, rfl, hj, rfl, hp⟩
  by_cases hlt : j < l.length
  case neg =>
    have : j = l.length := by omega
    subst this
    simp only [Y0, Y1, Y2, Y3, Y4, Y5, Y6, Y7, Y8, Y9, Ya, Yb, Yc, Yd, Ye, Yf, Yg, Yh, Yi, Yj, Yk, Yl, Ym, Yn, Yo, Yp, Yq, Yr, Ys, Yt, Yu, Yv, Yw, Yx, Yy, Yz, Y10, Y11, Y12, Y13, Y14, Y15, Y16, Y17, Y18, Y19, Y1a, Y1b, Y1c, Y1d, Y1e, Y1f, Y1g, Y1h, Y1i, Y1j, Y1k, Y1l, AV.cells?, Y1n, Y1o, Y1p, Y1q, Y1r, Y1s, Y1t, Nat.reduceAdd, Nat.reduceMul, Y1w, Y1x, Y1y, Y1z, Y20, Y21, Y22, Y23, Y24, Y25, Y26, Y27, Y28, Y29, Y2a, Y2b, Int.lt_irrefl]
    refine hR _ _ ?_
    rw [decide_eq_true]
    refine List.ext_getElem? fun k => ?_
    by_cases hk : k < l.length
    · exact hp k hk
    · rw [List.getElem?_eq_none (by omega), List.getElem?_eq_none (by omega)]
  simp only [Y0, Y1, Y2, Y3, Y4, Y5, Y6, Y7, Y8, Y9, Ya, Yb, Yc, Yd, Ye, Yf, Yg, Yh, Yi, Yj, Yk, Yl, Ym, Yn, Yo, Yp, Yq, Yr, Ys, Yt, Yu, Yv, Yw, Yx, Yy, Yz, Y10, Y11, Y12, Y13, Y14, Y15, Y16, Y17, Y18, Y19, Y1a, Y1b, Y1c, Y1d, Y1e, Y1f, Y1g, Y1h, Y1i, Y1j, Y1k, Y1l, AV.cells?, Y1n, Y1o, Y1p, Y1q, Y1r, Y1s, Y1t, Nat.reduceAdd, Nat.reduceMul, Y1w, Y1x, Y1y, Y1z, Y20, Y21, Y22, Y23, Y24, Y25, Y26, Y27, Y28, Y29, Y2a, Y2b, decide_eq_true (show (j : Int) < (l.length : Int) by omega)]
  rw [iaddr_Nn hlt, iaddr_Nn (show j < l'.length by omega)]
  simp only [Y0, Y1, Y2, Y3, Y4, Y5, Y6, Y7, Y8, Y9, Ya, Yb, Yc, Yd, Ye, Yf, Yg, Yh, Yi, Yj, Yk, Yl, Ym, Yn, Yo, Yp, Yq, Yr, Ys, Yt, Yu, Yv, Yw, Yx, Yy, Yz, Y10, Y11, Y12, Y13, Y14, Y15, Y16, Y17, Y18, Y19, Y1a, Y1b, Y1c, Y1d, Y1e, Y1f, Y1g, Y1h, Y1i, Y1j, Y1k, Y1l, AV.cells?, Y1n, Y1o, Y1p, Y1q, Y1r, Y1s, Y1t, Nat.reduceAdd, Nat.reduceMul, Y1w, Y1x, Y1y, Y1z, Y20, Y21, Y22, Y23, Y24, Y25, Y26, Y27, Y28, Y29, Y2a, Y2b, mapZ_get hlt, mapZ_get (show j < l'.length by omega)]
  have e1 : l[j]? = some (l.getD j 0) := by simp [List.getD, List.getElem?_eq_getElem hlt]
  have e2 : l'[j]? = some (l'.getD j 0) := by simp [List.getD, List.getElem?_eq_getElem (show j < l'.length by omega)]
  by_cases he : l.getD j 0 = l'.getD j 0
  · simp only [Y0, Y1, Y2, Y3, Y4, Y5, Y6, Y7, Y8, Y9, Ya, Yb, Yc, Yd, Ye, Yf, Yg, Yh, Yi, Yj, Yk, Yl, Ym, Yn, Yo, Yp, Yq, Yr, Ys, Yt, Yu, Yv, Yw, Yx, Yy, Yz, Y10, Y11, Y12, Y13, Y14, Y15, Y16, Y17, Y18, Y19, Y1a, Y1b, Y1c, Y1d, Y1e, Y1f, Y1g, Y1h, Y1i, Y1j, Y1k, Y1l, AV.cells?, Y1n, Y1o, Y1p, Y1q, Y1r, Y1s, Y1t, Nat.reduceAdd, Nat.reduceMul, Y1w, Y1x, Y1y, Y1z, Y20, Y21, Y22, Y23, Y24, Y25, Y26, Y27, Y28, Y29, Y2a, Y2b, decide_eq_true he]
    rw [binA_succ (by omega)]
    simp only [Y0, Y1, Y2, Y3, Y4, Y5, Y6, Y7, Y8, Y9, Ya, Yb, Yc, Yd, Ye, Yf, Yg, Yh, Yi, Yj, Yk, Yl, Ym, Yn, Yo, Yp, Yq, Yr, Ys, Yt, Yu, Yv, Yw, Yx, Yy, Yz, Y10, Y11, Y12, Y13, Y14, Y15, Y16, Y17, Y18, Y19, Y1a, Y1b, Y1c, Y1d, Y1e, Y1f, Y1g, Y1h, Y1i, Y1j, Y1k, Y1l, AV.cells?, Y1n, Y1o, Y1p, Y1q, Y1r, Y1s, Y1t, Nat.reduceAdd, Nat.reduceMul, Y1w, Y1x, Y1y, Y1z, Y20, Y21, Y22, Y23, Y24, Y25, Y26, Y27, Y28, Y29, Y2a, Y2b]
    refine back1.mk (l.length - (j + 1)) (by omega) ⟨j + 1, rfl, by omega, rfl, fun k hk => ?_⟩
    by_cases hkj : k = j
    · subst hkj; rw [e1, e2, he]
    · exact hp k (by omega)
  · simp only [Y0, Y1, Y2, Y3, Y4, Y5, Y6, Y7, Y8, Y9, Ya, Yb, Yc, Yd, Ye, Yf, Yg, Yh, Yi, Yj, Yk, Yl, Ym, Yn, Yo, Yp, Yq, Yr, Ys, Yt, Yu, Yv, Yw, Yx, Yy, Yz, Y10, Y11, Y12, Y13, Y14, Y15, Y16, Y17, Y18, Y19, Y1a, Y1b, Y1c, Y1d, Y1e, Y1f, Y1g, Y1h, Y1i, Y1j, Y1k, Y1l, AV.cells?, Y1n, Y1o, Y1p, Y1q, Y1r, Y1s, Y1t, Nat.reduceAdd, Nat.reduceMul, Y1w, Y1x, Y1y, Y1z, Y20, Y21, Y22, Y23, Y24, Y25, Y26, Y27, Y28, Y29, Y2a, Y2b, decide_eq_false he]
    refine hR _ _ ?_
    rw [decide_eq_false]
    rintro rfl
    exact he rfl

/-- the first element of which so much holds -/
theorem IndexFunc_any {α : Type} {f : α → AV} {G : Env → Program → AV → AV → AH → Kt → Prop} {kk : Nat} (hG : G = F.slices_IndexFunc_Lint_int ∨ G = F.slices_IndexFunc_LLint_Lint) (hB : Body2 E P kk G) {k : Nat} {cs : List AV} {p : α → Bool} (hf : ∀ a, (f a).closed) (l : List α) (hl : l.length < 4611686018427387904) (hcs : AV.closedL cs)
    (hp : ∀ a ∈ l, FX E P k ([f a] ++ cs) (Bo (p a))) : FX E P kk [Lm f l, .fn k [] cs] (Z (idxO (l.findIdx? p))) := by
  refine FX.of' (by simp only [AV.closedL, Lm, AV.closed, and_true, true_and]; exact ⟨closed_map hf l, hcs⟩) (by simp [AV.closed]) fun n R hR => hB _ _ _ _ ?_
  have main : wLoop 1 (fun I1 => I1 (Z 0) ⟨[], n⟩) fun I1 t8 H =>
      wGet (binA .lss t8 (Z l.length)) H fun t9 H =>
      wIf t9 (
        wGet (iaddr 1 (Lm f l) t8) H fun t14 H =>
        wGet (load1 t14 H) H fun t15 H =>
        wCallV E P (.fn k [] cs) [t15] H fun t16 H =>
        wIf t16 (
          R t8 H) (
          wGet (binA .add t8 (.val (.int .i64 1))) H fun t18 H =>
          I1 t18 H)) (
        R (.val (.int .i64 (-1))) H) := by
    refine wLoop.one (fun m i H => ∃ pre rest, l = pre ++ rest ∧ i = Z pre.length ∧ m = rest.length ∧ ∀ a ∈ pre, p a = false) l.length (gh1.mk ⟨[], l, rfl, rfl, rfl, by simp⟩) ?_
    rintro m i H ⟨pre, rest, rfl, rfl, rfl, hpre⟩
    cases rest with
    | nil =>
      simp only [Y0, Y1, Y2, Y3, Y4, Y5, Y6, Y7, Y8, Y9, Ya, Yb, Yc, Yd, Ye, Yf, Yg, Yh, Yi, Yj, Yk, Yl, Ym, Yn, Yo, Yp, Yq, Yr, Ys, Yt, Yu, Yv, Yw, Yx, Yy, Yz, Y10, Y11, Y12, Y13, Y14, Y15, Y16, Y17, Y18, Y19, Y1a, Y1b, Y1c, Y1d, Y1e, Y1f, Y1g, Y1h, Y1i, Y1j, Y1k, Y1l, AV.cells?, Y1n, Y1o, Y1p, Y1q, Y1r, Y1s, Y1t, Nat.reduceAdd, Nat.reduceMul, Y1w, Y1x, Y1y, Y1z, Y20, Y21, Y22, Y23, Y24, Y25, Y26, Y27, Y28, Y29, Y2a, Y2b, List.append_nil, Int.lt_irrefl]
      refine hR _ _ ?_
      rw [List.append_nil, List.findIdx?_eq_none_iff.2 hpre]
      rfl
    | cons x rest =>
      simp only [Y0, Y1, Y2, Y3, Y4, Y5, Y6, Y7, Y8, Y9, Ya, Yb, Yc, Yd, Ye, Yf, Yg, Yh, Yi, Yj, Yk, Yl, Ym, Yn, Yo, Yp, Yq, Yr, Ys, Yt, Yu, Yv, Yw, Yx, Yy, Yz, Y10, Y11, Y12, Y13, Y14, Y15, Y16, Y17, Y18, Y19, Y1a, Y1b, Y1c, Y1d, Y1e, Y1f, Y1g, Y1h, Y1i, Y1j, Y1k, Y1l, AV.cells?, Y1n, Y1o, Y1p, Y1q, Y1r, Y1s, Y1t, Nat.reduceAdd, Nat.reduceMul, Y1w, Y1x, Y1y, Y1z, Y20, Y21, Y22, Y23, Y24, Y25, Y26, Y27, Y28, Y29, Y2a, Y2b, decide_eq_true (show (pre.length : Int) < ((pre ++ x :: rest).length : Int) by simp; omega)]
      rw [iaddr_Nn lt_mid]
      simp only [Y0, Y1, Y2, Y3, Y4, Y5, Y6, Y7, Y8, Y9, Ya, Yb, Yc, Yd, Ye, Yf, Yg, Yh, Yi, Yj, Yk, Yl, Ym, Yn, Yo, Yp, Yq, Yr, Ys, Yt, Yu, Yv, Yw, Yx, Yy, Yz, Y10, Y11, Y12, Y13, Y14, Y15, Y16, Y17, Y18, Y19, Y1a, Y1b, Y1c, Y1d, Y1e, Y1f, Y1g, Y1h, Y1i, Y1j, Y1k, Y1l, AV.cells?, Y1n, Y1o, Y1p, Y1q, Y1r, Y1s, Y1t, Nat.reduceAdd, Nat.reduceMul, Y1w, Y1x, Y1y, Y1z, Y20, Y21, Y22, Y23, Y24, Y25, Y26, Y27, Y28, Y29, Y2a, Y2b, at_mid]
      refine wCallV.fx (hp x (by simp)) fun n1 => ?_
      refine wIf.bool (fun h => ?_) fun h => ?_
      · refine hR _ _ ?_
        have : (pre ++ x :: rest).findIdx? p = some pre.length := by
          rw [List.findIdx?_append, List.findIdx?_eq_none_iff.2 hpre]
          simp [List.findIdx?_cons, h]
        rw [this]; rfl
      · rw [binA_succ (by simp at hl; omega)]
        simp only [Y0, Y1, Y2, Y3, Y4, Y5, Y6, Y7, Y8, Y9, Ya, Yb, Yc, Yd, Ye, Yf, Yg, Yh, Yi, Yj, Yk, Yl, Ym, Yn, Yo, Yp, Yq, Yr, Ys, Yt, Yu, Yv, Yw, Yx, Yy, Yz, Y10, Y11, Y12, Y13, Y14, Y15, Y16, Y17, Y18, Y19, Y1a, Y1b, Y1c, Y1d, Y1e, Y1f, Y1g, Y1h, Y1i, Y1j, Y1k, Y1l, AV.cells?, Y1n, Y1o, Y1p, Y1q, Y1r, Y1s, Y1t, Nat.reduceAdd, Nat.reduceMul, Y1w, Y1x, Y1y, Y1z, Y20, Y21, Y22, Y23, Y24, Y25, Y26, Y27, Y28, Y29, Y2a, Y2b]
        refine back1.mk rest.length (by simp) ⟨pre ++ [x], rest, by simp, by simp, rfl, fun a ha => ?_⟩
        rcases List.mem_append.1 ha with ha | ha
        · exact hpre a ha
        · simp at ha; subst ha; exact h
  rcases hG with rfl | rfl
  · unfold F.slices_IndexFunc_Lint_int
    simp only [Y0, Y1, Y2, Y3, Y4, Y5, Y6, Y7, Y8, Y9, Ya, Yb, Yc, Yd, Ye, Yf, Yg, Yh, Yi, Yj, Yk, Yl, Ym, Yn, Yo, Yp, Yq, Yr, Ys, Yt, Yu, Yv, Yw, Yx, Yy, Yz, Y10, Y11, Y12, Y13, Y14, Y15, Y16, Y17, Y18, Y19, Y1a, Y1b, Y1c, Y1d, Y1e, Y1f, Y1g, Y1h, Y1i, Y1j, Y1k, Y1l, AV.cells?, Y1n, Y1o, Y1p, Y1q, Y1r, Y1s, Y1t, Nat.reduceAdd, Nat.reduceMul, Y1w, Y1x, Y1y, Y1z, Y20, Y21, Y22, Y23, Y24, Y25, Y26, Y27, Y28, Y29, Y2a, Y2b]
    exact main
  · unfold F.slices_IndexFunc_LLint_Lint
    simp only [Y0, Y1, Y2, Y3, Y4, Y5, Y6, Y7, Y8, Y9, Ya, Yb, Yc, Yd, Ye, Yf, Yg, Yh, Yi, Yj, Yk, Yl, Ym, Yn, Yo, Yp, Yq, Yr, Ys, Yt, Yu, Yv, Yw, Yx, Yy, Yz, Y10, Y11, Y12, Y13, Y14, Y15, Y16, Y17, Y18, Y19, Y1a, Y1b, Y1c, Y1d, Y1e, Y1f, Y1g, Y1h, Y1i, Y1j, Y1k, Y1l, AV.cells?, Y1n, Y1o, Y1p, Y1q, Y1r, Y1s, Y1t, Nat.reduceAdd, Nat.reduceMul, Y1w, Y1x, Y1y, Y1z, Y20, Y21, Y22, Y23, Y24, Y25, Y26, Y27, Y28, Y29, Y2a, Y2b]
    exact main
theorem ContainsFunc_spec (hB : Body2 E P 59 F.slices_ContainsFunc_Lint_int) (hI : Body2 E P 66 F.slices_IndexFunc_Lint_int) {k : Nat} {cs : List AV} {p : Int → Bool} (l : List Int) (hl : l.length < 4611686018427387904) (hcs : AV.closedL cs)
    (hp : ∀ a ∈ l, FX E P k ([Z a] ++ cs) (Bo (p a))) : FX E P 59 [LI l, .fn k [] cs] (Bo (l.any p)) := by
  refine FX.of' (by simp only [AV.closedL, AV.closed, and_true, true_and]; exact ⟨LI_closed l, hcs⟩) (by simp [AV.closed]) fun n R hR => hB _ _ _ _ ?_
  unfold F.slices_ContainsFunc_Lint_int
  refine wCall.fx (IndexFunc_any (f := fun z => Z z) (.inl rfl) hI (fun _ => by simp [AV.closed]) l hl hcs hp) fun n => ?_
  simp only [Y0, Y1, Y2, Y3, Y4, Y5, Y6, Y7, Y8, Y9, Ya, Yb, Yc, Yd, Ye, Yf, Yg, Yh, Yi, Yj, Yk, Yl, Ym, Yn, Yo, Yp, Yq, Yr, Ys, Yt, Yu, Yv, Yw, Yx, Yy, Yz, Y10, Y11, Y12, Y13, Y14, Y15, Y16, Y17, Y18, Y19, Y1a, Y1b, Y1c, Y1d, Y1e, Y1f, Y1g, Y1h, Y1i, Y1j, Y1k, Y1l, AV.cells?, Y1n, Y1o, Y1p, Y1q, Y1r, Y1s, Y1t, Nat.reduceAdd, Nat.reduceMul, Y1w, Y1x, Y1y, Y1z, Y20, Y21, Y22, Y23, Y24, Y25, Y26, Y27, Y28, Y29, Y2a, Y2b]
  refine hR _ _ ?_
  cases hf : l.findIdx? p with
  | none =>
    rw [List.findIdx?_eq_none_iff] at hf
    have : l.any p = false := by rw [List.any_eq_false]; intro x hx; simp [hf x hx]
    rw [this]; rfl
  | some i =>
    rw [List.findIdx?_eq_some_iff_getElem] at hf
    obtain ⟨h1, h2, _⟩ := hf
    have : l.any p = true := by rw [List.any_eq_true]; exact ⟨_, List.getElem_mem h1, h2⟩
    rw [this]
    have : (0 : Int) ≤ idxO (some i) := by simp [idxO]
    rw [decide_eq_true this]
theorem Clone_spec (hB : Body1 E P 57 F.slices_Clone_Lint_int) (l : List Int) (hl : l.length < 4398046511104) : FX E P 57 [LI l] (LI l) := by
  refine FX.of (by simp [AV.closedL, LI_closed]) (LI_closed _) fun n R hR => ?_
  refine ACalls.slN1 (fun h0 => hB _ _ _ ?_) (hB _ _ _ ?_)
  · unfold F.slices_Clone_Lint_int
    simp only [Y0, Y1, Y2, Y3, Y4, Y5, Y6, Y7, Y8, Y9, Ya, Yb, Yc, Yd, Ye, Yf, Yg, Yh, Yi, Yj, Yk, Yl, Ym, Yn, Yo, Yp, Yq, Yr, Ys, Yt, Yu, Yv, Yw, Yx, Yy, Yz, Y10, Y11, Y12, Y13, Y14, Y15, Y16, Y17, Y18, Y19, Y1a, Y1b, Y1c, Y1d, Y1e, Y1f, Y1g, Y1h, Y1i, Y1j, Y1k, Y1l, AV.cells?, Y1n, Y1o, Y1p, Y1q, Y1r, Y1s, Y1t, Nat.reduceAdd, Nat.reduceMul, Y1w, Y1x, Y1y, Y1z, Y20, Y21, Y22, Y23, Y24, Y25, Y26, Y27, Y28, Y29, Y2a, Y2b]
    refine hR _ _ (.sub ?_)
    unfold LI Lm
    rw [h0]
    exact .nil
  · unfold F.slices_Clone_Lint_int
    simp only [Y0, Y1, Y2, Y3, Y4, Y5, Y6, Y7, Y8, Y9, Ya, Yb, Yc, Yd, Ye, Yf, Yg, Yh, Yi, Yj, Yk, Yl, Ym, Yn, Yo, Yp, Yq, Yr, Ys, Yt, Yu, Yv, Yw, Yx, Yy, Yz, Y10, Y11, Y12, Y13, Y14, Y15, Y16, Y17, Y18, Y19, Y1a, Y1b, Y1c, Y1d, Y1e, Y1f, Y1g, Y1h, Y1i, Y1j, Y1k, Y1l, AV.cells?, Y1n, Y1o, Y1p, Y1q, Y1r, Y1s, Y1t, Nat.reduceAdd, Nat.reduceMul, Y1w, Y1x, Y1y, Y1z, Y20, Y21, Y22, Y23, Y24, Y25, Y26, Y27, Y28, Y29, Y2a, Y2b]
    refine wNewS.T (l := []) rfl (.refl _) rfl ?_
    simp only [Y0, Y1, Y2, Y3, Y4, Y5, Y6, Y7, Y8, Y9, Ya, Yb, Yc, Yd, Ye, Yf, Yg, Yh, Yi, Yj, Yk, Yl, Ym, Yn, Yo, Yp, Yq, Yr, Ys, Yt, Yu, Yv, Yw, Yx, Yy, Yz, Y10, Y11, Y12, Y13, Y14, Y15, Y16, Y17, Y18, Y19, Y1a, Y1b, Y1c, Y1d, Y1e, Y1f, Y1g, Y1h, Y1i, Y1j, Y1k, Y1l, AV.cells?, Y1n, Y1o, Y1p, Y1q, Y1r, Y1s, Y1t, Nat.reduceAdd, Nat.reduceMul, Y1w, Y1x, Y1y, Y1z, Y20, Y21, Y22, Y23, Y24, Y25, Y26, Y27, Y28, Y29, Y2a, Y2b]
    refine wApp.gr (m := l.length) (new := l.map fun z => Z z) .mk rfl rfl (by simp [cellsOfA, subL, List.take_of_length_le]) (.refl _) (by simp [AV.scalar]) (by simp [mostBytes]; omega) fun z' x' c' hg' => ?_
    simp only [Y0, Y1, Y2, Y3, Y4, Y5, Y6, Y7, Y8, Y9, Ya, Yb, Yc, Yd, Ye, Yf, Yg, Yh, Yi, Yj, Yk, Yl, Ym, Yn, Yo, Yp, Yq, Yr, Ys, Yt, Yu, Yv, Yw, Yx, Yy, Yz, Y10, Y11, Y12, Y13, Y14, Y15, Y16, Y17, Y18, Y19, Y1a, Y1b, Y1c, Y1d, Y1e, Y1f, Y1g, Y1h, Y1i, Y1j, Y1k, Y1l, AV.cells?, Y1n, Y1o, Y1p, Y1q, Y1r, Y1s, Y1t, Nat.reduceAdd, Nat.reduceMul, Y1w, Y1x, Y1y, Y1z, Y20, Y21, Y22, Y23, Y24, Y25, Y26, Y27, Y28, Y29, Y2a, Y2b]
    refine hR _ _ (.sub ?_)
    have := hg'.sub
    simpa [LI, Lm] using this
end
end Go.Sc
namespace Go.Sc
open Go
set_option linter.unusedSimpArgs false
set_option linter.unusedVariables false
set_option linter.unnecessarySimpa false

def idxZ : Option Nat → Int
  | some i => i
  | none => -1
/-- the first one of 'n' -/
def IsFirst (n : Nat) (p : Nat → Bool) : Option Nat → Prop
  | some i => i < n ∧ p i = true ∧ ∀ j, j < i → p j = false
  | none => ∀ j, j < n → p j = false
theorem IsFirst.findIdx {α : Type} {l : List α} {p : α → Bool} {o : Option Nat} (h : IsFirst l.length (fun i => (l[i]?.map p).getD false) o) : l.findIdx? p = o := by
  cases o with
  | none =>
    rw [List.findIdx?_eq_none_iff]
    intro x hx
    obtain ⟨i, hi, rfl⟩ := List.getElem_of_mem hx
    have := h i hi
    simpa [hi] using this
  | some i =>
    obtain ⟨h1, h2, h3⟩ := h
    rw [List.findIdx?_eq_some_iff_getElem]
    refine ⟨h1, by simpa [h1] using h2, fun j hj => ?_⟩
    have := h3 j hj
    simpa [show j < l.length by omega] using this
/-- lists are numbered as they come: those that are seen, and the numbers -/
def numStep (s : List (List Int) × List Int) (l : List Int) : List (List Int) × List Int :=
  match s.1.findIdx? (fun x => decide (x = l)) with
  | some k => (s.1, s.2 ++ [(k : Int)])
  | none => (s.1 ++ [l], s.2 ++ [(s.1.length : Int)])
def numAll (t : List (List Int)) : List (List Int) × List Int := t.foldl numStep ([], [])
def number (t : List (List Int)) : List Int := (numAll t).2
theorem numStep_len (s : List (List Int) × List Int) (l : List Int) : (numStep s l).1.length ≤ s.1.length + 1 ∧ (numStep s l).2.length = s.2.length + 1 := by
  unfold numStep; split <;> simp
theorem numAll_len (t : List (List Int)) : (numAll t).1.length ≤ t.length ∧ (numAll t).2.length = t.length := by
  suffices h : ∀ (t : List (List Int)) s, (t.foldl numStep s).1.length ≤ s.1.length + t.length ∧ (t.foldl numStep s).2.length = s.2.length + t.length by
    simpa [numAll] using h t ([], [])
  intro t
  induction t with
  | nil => simp
  | cons l t ih =>
    intro s
    have h1 := ih (numStep s l)
    have h2 := numStep_len s l
    simp only [List.foldl_cons, List.length_cons]
    omega
theorem numAll_mem (t : List (List Int)) : ∀ l ∈ (numAll t).1, l ∈ t := by
  suffices h : ∀ (t : List (List Int)) s (q : List (List Int)), (∀ l ∈ s.1, l ∈ q) → ∀ l ∈ (t.foldl numStep s).1, l ∈ q ∨ l ∈ t by
    intro l hl
    rcases h t ([], []) [] (by simp) l hl with h | h
    · simp at h
    · exact h
  intro t
  induction t with
  | nil => intro s q hs l hl; exact .inl (hs l hl)
  | cons z t ih =>
    intro s q hs l hl
    rcases ih (numStep s z) (z :: q) (by
      intro l hl
      unfold numStep at hl
      split at hl
      · exact List.mem_cons_of_mem _ (hs l hl)
      · simp only [List.mem_append, List.mem_singleton] at hl
        rcases hl with hl | rfl
        · exact List.mem_cons_of_mem _ (hs l hl)
        · exact List.mem_cons_self) l hl with h | h
    · rcases List.mem_cons.1 h with rfl | h
      · exact .inr List.mem_cons_self
      · exact .inl h
    · exact .inr (List.mem_cons_of_mem _ h)
theorem numAll_take_succ {t : List (List Int)} {i : Nat} (hi : i < t.length) : numAll (t.take (i + 1)) = numStep (numAll (t.take i)) t[i] := by
  simp only [numAll]
  rw [List.take_succ_eq_append_getElem hi, List.foldl_append]
  rfl
/-- errors: a code, and a place -/
abbrev Err := Option (Nat × Option Nat)
structure Table where
  next : List (List Int)
  tells : List (List Int)
def checkAt (t : Table) (s : Nat) : Err :=
  if (t.next[s]?.getD []).length ≠ (t.next[0]?.getD []).length ∨ (t.tells[s]?.getD []).length ≠ (t.next[0]?.getD []).length then some (3, some s)
  else if (t.next[s]?.getD []).any (fun x => decide (x < 0) || decide (x ≥ t.next.length)) then some (2, some s)
  else none
def check (t : Table) : Err :=
  if t.next.length < 1 ∨ t.next.length > 500 ∨ (t.next[0]?.getD []).length > 64 then some (4, none)
  else if t.tells.length ≠ t.next.length then some (3, none)
  else (List.range t.next.length).findSome? (checkAt t)
theorem findSome_none_of {α β : Type} {f : α → Option β} {l : List α} (h : ∀ x ∈ l, f x = none) : l.findSome? f = none := by
  rw [List.findSome?_eq_none_iff]; exact h
theorem findSome_range {β : Type} {f : Nat → Option β} {n i : Nat} {y : β} (hi : i < n) (hpre : ∀ j, j < i → f j = none) (hy : f i = some y) : (List.range n).findSome? f = some y := by
  rw [List.findSome?_eq_some_iff]
  refine ⟨(List.range n).take i, i, (List.range n).drop (i + 1), ?_, hy, fun a ha => hpre a ?_⟩
  · have h : i < (List.range n).length := by simpa using hi
    have := List.take_append_drop i (List.range n)
    rw [List.drop_eq_getElem_cons h] at this
    simpa using this.symm
  · rw [List.take_range] at ha
    have := List.mem_range.1 ha
    omega
def cell (l : List Int) (i : Nat) : Int := l[i]?.getD 0
def row (t : List (List Int)) (i : Nat) : List Int := t[i]?.getD []
/-- what is told of a state: its block, and by each input what it tells, and the block to which it leads -/
def lineTo (t : Table) (now : List Int) (s i : Nat) : List Int := cell now s :: ((List.range i).map fun j => [cell (row t.tells s) j, cell now (cell (row t.next s) j).toNat]).flatten
def line (t : Table) (now : List Int) (s : Nat) : List Int := lineTo t now s (row t.next s).length
def stepR (t : Table) (now : List Int) : List Int := number ((List.range t.next.length).map (line t now))
def iter (t : Table) : Nat → List Int
  | 0 => List.replicate t.next.length 0
  | k + 1 => stepR t (iter t k)
def IsLast (t : Table) (k : Nat) : Prop := iter t (k + 1) = iter t k ∧ ∀ j, j < k → iter t (j + 1) ≠ iter t j
theorem stepR_len (t : Table) (now : List Int) : (stepR t now).length = t.next.length := by
  have := (numAll_len ((List.range t.next.length).map (line t now))).2
  simpa [stepR, number] using this
theorem iter_len (t : Table) : ∀ k, (iter t k).length = t.next.length
  | 0 => by simp [iter]
  | k + 1 => stepR_len t _
/-- a table that may be -/
structure Good (t : Table) : Prop where
  pos : 1 ≤ t.next.length
  few : t.next.length ≤ 500
  wide : (row t.next 0).length ≤ 64
  tells : t.tells.length = t.next.length
  rows : ∀ s, s < t.next.length → (row t.next s).length = (row t.next 0).length ∧ (row t.tells s).length = (row t.next 0).length
  there : ∀ s, s < t.next.length → ∀ x ∈ row t.next s, 0 ≤ x ∧ x < t.next.length
theorem good_iff {t : Table} : check t = none ↔ Good t := by
  unfold check
  constructor
  · intro h
    split at h
    · cases h
    rename_i h1
    split at h
    · cases h
    rename_i h2
    rw [List.findSome?_eq_none_iff] at h
    have hs : ∀ s, s < t.next.length → ((row t.next s).length = (row t.next 0).length ∧ (row t.tells s).length = (row t.next 0).length) ∧ ∀ x ∈ row t.next s, 0 ≤ x ∧ x < t.next.length := by
      intro s hs
      have := h s (List.mem_range.2 hs)
      unfold checkAt at this
      split at this
      · cases this
      rename_i h3
      split at this
      · cases this
      rename_i h4
      refine ⟨by simp only [row]; omega, fun x hx => ?_⟩
      simp only [List.any_eq_true, Bool.or_eq_true, decide_eq_true_eq, not_exists, not_and] at h4
      have := h4 x hx
      omega
    exact ⟨by omega, by omega, by simp only [row]; omega, by simpa using h2, fun s h => (hs s h).1, fun s h => (hs s h).2⟩
  · intro g
    have := g.pos; have := g.few; have := g.tells
    rw [if_neg (by have := g.wide; simp only [row] at this; omega), if_neg (by omega)]
    apply findSome_none_of
    intro s hs
    have hs := List.mem_range.1 hs
    have h1 := g.rows s hs
    have h2 := g.there s hs
    simp only [row] at h1 h2
    unfold checkAt
    rw [if_neg (by omega), if_neg]
    simp only [List.any_eq_true, Bool.or_eq_true, decide_eq_true_eq, not_exists, not_and]
    intro x hx
    have := h2 x hx
    omega
theorem lineTo_succ (t : Table) (now : List Int) (s i : Nat) : lineTo t now s (i + 1) = lineTo t now s i ++ [cell (row t.tells s) i, cell now (cell (row t.next s) i).toNat] := by
  simp [lineTo, List.range_succ]
theorem lineTo_len (t : Table) (now : List Int) (s i : Nat) : (lineTo t now s i).length = 1 + 2 * i := by
  induction i with
  | zero => simp [lineTo]
  | succ i ih => rw [lineTo_succ]; simp [ih]; omega
def fewB (t : Table) (m : Int) : Bool := decide ((t.next.length : Int) ≤ m) && (decide (t.tells.length ≤ 500) && (decide (t.next.length = 0) || decide ((row t.next 0).length ≤ 16)))
/-- that the rounds end (told in plain Lean elsewhere) -/
def Ends (t : Table) : Prop := Good t → ∃ K, K < 1000000 ∧ IsLast t K
theorem IsLast.uniq {t : Table} {j k : Nat} (hj : IsLast t j) (hk : IsLast t k) : j = k := by
  rcases Nat.lt_trichotomy j k with h | h | h
  · exact absurd hj.1 (hk.2 j h)
  · exact h
  · exact absurd hk.1 (hj.2 k h)
/-- the first state of each block -/
def repsTo (l : List Int) : Nat → List Nat
  | 0 => []
  | i + 1 => if cell l i < (repsTo l i).length then repsTo l i else repsTo l i ++ [i]
def leastTo (t : Table) (l : List Int) (i : Nat) : Table := ⟨(repsTo l i).map fun s => (row t.next s).map fun y => cell l y.toNat, (repsTo l i).map (row t.tells)⟩
def leastT (t : Table) (l : List Int) : Table := leastTo t l t.next.length
theorem repsTo_len (l : List Int) : ∀ i, (repsTo l i).length ≤ i
  | 0 => by simp [repsTo]
  | i + 1 => by
    have := repsTo_len l i
    simp only [repsTo]; split <;> simp <;> omega
/-- does input 'i' part two states 'k' rounds before the end? -/
def parts (t : Table) (k : Nat) (a b i : Nat) : Bool :=
  (decide (k = 1) && decide (cell (row t.tells a) i ≠ cell (row t.tells b) i)) || (decide (k > 1) && decide (cell (iter t (k - 1)) (cell (row t.next a) i).toNat ≠ cell (iter t (k - 1)) (cell (row t.next b) i).toNat))
def partFrom (t : Table) : Nat → Nat → Nat → List Int → List Int
  | 0, _, _, out => out
  | k + 1, a, b, out => match (List.range (row t.next a).length).find? (parts t (k + 1) a b) with
    | some i => partFrom t k (cell (row t.next a) i).toNat (cell (row t.next b) i).toNat (out ++ [(i : Int)])
    | none => partFrom t k a b out
def t0 : Table := ⟨[[1], [0], [0]], [[5], [5], [6]]⟩
theorem t0_check : check t0 = none := by decide
theorem t0_last : IsLast t0 1 := by
  refine ⟨by decide, fun j hj => ?_⟩
  have : j = 0 := by omega
  subst this
  decide
/-- what a table tells of inputs -/
def tellFrom (t : Table) : Int → List Int → List Int
  | _, [] => []
  | s, i :: l => cell (row t.tells s.toNat) i.toNat :: tellFrom t (cell (row t.next s.toNat) i.toNat) l
def TellOk (t : Table) (s : Int) (l : List Int) : Prop := 0 ≤ s ∧ s < t.next.length ∧ ∀ i ∈ l, 0 ≤ i ∧ i < (row t.next 0).length
theorem tellFrom_snoc (t : Table) : ∀ (l : List Int) (s : Int) (i : Int), tellFrom t s (l ++ [i]) = tellFrom t s l ++ [cell (row t.tells (l.foldl (fun s i => cell (row t.next s.toNat) i.toNat) s).toNat) i.toNat]
  | [], s, i => rfl
  | x :: l, s, i => by simp only [List.cons_append, tellFrom, List.foldl_cons]; rw [tellFrom_snoc t l]
theorem tellFrom_len (t : Table) : ∀ (l : List Int) (s : Int), (tellFrom t s l).length = l.length
  | [], _ => rfl
  | x :: l, s => by simp [tellFrom, tellFrom_len t l]
/-- where inputs lead -/
def goTo (t : Table) (s : Int) (l : List Int) : Int := l.foldl (fun s i => cell (row t.next s.toNat) i.toNat) s
theorem goTo_snoc (t : Table) (s : Int) (l : List Int) (i : Int) : goTo t s (l ++ [i]) = cell (row t.next (goTo t s l).toNat) i.toNat := by simp [goTo]
theorem Good.next_in {t : Table} (hg : Good t) {s : Nat} (hs : s < t.next.length) {i : Nat} (hi : i < (row t.next 0).length) : 0 ≤ cell (row t.next s) i ∧ cell (row t.next s) i < t.next.length := by
  have hi' : i < (row t.next s).length := by rw [(hg.rows s hs).1]; exact hi
  have : (row t.next s)[i] ∈ row t.next s := List.getElem_mem hi'
  exact hg.there s hs _ (by simpa [cell, hi'] using this)
end Go.Sc
namespace Go.Sc
open Go
set_option linter.unnecessarySimpa false
set_option linter.unusedSimpArgs false

/-! ### numbers as they come -/
structure NumInv (t : List (List Int)) (s : List (List Int) × List Int) : Prop where
  len : s.2.length = t.length
  idx : ∀ j, j < t.length → ∃ k : Nat, s.2[j]? = some (k : Int) ∧ s.1[k]? = t[j]?
  nodup : s.1.Nodup
  new : ∀ j, j < t.length → ∀ v : Nat, ∀ k : Nat, s.2[j]? = some (k : Int) → v < k → ∃ j', j' < j ∧ s.2[j']? = some (v : Int)
  all : ∀ v, v < s.1.length → ∃ j, j < t.length ∧ s.2[j]? = some (v : Int)

theorem numInv_step {t : List (List Int)} {s : List (List Int) × List Int} (h : NumInv t s) (l : List Int) : NumInv (t ++ [l]) (numStep s l) := by
  unfold numStep
  cases hf : s.1.findIdx? (fun x => decide (x = l)) with
  | some k =>
    rw [List.findIdx?_eq_some_iff_getElem] at hf
    obtain ⟨hk, hkl, _⟩ := hf
    have hkl : s.1[k] = l := by simpa using hkl
    have hget : ∀ j, j < t.length → (s.2 ++ [(k : Int)])[j]? = s.2[j]? := fun j hj => List.getElem?_append_left (by rw [h.len]; exact hj)
    refine ⟨by simp [h.len], fun j hj => ?_, h.nodup, fun j hj v k' hk' hv => ?_, fun v hv => ?_⟩
    · by_cases hjt : j < t.length
      · obtain ⟨k', h1, h2⟩ := h.idx j hjt
        exact ⟨k', by simp only; rw [hget j hjt]; exact h1, by rw [List.getElem?_append_left hjt]; exact h2⟩
      · have : j = t.length := by simp at hj; omega
        subst this
        exact ⟨k, by simp [← h.len], by simp [List.getElem?_eq_getElem hk, hkl]⟩
    · simp only at hk'
      by_cases hjt : j < t.length
      · rw [hget j hjt] at hk'
        obtain ⟨j', h1, h2⟩ := h.new j hjt v k' hk' hv
        exact ⟨j', h1, by simp only; rw [hget j' (by omega)]; exact h2⟩
      · have : j = t.length := by simp at hj; omega
        subst this
        rw [← h.len] at hk'
        simp at hk'
        obtain ⟨j', h1, h2⟩ := h.all v (by omega)
        exact ⟨j', h1, by simp only; rw [hget j' h1]; exact h2⟩
    · obtain ⟨j', h1, h2⟩ := h.all v hv
      exact ⟨j', by simp; omega, by simp only; rw [hget j' h1]; exact h2⟩
  | none =>
    rw [List.findIdx?_eq_none_iff] at hf
    have hnot : l ∉ s.1 := fun hm => by simpa using hf l hm
    have hget : ∀ j, j < t.length → (s.2 ++ [(s.1.length : Int)])[j]? = s.2[j]? := fun j hj => List.getElem?_append_left (by rw [h.len]; exact hj)
    refine ⟨by simp [h.len], fun j hj => ?_, ?_, fun j hj v k' hk' hv => ?_, fun v hv => ?_⟩
    · by_cases hjt : j < t.length
      · obtain ⟨k', h1, h2⟩ := h.idx j hjt
        refine ⟨k', by simp only; rw [hget j hjt]; exact h1, ?_⟩
        have hk' : k' < s.1.length := by
          rw [List.getElem?_eq_getElem hjt] at h2
          exact lt_of_get h2
        rw [List.getElem?_append_left hjt]
        simp only
        rw [List.getElem?_append_left hk']; exact h2
      · have : j = t.length := by simp at hj; omega
        subst this
        exact ⟨s.1.length, by simp [← h.len], by simp⟩
    · rw [List.nodup_append]
      refine ⟨h.nodup, by simp, ?_⟩
      intro a ha b hb
      simp at hb; subst hb
      rintro rfl; exact hnot ha
    · simp only at hk'
      by_cases hjt : j < t.length
      · rw [hget j hjt] at hk'
        obtain ⟨j', h1, h2⟩ := h.new j hjt v k' hk' hv
        exact ⟨j', h1, by simp only; rw [hget j' (by omega)]; exact h2⟩
      · have : j = t.length := by simp at hj; omega
        subst this
        rw [← h.len] at hk'
        simp at hk'
        obtain ⟨j', h1, h2⟩ := h.all v (by omega)
        exact ⟨j', h1, by simp only; rw [hget j' h1]; exact h2⟩
    · by_cases hvl : v < s.1.length
      · obtain ⟨j', h1, h2⟩ := h.all v hvl
        exact ⟨j', by simp; omega, by simp only; rw [hget j' h1]; exact h2⟩
      · have : v = s.1.length := by simp at hv; omega
        subst this
        exact ⟨t.length, by simp, by simp [← h.len]⟩
theorem numInv_take (t : List (List Int)) : ∀ i, i ≤ t.length → NumInv (t.take i) (numAll (t.take i))
  | 0, _ => by
    simp only [List.take_zero, numAll, List.foldl_nil]
    exact ⟨rfl, by simp, List.nodup_nil, by simp, by simp⟩
  | i + 1, hi => by
    rw [numAll_take_succ (by omega), List.take_succ_eq_append_getElem (by omega)]
    exact numInv_step (numInv_take t i (by omega)) _
theorem numInv (t : List (List Int)) : NumInv t (numAll t) := by
  have := numInv_take t t.length (Nat.le_refl _)
  rwa [List.take_length] at this

/-- numbers that come in order -/
structure Canon (u : List Int) : Prop where
  nat : ∀ i, i < u.length → ∃ k : Nat, u[i]? = some (k : Int)
  new : ∀ i, i < u.length → ∀ v k : Nat, u[i]? = some (k : Int) → v < k → ∃ j, j < i ∧ u[j]? = some (v : Int)
theorem number_canon (t : List (List Int)) : Canon (number t) := by
  have h := numInv t
  have hl : (number t).length = t.length := h.len
  exact ⟨fun i hi => by obtain ⟨k, h1, _⟩ := h.idx i (by omega); exact ⟨k, h1⟩, fun i hi v k => h.new i (by omega) v k⟩
theorem number_same {t : List (List Int)} {i j : Nat} (hi : i < t.length) (hj : j < t.length) : (number t)[i]? = (number t)[j]? ↔ t[i]? = t[j]? := by
  have h := numInv t
  obtain ⟨k, h1, h2⟩ := h.idx i hi
  obtain ⟨k', h3, h4⟩ := h.idx j hj
  show (numAll t).2[i]? = (numAll t).2[j]? ↔ _
  rw [h1, h3, ← h2, ← h4]
  have hk : k < (numAll t).1.length := by rw [List.getElem?_eq_getElem hi] at h2; exact lt_of_get h2
  have hk' : k' < (numAll t).1.length := by rw [List.getElem?_eq_getElem hj] at h4; exact lt_of_get h4
  constructor
  · intro e
    injection e with e
    have : k = k' := by omega
    rw [this]
  · intro e
    rw [List.getElem?_eq_getElem hk, List.getElem?_eq_getElem hk'] at e
    injection e with e
    have := (List.getElem_inj h.nodup).1 e
    rw [this]
/-- such numbers are told by who is alike -/
theorem canon_eq {u v : List Int} (hu : Canon u) (hv : Canon v) (hl : u.length = v.length) (h : ∀ i j, i < u.length → j < u.length → (u[i]? = u[j]? ↔ v[i]? = v[j]?)) : u = v := by
  apply List.ext_getElem?
  intro i
  induction i using Nat.strongRecOn with
  | _ i ih =>
    by_cases hi : i < u.length
    case neg => rw [List.getElem?_eq_none (by omega), List.getElem?_eq_none (by omega)]
    have hi' : i < v.length := by omega
    obtain ⟨k, hk⟩ := hu.nat i hi
    obtain ⟨k', hk'⟩ := hv.nat i hi'
    have key : k = k' := by
      rcases Nat.lt_trichotomy k k' with hlt | he | hlt
      · obtain ⟨j, hj, hjv⟩ := hv.new i hi' k k' hk' hlt
        have h1 := ih j hj
        have : v[i]? = v[j]? := (h i j hi (by omega)).1 (by rw [h1, hjv, hk])
        rw [hk', hjv] at this
        injection this with this; omega
      · exact he
      · obtain ⟨j, hj, hjv⟩ := hu.new i hi k' k hk hlt
        have h1 := ih j hj
        have : u[i]? = u[j]? := (h i j hi (by omega)).2 (by rw [← h1, hjv, hk'])
        rw [hk, hjv] at this
        injection this with this; omega
    rw [hk, hk', key]

/-! ### rounds -/
theorem iter_canon {t : Table} : ∀ k, Canon (iter t k)
  | 0 => by
    refine ⟨fun i hi => ⟨0, ?_⟩, fun i hi v k hk hv => ?_⟩
    · have : i < t.next.length := by simpa [iter] using hi
      simp [iter, this]
    · simp only [iter] at hi hk
      have : i < t.next.length := by simpa using hi
      simp [this] at hk; omega
  | k + 1 => number_canon _
theorem cell_get {l : List Int} {i : Nat} (hi : i < l.length) : l[i]? = some (cell l i) := by simp [cell, hi]
theorem cell_eq_iff {l : List Int} {i j : Nat} (hi : i < l.length) (hj : j < l.length) : l[i]? = l[j]? ↔ cell l i = cell l j := by rw [cell_get hi, cell_get hj]; simp
theorem stepR_same {t : Table} {now : List Int} {i j : Nat} (hi : i < t.next.length) (hj : j < t.next.length) : cell (stepR t now) i = cell (stepR t now) j ↔ line t now i = line t now j := by
  rw [← cell_eq_iff (by rw [stepR_len]; exact hi) (by rw [stepR_len]; exact hj)]
  simp only [stepR]
  rw [number_same (by simpa using hi) (by simpa using hj)]
  simp [hi, hj]
theorem lineTo_same {t : Table} {now : List Int} {s s' : Nat} : ∀ w, lineTo t now s w = lineTo t now s' w ↔ cell now s = cell now s' ∧ ∀ i, i < w → cell (row t.tells s) i = cell (row t.tells s') i ∧ cell now (cell (row t.next s) i).toNat = cell now (cell (row t.next s') i).toNat
  | 0 => by simp [lineTo]
  | w + 1 => by
    rw [lineTo_succ, lineTo_succ]
    constructor
    · intro h
      have h := List.append_inj h (by rw [lineTo_len, lineTo_len])
      obtain ⟨h1, h2⟩ := (lineTo_same w).1 h.1
      refine ⟨h1, fun i hi => ?_⟩
      by_cases hw : i < w
      · exact h2 i hw
      · have : i = w := by omega
        subst this
        have := h.2
        simp at this
        exact this
    · rintro ⟨h1, h2⟩
      rw [(lineTo_same w).2 ⟨h1, fun i hi => h2 i (by omega)⟩, (h2 w (by omega)).1, (h2 w (by omega)).2]
theorem line_same {t : Table} (hg : Good t) {now : List Int} {s s' : Nat} (hs : s < t.next.length) (hs' : s' < t.next.length) :
    line t now s = line t now s' ↔ cell now s = cell now s' ∧ ∀ i, i < (row t.next 0).length → cell (row t.tells s) i = cell (row t.tells s') i ∧ cell now (cell (row t.next s) i).toNat = cell now (cell (row t.next s') i).toNat := by
  rw [line, line, (hg.rows s hs).1, (hg.rows s' hs').1, lineTo_same]

/-- pairs that are alike -/
def alike (u : List Int) (n : Nat) : Nat := (((List.range n).map fun i => (List.range n).map fun j => (i, j)).flatten).countP fun p => decide (u[p.1]? = u[p.2]?)
theorem countP_lt {α : Type} {p q : α → Bool} : ∀ {l : List α}, (∀ x ∈ l, p x = true → q x = true) → (∃ x ∈ l, q x = true ∧ p x = false) → l.countP p < l.countP q
  | [], _, h => by simp at h
  | y :: l, h, ⟨x, hx, h1, h2⟩ => by
    have hle : l.countP p ≤ l.countP q := List.countP_mono_left fun z hz hpz => h z (List.mem_cons_of_mem _ hz) hpz
    rcases List.mem_cons.1 hx with rfl | hx
    · simp [List.countP_cons, h1, h2]; omega
    · have := countP_lt (l := l) (fun z hz => h z (List.mem_cons_of_mem _ hz)) ⟨x, hx, h1, h2⟩
      have hy := h y List.mem_cons_self
      simp only [List.countP_cons]
      cases hp : p y <;> cases hq : q y <;> simp_all <;> omega
theorem alike_le (u : List Int) (n : Nat) : alike u n ≤ n * n := by
  have h : (((List.range n).map fun i => (List.range n).map fun j => (i, j)).flatten).length = n * n := by
    rw [List.length_flatten, List.map_map]
    have : ((List.length : List (Nat × Nat) → Nat) ∘ fun (i : Nat) => (List.range n).map fun j => (i, j)) = fun _ => n := by funext i; simp
    rw [this, List.map_const', List.sum_replicate_nat, List.length_range]
  rw [← h]
  exact List.countP_le_length
theorem alike_lt {t : Table} {k : Nat} (h : iter t (k + 1) ≠ iter t k) : alike (iter t (k + 1)) t.next.length < alike (iter t k) t.next.length := by
  have himp : ∀ i j, i < t.next.length → j < t.next.length → (iter t (k + 1))[i]? = (iter t (k + 1))[j]? → (iter t k)[i]? = (iter t k)[j]? := by
    intro i j hi hj he
    rw [cell_eq_iff (by rw [iter_len]; exact hi) (by rw [iter_len]; exact hj)] at he ⊢
    have := (stepR_same (now := iter t k) hi hj).1 he
    simp only [line, lineTo] at this
    injection this
  have hex : ∃ i j, i < t.next.length ∧ j < t.next.length ∧ (iter t k)[i]? = (iter t k)[j]? ∧ ¬ (iter t (k + 1))[i]? = (iter t (k + 1))[j]? := by
    apply Classical.byContradiction
    intro hno
    apply h
    refine canon_eq (iter_canon _) (iter_canon _) (by rw [iter_len, iter_len]) fun i j hi hj => ⟨himp i j (by rwa [iter_len] at hi) (by rwa [iter_len] at hj), fun he => ?_⟩
    apply Classical.byContradiction
    intro hne
    exact hno ⟨i, j, by rwa [iter_len] at hi, by rwa [iter_len] at hj, he, hne⟩
  obtain ⟨i, j, hi, hj, h1, h2⟩ := hex
  refine countP_lt (fun x hx hp => ?_) ⟨(i, j), ?_, by simpa using h1, by simpa using h2⟩
  · simp only [List.mem_flatten, List.mem_map, List.mem_range] at hx
    obtain ⟨_, ⟨a, ha, rfl⟩, hx⟩ := hx
    simp only [List.mem_map, List.mem_range] at hx
    obtain ⟨b, hb, rfl⟩ := hx
    simp only [decide_eq_true_eq] at hp ⊢
    exact himp a b ha hb hp
  · simp only [List.mem_flatten, List.mem_map, List.mem_range]
    exact ⟨_, ⟨i, hi, rfl⟩, by simp [hj]⟩
/-- the rounds end -/
theorem ends (t : Table) : Ends t := by
  intro hg
  have hn := hg.few
  have hex : ∃ k, k ≤ t.next.length * t.next.length ∧ iter t (k + 1) = iter t k := by
    apply Classical.byContradiction
    intro hno
    have hno : ∀ k, k ≤ t.next.length * t.next.length → iter t (k + 1) ≠ iter t k := fun k hk he => hno ⟨k, hk, he⟩
    have : ∀ k, k ≤ t.next.length * t.next.length + 1 → alike (iter t k) t.next.length + k ≤ t.next.length * t.next.length := by
      intro k
      induction k with
      | zero => intro _; simpa using alike_le _ _
      | succ k ih =>
        intro hk
        have := ih (by omega)
        have := alike_lt (hno k (by omega))
        omega
    have := this _ (Nat.le_refl _)
    omega
  obtain ⟨k, hk, hmin⟩ := exists_least (p := fun k => k ≤ t.next.length * t.next.length ∧ iter t (k + 1) = iter t k) hex
  refine ⟨k, ?_, hk.2, fun j hj he => hmin j hj ⟨by omega, he⟩⟩
  have : t.next.length * t.next.length ≤ 500 * 500 := Nat.mul_le_mul hn hn
  omega

/-! ### the table of blocks -/
/-- states that tell alike for ever are of one block -/
theorem coarsest {t : Table} (hg : Good t) (q : Nat → Nat → Prop) (hq : ∀ s s', s < t.next.length → s' < t.next.length → q s s' → ∀ i, i < (row t.next 0).length →
      cell (row t.tells s) i = cell (row t.tells s') i ∧ q (cell (row t.next s) i).toNat (cell (row t.next s') i).toNat) : ∀ k s s', s < t.next.length → s' < t.next.length → q s s' → cell (iter t k) s = cell (iter t k) s'
  | 0, s, s', hs, hs', h => by simp [iter, cell, hs, hs']
  | k + 1, s, s', hs, hs', h => by
    show cell (stepR t (iter t k)) s = cell (stepR t (iter t k)) s'
    rw [stepR_same hs hs', line_same hg hs hs']
    refine ⟨coarsest hg q hq k s s' hs hs' h, fun i hi => ?_⟩
    obtain ⟨h1, h2⟩ := hq s s' hs hs' h i hi
    have a1 := hg.there s hs (cell (row t.next s) i) (by
      have hi' : i < (row t.next s).length := by rw [(hg.rows s hs).1]; exact hi
      have : (row t.next s)[i] ∈ row t.next s := List.getElem_mem hi'
      simpa [cell, hi'] using this)
    have a2 := hg.there s' hs' (cell (row t.next s') i) (by
      have hi' : i < (row t.next s').length := by rw [(hg.rows s' hs').1]; exact hi
      have : (row t.next s')[i] ∈ row t.next s' := List.getElem_mem hi'
      simpa [cell, hi'] using this)
    exact ⟨h1, coarsest hg q hq k _ _ (by omega) (by omega) h2⟩

theorem last_same {t : Table} (hg : Good t) {K : Nat} (hK : IsLast t K) {s s' : Nat} (hs : s < t.next.length) (hs' : s' < t.next.length) (h : cell (iter t K) s = cell (iter t K) s') :
    ∀ i, i < (row t.next 0).length → cell (row t.tells s) i = cell (row t.tells s') i ∧ cell (iter t K) (cell (row t.next s) i).toNat = cell (iter t K) (cell (row t.next s') i).toNat := by
  have h' : cell (stepR t (iter t K)) s = cell (stepR t (iter t K)) s' := by
    have : stepR t (iter t K) = iter t K := hK.1
    rw [this]; exact h
  rw [stepR_same hs hs', line_same hg hs hs'] at h'
  exact h'.2

structure RepInv (l : List Int) (i : Nat) (r : List Nat) : Prop where
  pos : ∀ (k s : Nat), r[k]? = some s → s < i ∧ cell l s = (k : Int)
  lt : ∀ j, j < i → cell l j < r.length
theorem repInv {l : List Int} (hl : Canon l) : ∀ i, i ≤ l.length → RepInv l i (repsTo l i)
  | 0, _ => ⟨by simp [repsTo], by simp⟩
  | i + 1, hi => by
    have h := repInv hl i (by omega)
    obtain ⟨k, hk⟩ := hl.nat i (by omega)
    have hck : cell l i = k := by simp [cell, hk]
    simp only [repsTo]
    split
    · rename_i hlt
      exact ⟨fun k s hs => ⟨Nat.lt_succ_of_lt (h.pos k s hs).1, (h.pos k s hs).2⟩, fun j hj => by
        by_cases hji : j < i
        · exact h.lt j hji
        · have hji' : j = i := by omega
          subst hji'; exact hlt⟩
    · rename_i hlt
      have hke : cell l i = (repsTo l i).length := by
        rcases Nat.lt_trichotomy k (repsTo l i).length with h1 | h1 | h1
        · omega
        · omega
        · obtain ⟨j, hj, hjv⟩ := hl.new i (by omega) (repsTo l i).length k hk h1
          have := h.lt j hj
          simp [cell, hjv] at this
      refine ⟨fun k s hs => ?_, fun j hj => ?_⟩
      · by_cases hkl : k < (repsTo l i).length
        · rw [List.getElem?_append_left hkl] at hs
          exact ⟨Nat.lt_succ_of_lt (h.pos k s hs).1, (h.pos k s hs).2⟩
        · have hlt := lt_of_get hs
          simp at hlt
          have : k = (repsTo l i).length := by omega
          subst this
          simp at hs
          subst hs
          exact ⟨Nat.lt_succ_self _, hke⟩
      · simp only [List.length_append, List.length_cons, List.length_nil]
        by_cases hji : j < i
        · have := h.lt j hji; omega
        · have hji' : j = i := by omega
          subst hji'; omega

theorem range_canon (m : Nat) : Canon ((List.range m).map fun (i : Nat) => (i : Int)) := by
  have hg : ∀ i, i < m → ((List.range m).map fun (i : Nat) => (i : Int))[i]? = some (i : Int) := fun i hi => by simp [hi]
  refine ⟨fun i hi => ⟨i, hg i (by simpa using hi)⟩, fun i hi v k hk hv => ?_⟩
  have hi : i < m := by simpa using hi
  rw [hg i hi] at hk
  injection hk with hk
  exact ⟨v, by omega, hg v (by omega)⟩

/-- THE LAW: the table of blocks is a table; its blocks are its states; and there are no more -/
theorem least_law {t : Table} (hg : Good t) {K : Nat} (hK : IsLast t K) : Good (leastT t (iter t K)) ∧ (leastT t (iter t K)).next.length ≤ t.next.length ∧
    ∀ K', IsLast (leastT t (iter t K)) K' → iter (leastT t (iter t K)) K' = (List.range (leastT t (iter t K)).next.length).map fun (i : Nat) => (i : Int) := by
  have hcan := iter_canon (t := t) K
  have hlen := iter_len t K
  have hinv := repInv hcan t.next.length (by omega)
  generalize hr : repsTo (iter t K) t.next.length = r at hinv
  generalize hl : iter t K = l at *
  have hx : leastT t l = ⟨r.map fun s => (row t.next s).map fun y => cell l y.toNat, r.map (row t.tells)⟩ := by simp [leastT, leastTo, hr]
  have hrl : r.length ≤ t.next.length := by rw [← hr]; exact repsTo_len _ _
  have hn := hg.pos
  have hr0 : 1 ≤ r.length := by
    have h0 := hinv.lt 0 (by omega)
    obtain ⟨k, hk⟩ := hcan.nat 0 (by omega)
    have : cell l 0 = k := by simp [cell, hk]
    omega
  have hrow : ∀ k s, r[k]? = some s → row (leastT t l).next k = (row t.next s).map (fun y => cell l y.toNat) ∧ row (leastT t l).tells k = row t.tells s := by
    intro k s hs
    rw [hx]
    simp [row, hs]
  have hxl : (leastT t l).next.length = r.length := by rw [hx]; simp
  have hat : ∀ k, k < r.length → ∃ s, r[k]? = some s ∧ s < t.next.length ∧ cell l s = k := fun k hk => by
    have := hinv.pos k _ (List.getElem?_eq_getElem hk)
    exact ⟨_, List.getElem?_eq_getElem hk, this.1, this.2⟩
  obtain ⟨s0, h00, h01, _⟩ := hat 0 (by omega)
  have hw0 : (row (leastT t l).next 0).length = (row t.next 0).length := by rw [(hrow 0 s0 h00).1]; simp [(hg.rows s0 h01).1]
  have hgx : Good (leastT t l) := by
    refine ⟨by omega, by have := hg.few; omega, by rw [hw0]; exact hg.wide, by rw [hx]; simp, fun k hk => ?_, fun k hk x hxm => ?_⟩
    · obtain ⟨s, h1, h2, _⟩ := hat k (by omega)
      rw [hw0, (hrow k s h1).1, (hrow k s h1).2, List.length_map]
      exact hg.rows s h2
    · obtain ⟨s, h1, h2, _⟩ := hat k (by omega)
      rw [(hrow k s h1).1] at hxm
      simp only [List.mem_map] at hxm
      obtain ⟨y, hy, rfl⟩ := hxm
      have hyr := hg.there s h2 y hy
      have h3 := hinv.lt y.toNat (by omega)
      obtain ⟨k', hk'⟩ := hcan.nat y.toNat (by omega)
      have : cell l y.toNat = k' := by simp [cell, hk']
      omega
  refine ⟨hgx, by omega, fun K' hK' => ?_⟩
  have hlen' := iter_len (leastT t l) K'
  refine canon_eq (iter_canon _) (range_canon _) (by simp [hlen']) fun a b ha hb => ⟨fun he => ?_, fun he => ?_⟩
  case refine_2 =>
    rw [hlen'] at ha hb
    simp [ha, hb] at he
    have he : a = b := by omega
    rw [he]
  rw [hlen'] at ha hb
  rw [cell_eq_iff (by omega) (by omega)] at he
  obtain ⟨sa, h1, h2, h3⟩ := hat a (by omega)
  obtain ⟨sb, h4, h5, h6⟩ := hat b (by omega)
  -- what is alike in the table of blocks is alike in the table
  have hcellnat : ∀ s, s < t.next.length → ∃ k : Nat, cell l s = k ∧ k < r.length ∧ ∃ s', r[k]? = some s' ∧ s' < t.next.length ∧ cell l s' = cell l s := by
    intro s hs
    obtain ⟨k, hk⟩ := hcan.nat s (by omega)
    have hck : cell l s = k := by simp [cell, hk]
    have hlt := hinv.lt s hs
    obtain ⟨s', e1, e2, e3⟩ := hat k (by omega)
    exact ⟨k, hck, by omega, s', e1, e2, by omega⟩
  have key := coarsest hg (fun s s' => cell (iter (leastT t l) K') (cell l s).toNat = cell (iter (leastT t l) K') (cell l s').toNat) (by
    intro s s' hs hs' hq i hi
    obtain ⟨k, e1, e2, u, e3, e4, e5⟩ := hcellnat s hs
    obtain ⟨k', f1, f2, u', f3, f4, f5⟩ := hcellnat s' hs'
    have hq : cell (iter (leastT t l) K') k = cell (iter (leastT t l) K') k' := by rw [e1, f1] at hq; exact hq
    have h7 := last_same hgx hK' (by omega) (by omega) hq i (by rw [hw0]; exact hi)
    rw [(hrow k u e3).1, (hrow k u e3).2, (hrow k' u' f3).1, (hrow k' u' f3).2] at h7
    have hm : ∀ z, z < t.next.length → cell ((row t.next z).map fun y => cell l y.toNat) i = cell l (cell (row t.next z) i).toNat := by
      intro z hz
      have hi' : i < (row t.next z).length := by rw [(hg.rows z hz).1]; exact hi
      simp [cell, hi']
    rw [hm u e4, hm u' f4] at h7
    have hKl : ∀ z z', z < t.next.length → z' < t.next.length → cell l z = cell l z' → cell (row t.tells z) i = cell (row t.tells z') i ∧ cell l (cell (row t.next z) i).toNat = cell l (cell (row t.next z') i).toNat := by
      intro z z' hz hz' he
      have := last_same hg hK hz hz' (by rw [hl]; exact he) i hi
      rwa [hl] at this
    have g1 := hKl u s e4 hs e5
    have g2 := hKl u' s' f4 hs' f5
    exact ⟨by rw [← g1.1, ← g2.1]; exact h7.1, by rw [← g1.2, ← g2.2]; exact h7.2⟩) K sa sb h2 h5 (by rw [h3, h6]; exact he)
  rw [hl, h3, h6] at key
  have : a = b := by omega
  rw [this]
end Go.Sc
namespace Go.Sc
open Go
set_option linter.unusedSimpArgs false
set_option linter.unnecessarySimpa false

/-- states of one block tell the same of whatever comes -/
theorem tell_alike {t : Table} (hg : Good t) {K : Nat} (hK : IsLast t K) : ∀ (l : List Int) (s s' : Int), (∀ i ∈ l, 0 ≤ i ∧ i < (row t.next 0).length) → 0 ≤ s ∧ s < t.next.length → 0 ≤ s' ∧ s' < t.next.length → cell (iter t K) s.toNat = cell (iter t K) s'.toNat → tellFrom t s l = tellFrom t s' l
  | [], _, _, _, _, _, _ => rfl
  | i :: l, s, s', hl, hs, hs', he => by
    have hi := hl i List.mem_cons_self
    have h := last_same hg hK (s := s.toNat) (s' := s'.toNat) (by omega) (by omega) he i.toNat (by omega)
    simp only [tellFrom]
    rw [h.1, tell_alike hg hK l _ _ (fun j hj => hl j (List.mem_cons_of_mem _ hj)) (hg.next_in (by omega) (by omega)) (hg.next_in (by omega) (by omega)) h.2]

/-- rounds part more and more -/
theorem iter_apart {t : Table} {s s' : Nat} (hs : s < t.next.length) (hs' : s' < t.next.length) : ∀ {j k : Nat}, j ≤ k → cell (iter t k) s = cell (iter t k) s' → cell (iter t j) s = cell (iter t j) s' := by
  intro j k hjk
  induction k with
  | zero => intro h; have : j = 0 := by omega
            subst this; exact h
  | succ k ih =>
    intro h
    by_cases hj : j = k + 1
    · subst hj; exact h
    · refine ih (by omega) ?_
      have := (stepR_same (now := iter t k) hs hs').1 h
      simp only [line, lineTo] at this
      injection this

/-- THE INPUTS THAT PART: what two states that are parted in round 'k', and no earlier, tell of them -/
theorem part_tells {t : Table} (hg : Good t) : ∀ (k : Nat) (a b : Nat) (out : List Int), a < t.next.length → b < t.next.length → cell (iter t k) a ≠ cell (iter t k) b → (∀ j, j < k → cell (iter t j) a = cell (iter t j) b) →
    ∃ part : List Int, part.length = k ∧ partFrom t k a b out = out ++ part ∧ (∀ i ∈ part, 0 ≤ i ∧ i < (row t.next 0).length) ∧
      (0 < k → cell (tellFrom t a part) (k - 1) ≠ cell (tellFrom t b part) (k - 1) ∧ (tellFrom t a part).take (k - 1) = (tellFrom t b part).take (k - 1))
  | 0, a, b, out, ha, hb, hne, _ => by simp [iter, cell, ha, hb] at hne
  | k + 1, a, b, out, ha, hb, hne, hpre => by
    have hk := hpre k (Nat.lt_succ_self k)
    have hra := hg.rows a ha
    have hrb := hg.rows b hb
    -- an input that parts
    have hline : ¬ line t (iter t k) a = line t (iter t k) b := fun h => hne ((stepR_same ha hb).2 h)
    rw [line_same hg ha hb] at hline
    have hex : ∃ i, i < (row t.next 0).length ∧ ¬ (cell (row t.tells a) i = cell (row t.tells b) i ∧ cell (iter t k) (cell (row t.next a) i).toNat = cell (iter t k) (cell (row t.next b) i).toNat) := by
      apply Classical.byContradiction
      intro hno
      exact hline ⟨hk, fun i hi => Classical.byContradiction fun h => hno ⟨i, hi, h⟩⟩
    -- if k > 0, what is told is the same
    have htold : 0 < k → ∀ i, i < (row t.next 0).length → cell (row t.tells a) i = cell (row t.tells b) i := by
      intro hk0 i hi
      obtain ⟨k', rfl⟩ : ∃ k', k = k' + 1 := ⟨k - 1, by omega⟩
      have := (stepR_same (now := iter t k') ha hb).1 hk
      exact (((line_same hg ha hb).1 this).2 i hi).1
    have hparts : ∀ i, i < (row t.next 0).length → (parts t (k + 1) a b i = true ↔ ¬ (cell (row t.tells a) i = cell (row t.tells b) i ∧ cell (iter t k) (cell (row t.next a) i).toNat = cell (iter t k) (cell (row t.next b) i).toNat)) := by
      intro i hi
      have n1 := hg.next_in ha hi
      have n2 := hg.next_in hb hi
      by_cases hk0 : k = 0
      · subst hk0
        have h0 : ∀ s, s < t.next.length → cell (iter t 0) s = 0 := fun s hs => by simp [iter, cell, hs]
        simp [parts, h0 _ (show (cell (row t.next a) i).toNat < t.next.length by omega), h0 _ (show (cell (row t.next b) i).toNat < t.next.length by omega)]
      · have := htold (by omega) i hi
        simp [parts, hk0, this]
        omega
    have hfind : ∃ i, i < (row t.next 0).length ∧ (List.range (row t.next a).length).find? (parts t (k + 1) a b) = some i ∧ parts t (k + 1) a b i = true := by
      cases hf : (List.range (row t.next a).length).find? (parts t (k + 1) a b) with
      | none =>
        rw [List.find?_eq_none] at hf
        obtain ⟨i, hi, h⟩ := hex
        exact absurd ((hparts i hi).2 h) (hf i (List.mem_range.2 (by omega)))
      | some i =>
        have h1 := List.find?_some hf
        have h2 := List.mem_range.1 (List.mem_of_find?_eq_some hf)
        exact ⟨i, by omega, rfl, h1⟩
    obtain ⟨i, hi, hf, hp⟩ := hfind
    have hp' := (hparts i hi).1 hp
    have n1 := hg.next_in ha hi
    have n2 := hg.next_in hb hi
    simp only [partFrom, hf]
    by_cases hk0 : k = 0
    · subst hk0
      refine ⟨[(i : Int)], rfl, by simp [partFrom], by simp; omega, fun _ => ⟨?_, by simp⟩⟩
      have h0 : ∀ s, s < t.next.length → cell (iter t 0) s = 0 := fun s hs => by simp [iter, cell, hs]
      rw [h0 _ (by omega), h0 _ (by omega)] at hp'
      simp only [and_true] at hp'
      simpa [tellFrom, cell] using hp'
    · have ht := htold (by omega) i hi
      have hx : cell (iter t k) (cell (row t.next a) i).toNat ≠ cell (iter t k) (cell (row t.next b) i).toNat := fun h => hp' ⟨ht, h⟩
      have hpre' : ∀ j, j < k → cell (iter t j) (cell (row t.next a) i).toNat = cell (iter t j) (cell (row t.next b) i).toNat := by
        intro j hj
        have h := hpre (j + 1) (by omega)
        have := (stepR_same (now := iter t j) ha hb).1 h
        exact (((line_same hg ha hb).1 this).2 i hi).2
      obtain ⟨part, q1, q2, q3, q4⟩ := part_tells hg k _ _ (out ++ [(i : Int)]) (by omega) (by omega) hx hpre'
      obtain ⟨q5, q6⟩ := q4 (by omega)
      refine ⟨(i : Int) :: part, by simp [q1], by rw [q2]; simp, ?_, fun _ => ?_⟩
      · intro j hj
        rcases List.mem_cons.1 hj with rfl | hj
        · omega
        · exact q3 j hj
      · obtain ⟨k', rfl⟩ : ∃ k', k = k' + 1 := ⟨k - 1, by omega⟩
        have e1 : ((cell (row t.next a) i).toNat : Int) = cell (row t.next a) i := by omega
        have e2 : ((cell (row t.next b) i).toNat : Int) = cell (row t.next b) i := by omega
        rw [e1, e2] at q5 q6
        simp only [Nat.add_sub_cancel, tellFrom, Int.toNat_natCast] at q5 q6 ⊢
        refine ⟨?_, ?_⟩
        · simpa [cell] using q5
        · simp only [List.take_succ_cons]
          rw [ht, q6]

/-- the table of blocks tells what its states do -/
theorem least_tells {t : Table} (hg : Good t) {K : Nat} (hK : IsLast t K) : ∀ (l : List Int) (s : Int), (∀ i ∈ l, 0 ≤ i ∧ i < (row t.next 0).length) → 0 ≤ s ∧ s < t.next.length →
    tellFrom (leastT t (iter t K)) (cell (iter t K) s.toNat) l = tellFrom t s l
  | [], _, _, _ => rfl
  | i :: l, s, hl, hs => by
    have hi := hl i List.mem_cons_self
    have hcan := iter_canon (t := t) K
    have hlen := iter_len t K
    have hinv := repInv hcan t.next.length (by omega)
    obtain ⟨k, hk⟩ := hcan.nat s.toNat (by omega)
    have hck : cell (iter t K) s.toNat = k := by simp [cell, hk]
    have hlt := hinv.lt s.toNat (by omega)
    have hkr : k < (repsTo (iter t K) t.next.length).length := by omega
    have hrs := hinv.pos k _ (List.getElem?_eq_getElem hkr)
    generalize hr : (repsTo (iter t K) t.next.length)[k] = rep at hrs
    have hget : (repsTo (iter t K) t.next.length)[k]? = some rep := by rw [List.getElem?_eq_getElem hkr, hr]
    have h := last_same hg hK (s := rep) (s' := s.toNat) (by omega) (by omega) (by omega) i.toNat (by omega)
    have e1 : row (leastT t (iter t K)).tells (cell (iter t K) s.toNat).toNat = row t.tells rep := by
      rw [hck]; simp [leastT, leastTo, row, hget]
    have e2 : cell (row (leastT t (iter t K)).next (cell (iter t K) s.toNat).toNat) i.toNat = cell (iter t K) (cell (row t.next rep) i.toNat).toNat := by
      have hi' : i.toNat < (row t.next rep).length := by rw [(hg.rows rep hrs.1).1]; omega
      have : row (leastT t (iter t K)).next (cell (iter t K) s.toNat).toNat = (row t.next rep).map fun y => cell (iter t K) y.toNat := by
        rw [hck]; simp [leastT, leastTo, row, hget]
      rw [this]
      simp [cell, hi']
    simp only [tellFrom]
    rw [e1, e2, h.1, h.2, least_tells hg hK l _ (fun j hj => hl j (List.mem_cons_of_mem _ hj)) (hg.next_in (by omega) (by omega))]
/-- as many inputs -/
theorem least_wide {t : Table} (hg : Good t) {K : Nat} (hK : IsLast t K) : (row (leastT t (iter t K)).next 0).length = (row t.next 0).length := by
  have hgx := (least_law hg hK).1
  have hcan := iter_canon (t := t) K
  have hlen := iter_len t K
  have hinv := repInv hcan t.next.length (by omega)
  have h1 : 0 < (repsTo (iter t K) t.next.length).length := by
    have := hgx.pos
    simp [leastT, leastTo] at this
    omega
  have hrs := hinv.pos 0 _ (List.getElem?_eq_getElem h1)
  have : row (leastT t (iter t K)).next 0 = (row t.next (repsTo (iter t K) t.next.length)[0]).map fun y => cell (iter t K) y.toNat := by
    simp [leastT, leastTo, row, List.getElem?_eq_getElem h1]
  rw [this, List.length_map, (hg.rows _ hrs.1).1]
end Go.Sc
