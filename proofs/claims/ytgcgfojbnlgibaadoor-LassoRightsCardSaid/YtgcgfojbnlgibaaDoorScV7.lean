/- of the seat YtgcgfojbnlgibaaDoor, printed by a program of ours -/
import Derived.Test.YtgcgfojbnlgibaaDoorScC
namespace Go.Sc.F
open Go Go.Sc
set_option linter.unusedVariables false

/-- signalbox/signalboxlaw.LassoRights -/
def law_LassoRights (E : Env) (P : Program) (a0 a1 a2 a3 : AV) (H : AH) (R : Kt) : Prop :=
  wGet (lenS a1) H fun t18 H =>
  wGet (binA .gtr t18 (.val (.int .i64 30))) H fun t19 H =>
  wIf t19 (
    R (.val (.bool true)) H) (
    wGet (convA (.int .u64) a2) H fun t21 H =>
    wGet (binA .rem t21 (.val (.int .u64 4))) H fun t22 H =>
    wGet (convA (.int .i64) t22) H fun t23 H =>
    wGet (convA (.int .u64) a3) H fun t25 H =>
    wGet (binA .rem t25 (.val (.int .u64 25))) H fun t26 H =>
    wGet (convA (.int .i64) t26) H fun t27 H =>
    wAgg (fillA [(.val (.int .i64 0)), (.val (.string ⟨#[]⟩)), (.val (.slice none 0 0))] [(0, 1, a0), (1, 1, a1)]) H fun t30 H =>
    wNew 3 (AV.cells? t30) H fun t31 H =>
    wLoop 1 (fun I1 => I1 (.val (.int .i64 0)) H) fun I1 t10 H =>
      wGet (binA .lss t10 t23) H fun t34 H =>
      wIf t34 (
        wGet (nilA t31) H fun t39 H =>
        wGet (faddr 2 t39) H fun t40 H =>
        wGet (load1 t40 H) H fun t41 H =>
        wAgg (fillA [(.val (.int .i64 0)), (.val (.string ⟨#[]⟩)), (.val (.slice none 0 0))] [(0, 1, (.val (.int .i64 2)))]) H fun t42 H =>
        wNew 3 (AV.cells? t42) H fun t43 H =>
        wNewS 1 1 (fillA (List.replicate 1 [(.val (.pointer none))]).flatten [(0, 1, t43)]) H fun t44 H =>
        wApp 1 8 t41 t44 H fun t45 H =>
        wGet (nilA t31) H fun t46 H =>
        wGet (faddr 2 t46) H fun t47 H =>
        wPut (store1 t47 t45 H) fun _u H =>
        wGet (binA .add t10 (.val (.int .i64 1))) H fun t36 H =>
        I1 t36 H) (
        wMapN H fun t48 H =>
        wPut (insertA (.int .i64) t48 (.val (.int .i64 1)) (.val (.int .i64 0)) H) fun _u H =>
        wPut (insertA (.int .i64) t48 (.val (.int .i64 2)) (.val (.int .i64 0)) H) fun _u H =>
        wPut (insertA (.int .i64) t48 (.val (.int .i64 3)) (.val (.int .i64 1)) H) fun _u H =>
        wPut (insertA (.int .i64) t48 (.val (.int .i64 4)) (.val (.int .i64 2)) H) fun _u H =>
        wPut (insertA (.int .i64) t48 (.val (.int .i64 5)) (.val (.int .i64 2)) H) fun _u H =>
        wPut (insertA (.int .i64) t48 (.val (.int .i64 6)) (.val (.int .i64 1)) H) fun _u H =>
        wPut (insertA (.int .i64) t48 (.val (.int .i64 7)) (.val (.int .i64 2)) H) fun _u H =>
        wPut (insertA (.int .i64) t48 (.val (.int .i64 8)) (.val (.int .i64 2)) H) fun _u H =>
        wPut (insertA (.int .i64) t48 (.val (.int .i64 9)) (.val (.int .i64 1)) H) fun _u H =>
        wPut (insertA (.int .i64) t48 (.val (.int .i64 10)) (.val (.int .i64 1)) H) fun _u H =>
        wGet (lookupA (.int .i64) (.val (.int .i64 0)) true t48 a0 H) H fun t53 H =>
        wGet (extractA t53 0) H fun t54 H =>
        wGet (extractA t53 1) H fun t55 H =>
        wJoin 1 (fun J2 =>
          wGet (unA .not t55) H fun t58 H =>
          wGuard t58 false H (fun k => k t54 H) fun t60 H =>
          wGuard t58 false H (fun k => k t23 H) fun t61 H =>
          wGuard t58 false H (fun k => wGet (binA .neq t60 t61) H k) fun t62 H =>
          wGet (pickA t58 (.val (.bool true)) t62) H fun t63 H =>
          wGuard t63 false H (fun k => k a0 H) fun t65 H =>
          wGuard t63 false H (fun k => wGet (binA .neq t65 (.val (.int .i64 1))) H k) fun t66 H =>
          wGuard t63 false H (fun k => k t66 H) fun t67 H =>
          wGuard t67 true H (fun k => k a1 H) fun t68 H =>
          wGuard t67 true H (fun k => wGet (binA .neq t68 (.val (.string ⟨#[]⟩))) H k) fun t69 H =>
          wGuard t63 false H (fun k => wGet (pickA t67 t69 (.val (.bool false))) H k) fun t70 H =>
          wGet (pickA t63 (.val (.bool true)) t70) H fun t71 H =>
          wIf t71 (
            J2 (.val (.int .i64 1)) H) (
            wGet (binA .eql a0 (.val (.int .i64 1))) H fun t74 H =>
            wGuard t74 true H (fun k => k a1 H) fun t76 H =>
            wGuard t74 true H (fun k => wCall E P 2 [t76] H k) fun t77 H =>
            wGuard t74 true H (fun k => wGet (unA .not t77) H k) fun t78 H =>
            wGet (pickA t74 t78 (.val (.bool false))) H fun t79 H =>
            wIf t79 (
              J2 (.val (.int .i64 5)) H) (
              J2 (.val (.int .i64 0)) H))) fun t14 H =>
          wLoop 2 (fun I3 => I3 t31 (.val (.int .i64 0)) H) fun I3 t9 t15 H =>
            wGet (binA .lss t15 t27) H fun t82 H =>
            wIf t82 (
              wNewS 1 1 (fillA (List.replicate 1 [(.val (.pointer none))]).flatten [(0, 1, t9)]) H fun t86 H =>
              wAgg (fillA [(.val (.int .i64 0)), (.val (.string ⟨#[]⟩)), (.val (.slice none 0 0))] [(0, 1, (.val (.int .i64 3))), (2, 1, t86)]) H fun t87 H =>
              wNew 3 (AV.cells? t87) H fun t88 H =>
              wGet (binA .add t15 (.val (.int .i64 1))) H fun t84 H =>
              I3 t88 t84 H) (
              wJoin 1 (fun J4 =>
                wGet (binA .add t27 (.val (.int .i64 1))) H fun t90 H =>
                wGet (binA .gtr t90 (.val (.int .i64 20))) H fun t91 H =>
                wGuard t91 false H (fun k => k t14 H) fun t93 H =>
                wGuard t91 false H (fun k => wGet (binA .eql t93 (.val (.int .i64 0))) H k) fun t94 H =>
                wGuard t91 false H (fun k => k t94 H) fun t95 H =>
                wGuard t95 true H (fun k => k t23 H) fun t96 H =>
                wGuard t95 true H (fun k => wGet (binA .gtr t96 (.val (.int .i64 0))) H k) fun t97 H =>
                wGuard t91 false H (fun k => wGet (pickA t95 t97 (.val (.bool false))) H k) fun t98 H =>
                wGuard t91 false H (fun k => k t98 H) fun t99 H =>
                wGuard t99 true H (fun k => k t27 H) fun t100 H =>
                wGuard t99 true H (fun k => wGet (binA .add t100 (.val (.int .i64 2))) H k) fun t101 H =>
                wGuard t99 true H (fun k => wGet (binA .gtr t101 (.val (.int .i64 20))) H k) fun t102 H =>
                wGuard t91 false H (fun k => wGet (pickA t99 t102 (.val (.bool false))) H k) fun t103 H =>
                wGet (pickA t91 (.val (.bool true)) t103) H fun t104 H =>
                wIf t104 (
                  J4 (.val (.int .i64 4)) H) (
                  J4 t14 H)) fun t14_1 H =>
                wAgg (fillA [(.val (.int .i64 0)), (.val (.string ⟨#[]⟩)), (.val (.slice none 0 0))] [(0, 1, (.val (.int .i64 2)))]) H fun t105 H =>
                wNew 3 (AV.cells? t105) H fun t106 H =>
                wNewS 1 2 (fillA (List.replicate 2 [(.val (.pointer none))]).flatten [(0, 1, t106), (1, 1, (.val (.pointer none)))]) H fun t107 H =>
                wAgg (fillA [(.val (.int .i64 0)), (.val (.string ⟨#[]⟩)), (.val (.slice none 0 0))] [(0, 1, (.val (.int .i64 4))), (2, 1, t107)]) H fun t108 H =>
                wNew 3 (AV.cells? t108) H fun t109 H =>
                wCall E P 32 [t9] H fun t111 H =>
                wCall E P 89 [t111, t14_1] H fun t113 H =>
                wGuard t113 true H (fun k => k t109 H) fun t115 H =>
                wGuard t113 true H (fun k => wCall E P 32 [t115] H k) fun t116 H =>
                wGuard t113 true H (fun k => wCall E P 89 [t116, (.val (.int .i64 7))] H k) fun t117 H =>
                wGet (pickA t113 t117 (.val (.bool false))) H fun t118 H =>
                wGuard t118 true H (fun k => wCall E P 32 [(.val (.pointer none))] H k) fun t120 H =>
                wGuard t118 true H (fun k => wCall E P 89 [t120, (.val (.int .i64 7))] H k) fun t121 H =>
                wGet (pickA t118 t121 (.val (.bool false))) H fun t122 H =>
                R t122 H)))

end Go.Sc.F
