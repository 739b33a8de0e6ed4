/- CONTRACTS: package expr: an expression is made tidy. THE LAW ExprTidy, out of the contracts. (of the seat YtbogoilcfokihaaDoor) -/
import Derived.Test.YtbogoilcfokihaaDoorCore9
namespace Go.Sc.F
open Go Go.Sc
set_option linter.unusedVariables false

/-- signalbox/signalboxlaw.ExprTidies -/
def law_ExprTidies (E : Env) (P : Program) (a0 : AV) (H : AH) (R : Kt) : Prop :=
  wCall E P 169 [a0] H fun t8 H =>
  wGet (extractA t8 0) H fun t9 H =>
  wGet (extractA t8 1) H fun t10 H =>
  wGet (extractA t8 2) H fun t11 H =>
  wGet (unA .not t11) H fun t13 H =>
  wGuard t13 false H (fun k => k t9 H) fun t15 H =>
  wGuard t13 false H (fun k => wBool (eqA .iface t15 (.val (.nilIface))) H true k) fun t16 H =>
  wGuard t13 false H (fun k => k t16 H) fun t17 H =>
  wGuard t17 true H (fun k => k t9 H) fun t18 H =>
  wGuard t17 true H (fun k => wCall E P 170 [t18] H k) fun t19 H =>
  wGuard t17 true H (fun k => wCall E P 127 [t19] H k) fun t20 H =>
  wGuard t17 true H (fun k => k t10 H) fun t21 H =>
  wGuard t17 true H (fun k => wCall E P 171 [t21] H k) fun t22 H =>
  wGuard t17 true H (fun k => wCall E P 128 [t22] H k) fun t23 H =>
  wGuard t17 true H (fun k => wGet (binA .eql t20 t23) H k) fun t24 H =>
  wGuard t13 false H (fun k => wGet (pickA t17 t24 (.val (.bool false))) H k) fun t25 H =>
  wGet (pickA t13 (.val (.bool true)) t25) H fun t26 H =>
  R t26 H

/-- signalbox/signalboxlaw.read -/
def law_read (E : Env) (P : Program) (a0 : AV) (H : AH) (R : Kt) : Prop :=
  wGet (lenS a0) H fun t10 H =>
  wGet (binA .gtr t10 (.val (.int .i64 1000))) H fun t11 H =>
  wIf t11 (
    R (.tup [(.val (.nilIface)), (.val (.pointer none)), (.val (.bool false))]) H) (
    wCall E P 125 [a0] H fun t14 H =>
    wGet (extractA t14 0) H fun t15 H =>
    wGet (extractA t14 1) H fun t16 H =>
    wNew 2 (some [(.val (.int .i64 0)), (.val (.int .i64 0))]) H fun t6 H =>
    wPut (storeN 2 t6 t16 H) fun _u H =>
    wGet (faddr 0 t6) H fun t17 H =>
    wGet (load1 t17 H) H fun t18 H =>
    wGet (binA .neq t18 (.val (.int .i64 0))) H fun t19 H =>
    wIf t19 (
      R (.tup [(.val (.nilIface)), (.val (.pointer none)), (.val (.bool false))]) H) (
      wCall E P 126 [a0] H fun t22 H =>
      wGet (extractA t22 0) H fun t23 H =>
      wGet (extractA t22 1) H fun t24 H =>
      wBool (eqA .iface t24 (.val (.nilIface))) H true fun t26 H =>
      wIf t26 (
        R (.tup [(.val (.nilIface)), t15, (.val (.bool true))]) H) (
        R (.tup [t23, t15, (.val (.bool true))]) H)))

/-- signalbox/expr.Tidy -/
def expr_Tidy (E : Env) (P : Program) (a0 : AV) (H : AH) (R : Kt) : Prop :=
  wGet (assertA 10 (.agg [(.val (.nilIface))]) a0) H fun t14 H =>
  wGet (extractA t14 1) H fun t15 H =>
  wGet (extractA t14 0) H fun t16 H =>
  wIf t15 (
    wNew 1 (some [(.val (.nilIface))]) H fun t3 H =>
    wPut (storeN 1 t3 t16 H) fun _u H =>
    wGet (faddr 0 t3) H fun t17 H =>
    wGet (load1 t17 H) H fun t18 H =>
    wCall E P 170 [t18] H fun t19 H =>
    wGet (assertA 11 (.val (.bool false)) t19) H fun t23 H =>
    wGet (extractA t23 1) H fun t24 H =>
    wGet (extractA t23 0) H fun t25 H =>
    wIf t24 (
      wGet (unA .not t25) H fun t27 H =>
      R (.ifc 11 t27) H) (
      wGet (assertA 10 (.agg [(.val (.nilIface))]) t19) H fun t29 H =>
      wGet (extractA t29 1) H fun t30 H =>
      wGet (extractA t29 0) H fun t31 H =>
      wIf t30 (
        wNew 1 (some [(.val (.nilIface))]) H fun t5 H =>
        wPut (storeN 1 t5 t31 H) fun _u H =>
        wGet (faddr 0 t5) H fun t32 H =>
        wGet (load1 t32 H) H fun t33 H =>
        R t33 H) (
        wAgg (fillA [(.val (.nilIface))] [(0, 1, t19)]) H fun t21 H =>
        R (.ifc 10 t21) H))) (
    wGet (assertA 9 (.val (.slice none 0 0)) a0) H fun t34 H =>
    wGet (extractA t34 1) H fun t35 H =>
    wGet (extractA t34 0) H fun t36 H =>
    wIf t35 (
      wCall E P 173 [t36, (.val (.bool true))] H fun t39 H =>
      wGet (extractA t39 0) H fun t40 H =>
      wGet (extractA t39 1) H fun t41 H =>
      wIf t41 (
        R (.ifc 11 (.val (.bool false))) H) (
        wGet (lenA t40) H fun t47 H =>
        wGet (binA .eql t47 (.val (.int .i64 0))) H fun t48 H =>
        wIf t48 (
          R (.ifc 11 (.val (.bool true))) H) (
          wGet (lenA t40) H fun t52 H =>
          wGet (binA .eql t52 (.val (.int .i64 1))) H fun t53 H =>
          wIf t53 (
            wGet (iaddr 1 t40 (.val (.int .i64 0))) H fun t55 H =>
            wGet (load1 t55 H) H fun t56 H =>
            R t56 H) (
            R (.ifc 9 t40) H)))) (
      wGet (assertA 8 (.val (.slice none 0 0)) a0) H fun t59 H =>
      wGet (extractA t59 1) H fun t60 H =>
      wGet (extractA t59 0) H fun t61 H =>
      wIf t60 (
        wCall E P 173 [t61, (.val (.bool false))] H fun t64 H =>
        wGet (extractA t64 0) H fun t65 H =>
        wGet (extractA t64 1) H fun t66 H =>
        wIf t66 (
          R (.ifc 11 (.val (.bool true))) H) (
          wGet (lenA t65) H fun t72 H =>
          wGet (binA .eql t72 (.val (.int .i64 0))) H fun t73 H =>
          wIf t73 (
            R (.ifc 11 (.val (.bool false))) H) (
            wGet (lenA t65) H fun t77 H =>
            wGet (binA .eql t77 (.val (.int .i64 1))) H fun t78 H =>
            wIf t78 (
              wGet (iaddr 1 t65 (.val (.int .i64 0))) H fun t80 H =>
              wGet (load1 t80 H) H fun t81 H =>
              R t81 H) (
              R (.ifc 8 t65) H)))) (
        R a0 H)))

/-- (*signalbox/signalboxref.Expr).Tidy -/
def pref_Expr_Tidy (E : Env) (P : Program) (a0 : AV) (H : AH) (R : Kt) : Prop :=
  wGet (nilA a0) H fun t17 H =>
  wGet (faddr 0 t17) H fun t18 H =>
  wGet (load1 t18 H) H fun t19 H =>
  wGet (binA .eql t19 (.val (.string ⟨#[33]⟩))) H fun t21 H =>
  wIf t21 (
    wGet (nilA a0) H fun t23 H =>
    wGet (faddr 2 t23) H fun t24 H =>
    wGet (load1 t24 H) H fun t25 H =>
    wGet (iaddr 1 t25 (.val (.int .i64 0))) H fun t26 H =>
    wGet (load1 t26 H) H fun t27 H =>
    wCall E P 171 [t27] H fun t28 H =>
    wGet (nilA t28) H fun t30 H =>
    wGet (faddr 0 t30) H fun t31 H =>
    wGet (load1 t31 H) H fun t32 H =>
    wGet (binA .eql t32 (.val (.string ⟨#[48]⟩))) H fun t34 H =>
    wIf t34 (
      wAgg (fillA [(.val (.string ⟨#[]⟩)), (.val (.string ⟨#[]⟩)), (.val (.slice none 0 0))] [(0, 1, (.val (.string ⟨#[49]⟩)))]) H fun t35 H =>
      wNew 3 (AV.cells? t35) H fun t36 H =>
      R t36 H) (
      wGet (binA .eql t32 (.val (.string ⟨#[49]⟩))) H fun t38 H =>
      wIf t38 (
        wAgg (fillA [(.val (.string ⟨#[]⟩)), (.val (.string ⟨#[]⟩)), (.val (.slice none 0 0))] [(0, 1, (.val (.string ⟨#[48]⟩)))]) H fun t39 H =>
        wNew 3 (AV.cells? t39) H fun t40 H =>
        R t40 H) (
        wCall E P 174 [t28] H fun t42 H =>
        R t42 H))) (
    wJoin 1 (fun J1 =>
      wGet (binA .eql t19 (.val (.string ⟨#[38]⟩))) H fun t44 H =>
      wIf t44 (
        J1 t44 H) (
        wGet (binA .eql t19 (.val (.string ⟨#[124]⟩))) H fun t45 H =>
        J1 t45 H)) fun t43 H =>
      wIf t43 (
        wJoin 2 (fun J2 =>
          wGet (nilA a0) H fun t47 H =>
          wGet (faddr 0 t47) H fun t48 H =>
          wGet (load1 t48 H) H fun t49 H =>
          wGet (binA .eql t49 (.val (.string ⟨#[124]⟩))) H fun t50 H =>
          wIf t50 (
            J2 (.val (.string ⟨#[48]⟩)) (.val (.string ⟨#[49]⟩)) H) (
            J2 (.val (.string ⟨#[49]⟩)) (.val (.string ⟨#[48]⟩)) H)) fun t4 t5 H =>
          wGet (nilA a0) H fun t52 H =>
          wGet (faddr 2 t52) H fun t53 H =>
          wGet (load1 t53 H) H fun t54 H =>
          wGet (lenA t54) H fun t55 H =>
          wLoop 2 (fun I3 => I3 (.val (.slice none 0 0)) (.val (.int .i64 0)) H) fun I3 t6 t56 H =>
            wGet (binA .lss t56 t55) H fun t57 H =>
            wIf t57 (
              wGet (iaddr 1 t54 t56) H fun t58 H =>
              wGet (load1 t58 H) H fun t59 H =>
              wCall E P 171 [t59] H fun t61 H =>
              wNewS 1 1 (fillA (List.replicate 1 [(.val (.pointer none))]).flatten [(0, 1, t61)]) H fun t63 H =>
              wJoin 1 (fun J4 =>
                wGet (nilA t61) H fun t65 H =>
                wGet (faddr 0 t65) H fun t66 H =>
                wGet (load1 t66 H) H fun t67 H =>
                wGet (nilA a0) H fun t69 H =>
                wGet (faddr 0 t69) H fun t70 H =>
                wGet (load1 t70 H) H fun t71 H =>
                wGet (binA .eql t67 t71) H fun t72 H =>
                wIf t72 (
                  wGet (nilA t61) H fun t74 H =>
                  wGet (faddr 2 t74) H fun t75 H =>
                  wGet (load1 t75 H) H fun t76 H =>
                  J4 t76 H) (
                  J4 t63 H)) fun t10 H =>
                wJoin 1 (fun J5 =>
                  wGet (nilA t61) H fun t78 H =>
                  wGet (faddr 0 t78) H fun t79 H =>
                  wGet (load1 t79 H) H fun t80 H =>
                  wGet (binA .eql t80 t4) H fun t82 H =>
                  wIf t82 (
                    J5 (.val (.slice none 0 0)) H) (
                    J5 t10 H)) fun t10_1 H =>
                  wGet (nilA t61) H fun t84 H =>
                  wGet (faddr 0 t84) H fun t85 H =>
                  wGet (load1 t85 H) H fun t86 H =>
                  wGet (binA .eql t86 t5) H fun t88 H =>
                  wIf t88 (
                    wAgg (fillA [(.val (.string ⟨#[]⟩)), (.val (.string ⟨#[]⟩)), (.val (.slice none 0 0))] [(0, 1, t5)]) H fun t90 H =>
                    wNew 3 (AV.cells? t90) H fun t91 H =>
                    R t91 H) (
                    wGet (lenA t10_1) H fun t93 H =>
                    wLoop 2 (fun I6 => I6 t6 (.val (.int .i64 0)) H) fun I6 t6_1 t94 H =>
                      wGet (binA .lss t94 t93) H fun t95 H =>
                      wIf t95 (
                        wJoin 1 (fun J7 =>
                          wGet (iaddr 1 t10_1 t94) H fun t96 H =>
                          wGet (load1 t96 H) H fun t97 H =>
                          wGet (lenA t6_1) H fun t99 H =>
                          wLoop 2 (fun I8 => I8 (.val (.bool false)) (.val (.int .i64 0)) H) fun I8 t13 t100 H =>
                            wGet (binA .lss t100 t99) H fun t101 H =>
                            wIf t101 (
                              wGet (iaddr 1 t6_1 t100) H fun t102 H =>
                              wGet (load1 t102 H) H fun t103 H =>
                              wCall E P 128 [t103] H fun t105 H =>
                              wCall E P 174 [t97] H fun t107 H =>
                              wCall E P 128 [t107] H fun t108 H =>
                              wGet (binA .eql t105 t108) H fun t109 H =>
                              wIf t109 (
                                wAgg (fillA [(.val (.string ⟨#[]⟩)), (.val (.string ⟨#[]⟩)), (.val (.slice none 0 0))] [(0, 1, t5)]) H fun t111 H =>
                                wNew 3 (AV.cells? t111) H fun t112 H =>
                                R t112 H) (
                                wGuard t13 false H (fun k => k t103 H) fun t115 H =>
                                wGuard t13 false H (fun k => wCall E P 128 [t115] H k) fun t116 H =>
                                wGuard t13 false H (fun k => k t97 H) fun t117 H =>
                                wGuard t13 false H (fun k => wCall E P 128 [t117] H k) fun t118 H =>
                                wGuard t13 false H (fun k => wGet (binA .eql t116 t118) H k) fun t119 H =>
                                wGet (pickA t13 (.val (.bool true)) t119) H fun t120 H =>
                                wGet (binA .add t100 (.val (.int .i64 1))) H fun t121 H =>
                                I8 t120 t121 H)) (
                              wGet (unA .not t13) H fun t123 H =>
                              wIf t123 (
                                wNewS 1 1 (fillA (List.replicate 1 [(.val (.pointer none))]).flatten [(0, 1, t97)]) H fun t126 H =>
                                wApp 1 8 t6_1 t126 H fun t127 H =>
                                J7 t127 H) (
                                J7 t6_1 H))) fun t6_2 H =>
                          wGet (binA .add t94 (.val (.int .i64 1))) H fun t128 H =>
                          I6 t6_2 t128 H) (
                        wGet (binA .add t56 (.val (.int .i64 1))) H fun t129 H =>
                        I3 t6_1 t129 H))) (
              wGet (lenA t6) H fun t131 H =>
              wGet (binA .eql t131 (.val (.int .i64 0))) H fun t133 H =>
              wIf t133 (
                wAgg (fillA [(.val (.string ⟨#[]⟩)), (.val (.string ⟨#[]⟩)), (.val (.slice none 0 0))] [(0, 1, t4)]) H fun t135 H =>
                wNew 3 (AV.cells? t135) H fun t136 H =>
                R t136 H) (
                wGet (binA .eql t131 (.val (.int .i64 1))) H fun t138 H =>
                wIf t138 (
                  wGet (iaddr 1 t6 (.val (.int .i64 0))) H fun t140 H =>
                  wGet (load1 t140 H) H fun t141 H =>
                  R t141 H) (
                  wGet (nilA a0) H fun t143 H =>
                  wGet (faddr 0 t143) H fun t144 H =>
                  wGet (load1 t144 H) H fun t145 H =>
                  wAgg (fillA [(.val (.string ⟨#[]⟩)), (.val (.string ⟨#[]⟩)), (.val (.slice none 0 0))] [(0, 1, t145), (2, 1, t6)]) H fun t147 H =>
                  wNew 3 (AV.cells? t147) H fun t148 H =>
                  R t148 H)))) (
        R a0 H))

/-- signalbox/expr.parts -/
def expr_parts (E : Env) (P : Program) (a0 a1 : AV) (H : AH) (R : Kt) : Prop :=
  wNew 1 (some [(.val (.slice none 0 0))]) H fun t6 H =>
  wNew 1 (some [(.val (.slice none 0 0))]) H fun t7 H =>
  wGet (lenA a0) H fun t18 H =>
  wLoop 1 (fun I1 => I1 (.val (.int .i64 0)) H) fun I1 t19 H =>
    wGet (binA .lss t19 t18) H fun t20 H =>
    wIf t20 (
      wGet (iaddr 1 a0 t19) H fun t21 H =>
      wGet (load1 t21 H) H fun t22 H =>
      wJoin 1 (fun J2 =>
        wCall E P 170 [t22] H fun t24 H =>
        wGet (assertA 11 (.val (.bool false)) t24) H fun t27 H =>
        wGet (extractA t27 1) H fun t28 H =>
        wGet (extractA t27 0) H fun t29 H =>
        wIf t28 (
          wBool (eqA .bool t29 a1) H true fun t32 H =>
          wIf t32 (
            R (.tup [(.val (.slice none 0 0)), (.val (.bool true))]) H) (
            J2 (.val (.slice none 0 0)) H)) (
          wGet (assertA 9 (.val (.slice none 0 0)) t24) H fun t33 H =>
          wGet (extractA t33 1) H fun t34 H =>
          wGet (extractA t33 0) H fun t35 H =>
          wIf t34 (
            wNewS 1 1 (fillA (List.replicate 1 [(.val (.nilIface))]).flatten [(0, 1, (.ifc 9 t35))]) H fun t38 H =>
            wIf a1 (
              J2 t35 H) (
              J2 t38 H)) (
            wGet (assertA 8 (.val (.slice none 0 0)) t24) H fun t41 H =>
            wGet (extractA t41 1) H fun t42 H =>
            wGet (extractA t41 0) H fun t43 H =>
            wIf t42 (
              wNewS 1 1 (fillA (List.replicate 1 [(.val (.nilIface))]).flatten [(0, 1, (.ifc 8 t43))]) H fun t46 H =>
              wGet (unA .not a1) H fun t48 H =>
              wIf t48 (
                J2 t43 H) (
                J2 t46 H)) (
              wNewS 1 1 (fillA (List.replicate 1 [(.val (.nilIface))]).flatten [(0, 1, t24)]) H fun t26 H =>
              J2 t26 H)))) fun t11 H =>
        wCall E P 176 [t11, (.fn 175 [] [t7, t6])] H fun t52 H =>
        wIf t52 (
          R (.tup [(.val (.slice none 0 0)), (.val (.bool true))]) H) (
          wGet (binA .add t19 (.val (.int .i64 1))) H fun t53 H =>
          I1 t53 H)) (
      wGet (load1 t6 H) H fun t54 H =>
      R (.tup [t54, (.val (.bool false))]) H)

/-- (*signalbox/signalboxref.Expr).other -/
def pref_Expr_other (E : Env) (P : Program) (a0 : AV) (H : AH) (R : Kt) : Prop :=
  wGet (nilA a0) H fun t4 H =>
  wGet (faddr 0 t4) H fun t5 H =>
  wGet (load1 t5 H) H fun t6 H =>
  wGet (binA .eql t6 (.val (.string ⟨#[33]⟩))) H fun t7 H =>
  wIf t7 (
    wGet (nilA a0) H fun t9 H =>
    wGet (faddr 2 t9) H fun t10 H =>
    wGet (load1 t10 H) H fun t11 H =>
    wGet (iaddr 1 t11 (.val (.int .i64 0))) H fun t12 H =>
    wGet (load1 t12 H) H fun t13 H =>
    R t13 H) (
    wNewS 1 1 (fillA (List.replicate 1 [(.val (.pointer none))]).flatten [(0, 1, a0)]) H fun t15 H =>
    wAgg (fillA [(.val (.string ⟨#[]⟩)), (.val (.string ⟨#[]⟩)), (.val (.slice none 0 0))] [(0, 1, (.val (.string ⟨#[33]⟩))), (2, 1, t15)]) H fun t16 H =>
    wNew 3 (AV.cells? t16) H fun t17 H =>
    R t17 H)

/-- signalbox/expr.parts$1 -/
def expr_parts_c1 (E : Env) (P : Program) (a0 a1 a2 : AV) (H : AH) (R : Kt) : Prop :=
  wCall E P 127 [a0] H fun t10 H =>
  wGet (load1 a1 H) H fun t11 H =>
  wCall E P 5 [t11, t10] H fun t13 H =>
  wIf t13 (
    R (.val (.bool false)) H) (
    wAgg (fillA [(.val (.nilIface))] [(0, 1, a0)]) H fun t15 H =>
    wCall E P 127 [(.ifc 10 t15)] H fun t17 H =>
    wJoin 1 (fun J1 =>
      wGet (assertA 10 (.agg [(.val (.nilIface))]) a0) H fun t20 H =>
      wGet (extractA t20 0) H fun t21 H =>
      wGet (extractA t20 1) H fun t22 H =>
      wNew 1 (some [(.val (.nilIface))]) H fun t7 H =>
      wPut (storeN 1 t7 t21 H) fun _u H =>
      wIf t22 (
        wGet (faddr 0 t7) H fun t24 H =>
        wGet (load1 t24 H) H fun t25 H =>
        wCall E P 127 [t25] H fun t26 H =>
        J1 t26 H) (
        J1 t17 H)) fun t6 H =>
      wGet (load1 a1 H) H fun t27 H =>
      wCall E P 5 [t27, t6] H fun t29 H =>
      wIf t29 (
        R (.val (.bool true)) H) (
        wJoin 0 (fun J2 =>
          wGet (load1 a2 H) H fun t30 H =>
          wGet (load1 a1 H) H fun t34 H =>
          (
            wNewS 1 1 (fillA (List.replicate 1 [(.val (.nilIface))]).flatten [(0, 1, a0)]) H fun t32 H =>
            (wGet (load1 a2 H) H (fun y H2 => y = t30 ∧ H2 = H)) ∧
            (wGet (load1 a1 H) H (fun y H2 => y = t34 ∧ H2 = H)) ∧
            (
              wApp 1 16 t30 t32 H fun t33 H =>
              (wGet (load1 a1 H) H (fun y H2 => y = t34 ∧ H2 = H)) ∧
              wNewS 1 1 (fillA (List.replicate 1 [(.val (.string ⟨#[]⟩))]).flatten [(0, 1, t10)]) H fun t36 H =>
              (wGet (load1 a2 H) H (fun y H2 => y = t30 ∧ H2 = H)) ∧
              (wGet (load1 a1 H) H (fun y H2 => y = t34 ∧ H2 = H)) ∧
              wApp 1 16 t34 t36 H fun t37 H =>
              wPut (store1 a2 t33 H) fun _u H =>
              wPut (store1 a1 t37 H) fun _u H =>
              J2 H) ∧
            (
              wNewS 1 1 (fillA (List.replicate 1 [(.val (.string ⟨#[]⟩))]).flatten [(0, 1, t10)]) H fun t36_1 H =>
              (wGet (load1 a2 H) H (fun y H2 => y = t30 ∧ H2 = H)) ∧
              (wGet (load1 a1 H) H (fun y H2 => y = t34 ∧ H2 = H)) ∧
              wApp 1 16 t30 t32 H fun t33_1 H =>
              (wGet (load1 a1 H) H (fun y H2 => y = t34 ∧ H2 = H)) ∧
              wApp 1 16 t34 t36_1 H fun t37_1 H =>
              wPut (store1 a2 t33_1 H) fun _u H =>
              wPut (store1 a1 t37_1 H) fun _u H =>
              J2 H)) ∧
          (
            wNewS 1 1 (fillA (List.replicate 1 [(.val (.string ⟨#[]⟩))]).flatten [(0, 1, t10)]) H fun t36_2 H =>
            (wGet (load1 a2 H) H (fun y H2 => y = t30 ∧ H2 = H)) ∧
            (wGet (load1 a1 H) H (fun y H2 => y = t34 ∧ H2 = H)) ∧
            wNewS 1 1 (fillA (List.replicate 1 [(.val (.nilIface))]).flatten [(0, 1, a0)]) H fun t32_1 H =>
            (wGet (load1 a2 H) H (fun y H2 => y = t30 ∧ H2 = H)) ∧
            (wGet (load1 a1 H) H (fun y H2 => y = t34 ∧ H2 = H)) ∧
            wApp 1 16 t30 t32_1 H fun t33_2 H =>
            (wGet (load1 a1 H) H (fun y H2 => y = t34 ∧ H2 = H)) ∧
            wApp 1 16 t34 t36_2 H fun t37_2 H =>
            wPut (store1 a2 t33_2 H) fun _u H =>
            wPut (store1 a1 t37_2 H) fun _u H =>
            J2 H)) fun H =>
          R (.val (.bool false)) H))

/-- slices.ContainsFunc[[]signalbox/expr.Expr,signalbox/expr.Expr] -/
def slices_ContainsFunc_Lexpr_Expr_expr_Expr (E : Env) (P : Program) (a0 a1 : AV) (H : AH) (R : Kt) : Prop :=
  wCall E P 177 [a0, a1] H fun t7 H =>
  wGet (binA .geq t7 (.val (.int .i64 0))) H fun t8 H =>
  R t8 H

/-- slices.IndexFunc[[]signalbox/expr.Expr,signalbox/expr.Expr] -/
def slices_IndexFunc_Lexpr_Expr_expr_Expr (E : Env) (P : Program) (a0 a1 : AV) (H : AH) (R : Kt) : Prop :=
  wGet (lenA a0) H fun t7 H =>
  wLoop 1 (fun I1 => I1 (.val (.int .i64 0)) H) fun I1 t8 H =>
    wGet (binA .lss t8 t7) H fun t9 H =>
    wIf t9 (
      wGet (iaddr 1 a0 t8) H fun t14 H =>
      wGet (load1 t14 H) H fun t15 H =>
      wCallV E P a1 [t15] H fun t16 H =>
      wIf t16 (
        R t8 H) (
        wGet (binA .add t8 (.val (.int .i64 1))) H fun t18 H =>
        I1 t18 H)) (
      R (.val (.int .i64 (-1))) H)

end Go.Sc.F
namespace Go.Sc
open Go
set_option linter.unusedSimpArgs false
set_option linter.unusedVariables false
set_option linter.unnecessarySimpa false

structure TidyBodies (E : Env) (P : Program) : Prop where
  n : NameBodies E P
  w : WriteBodies E P
  tidy : Body1 E P 170 F.expr_Tidy
  parts : Body2 E P 173 F.expr_parts
  parts1 : Body3 E P 175 F.expr_parts_c1
  con : Body2 E P 176 F.slices_ContainsFunc_Lexpr_Expr_expr_Expr
  ix : Body2 E P 177 F.slices_IndexFunc_Lexpr_Expr_expr_Expr
/-- what has been found so far: the parts, and their texts -/
def PH (g0 g1 : Nat) (acc : List Ex) (H : AH) : Prop := ∃ x0 x1 z0 z1 c, H = ⟨[.cells g0 1 [x0], .cells g1 1 [x1], z0, z1], c⟩ ∧ Gr 1 z0 2 x0 (Ex.encL acc) acc.length ∧ Gr 1 z1 3 x1 ((acc.map (Ex.wr 0)).map fun s => S s) acc.length
theorem hasT_dec (l : List Ex) (t : Str) : decide (t ∈ l.map (Ex.wr 0)) = hasT l t := by
  rw [Bool.eq_iff_iff]
  unfold hasT
  simp [List.any_eq_true]
theorem kill4 {a b z0 z1 e : Blk} {c : Nat} {t : Str} : Ghost [S t] ⟨[a, b, z0, z1, e], c⟩ [S t] ⟨[a, b, z0, z1], c⟩ :=
  ghost_kill (H := ⟨[a, b, z0, z1, e], c⟩) (H' := ⟨[a, b, z0, z1], c⟩) (S := fun i => decide (i = 4)) rfl (.keep rfl (KB.same _) (.keep rfl (KB.same _) (.keep rfl (KB.same _) (.keep rfl (KB.same _) (.cut fun j x hx => by
    cases j with
    | zero => exact .inl rfl
    | succ j => simp at hx))))) (FkL.same _)
section
variable {E : Env} {P : Program}
theorem containsT (B : TidyBodies E P) {acc : List Ex} {z : Blk} {b : Nat} {x : AV} (hg : Gr 1 z b x ((acc.map (Ex.wr 0)).map fun s => S s) acc.length) (hn : acc.length ≤ 1000000) (t : Str) {H : AH} {K : Kt} (hK : ∀ n, K (Bo (hasT acc t)) ⟨H.bs, n⟩) : wCall E P 5 [x, S t] H K := by
  have hlen : (acc.map (Ex.wr 0)).length = acc.length := List.length_map _
  refine wCall.fxs (ContainsS_spec (IndexS_spec B.n.index) B.n.contains (acc.map (Ex.wr 0)) t (by rw [hlen]; omega)) (.cons (by
    have := hg.sub
    rw [Lm_S, hlen]; exact this) (.refl _)) fun n => ?_
  rw [hasT_dec]
  exact hK n
set_option maxHeartbeats 2000000 in
theorem add_spec (B : TidyBodies E P) {g0 g1 : Nat} {acc : List Ex} {y : Ex} (hn : acc.length ≤ 1000000) (hw : y.wt ≤ 900000) (hf : y.fine) {H : AH} (hH : PH g0 g1 acc H) :
    ACalls E P 175 [y.enc, .ptrL 1 0 g1, .ptrL 0 0 g0] H fun r H' => match addP acc y with
      | none => r = Bo true ∧ PH g0 g1 acc H'
      | some acc' => r = Bo false ∧ PH g0 g1 acc' H' := by
  obtain ⟨x0, x1, z0, z1, c, rfl, hg0, hg1⟩ := hH
  refine B.parts1 _ _ _ _ _ ?_
  unfold F.expr_parts_c1
  have hb : (acc.length + 1) * 16 ≤ mostBytes ∧ acc.length + 1 ≤ mostBytes := by simp [mostBytes]; omega
  refine wCall.fx (Text_spec B.w y (by omega) hf) fun n1 => ?_
  simp only [nd0, Y1n, Y1o, Y1p, Y1q, Y1w, Y1x, Y1y, Y1z, Y20, Y21, Y28, Y2a, AV.cells?, Nat.reduceAdd, Nat.reduceMul]
  refine containsT B hg1 hn _ fun n2 => ?_
  unfold addP
  by_cases h1 : hasT acc (y.wr 0) = true
  · rw [if_pos h1]
    rw [h1]
    simp only [nd0, Y1n, Y1o, Y1p, Y1q, Y1w, Y1x, Y1y, Y1z, Y20, Y21, Y28, Y2a, AV.cells?, Nat.reduceAdd, Nat.reduceMul]
    exact ⟨trivial, x0, x1, z0, z1, n2, rfl, hg0, hg1⟩
  rw [if_neg h1, Bool.not_eq_true] at *
  rw [h1]
  simp only [nd0, Y1n, Y1o, Y1p, Y1q, Y1w, Y1x, Y1y, Y1z, Y20, Y21, Y28, Y2a, AV.cells?, Nat.reduceAdd, Nat.reduceMul, show fillA [nilE] [(0, 1, y.enc)] = some [y.enc] from by rw [fillA_one (Ex.enc_scalar y) (by simp)]; rfl]
  have hnot : FX E P 127 [.ifc 10 (.agg [y.enc])] (S ((Ex.not y).wr 0)) := Text_spec B.w (.not y) (by simp only [Ex.wt]; omega) hf
  refine wCall.fx hnot fun n3 => ?_
  refine wJoin.one (fun t H => t = S (y.other.wr 0) ∧ ∃ n, H = ⟨[.cells g0 1 [x0], .cells g1 1 [x1], z0, z1], n⟩) ?_ ?_
  · have done : ∀ (o : Blk) (t : Str) n, t = y.other.wr 0 → gh1 (fun t H => t = S (y.other.wr 0) ∧ ∃ n, H = ⟨[.cells g0 1 [x0], .cells g1 1 [x1], z0, z1], n⟩) (S t) ⟨[.cells g0 1 [x0], .cells g1 1 [x1], z0, z1, o], n⟩ := fun o t n ht => gh1.of kill4 ⟨by rw [ht], n, rfl⟩
    have hsub1 : ∀ w : Ex, putL [nilE] 0 [w.enc] = some [w.enc] := fun _ => rfl
    have hz : putL [nilE] 0 [nilE] = some [nilE] := rfl
    cases y with
    | not w =>
      simp only [Ex.wt] at hw
      simp only [Ex.enc]
      simp only [nd0, Y1n, Y1o, Y1p, Y1q, Y1w, Y1x, Y1y, Y1z, Y20, Y21, Y28, Y2a, AV.cells?, Nat.reduceAdd, Nat.reduceMul, asA, show (10 : Nat) = 10 ↔ True by decide]
      refine wNew.L (l := [nilE]) rfl ?_
      simp only [nd0, Y1n, Y1o, Y1p, Y1q, Y1w, Y1x, Y1y, Y1z, Y20, Y21, Y28, Y2a, AV.cells?, Nat.reduceAdd, Nat.reduceMul]
      rw [storeN_L (n := 1) (xs := [w.enc]) rfl (by simp [Ex.enc_scalar])]
      simp only [nd0, Y1n, Y1o, Y1p, Y1q, Y1w, Y1x, Y1y, Y1z, Y20, Y21, Y28, Y2a, AV.cells?, Nat.reduceAdd, Nat.reduceMul, hsub1]
      refine wCall.fx (Text_spec B.w w (by omega) hf) fun n4 => ?_
      exact done _ _ _ rfl
    | k b =>
      simp only [Ex.enc]
      simp only [nd0, Y1n, Y1o, Y1p, Y1q, Y1w, Y1x, Y1y, Y1z, Y20, Y21, Y28, Y2a, AV.cells?, Nat.reduceAdd, Nat.reduceMul, asA, show (11 : Nat) = 10 ↔ False by decide]
      refine wNew.L (l := [nilE]) rfl ?_
      simp only [nd0, Y1n, Y1o, Y1p, Y1q, Y1w, Y1x, Y1y, Y1z, Y20, Y21, Y28, Y2a, AV.cells?, Nat.reduceAdd, Nat.reduceMul]
      rw [storeN_L (n := 1) (xs := [nilE]) rfl rfl]
      simp only [nd0, Y1n, Y1o, Y1p, Y1q, Y1w, Y1x, Y1y, Y1z, Y20, Y21, Y28, Y2a, AV.cells?, Nat.reduceAdd, Nat.reduceMul, hz]
      exact done _ _ _ rfl
    | bit b =>
      simp only [Ex.enc]
      simp only [nd0, Y1n, Y1o, Y1p, Y1q, Y1w, Y1x, Y1y, Y1z, Y20, Y21, Y28, Y2a, AV.cells?, Nat.reduceAdd, Nat.reduceMul, asA, show (14 : Nat) = 10 ↔ False by decide]
      refine wNew.L (l := [nilE]) rfl ?_
      simp only [nd0, Y1n, Y1o, Y1p, Y1q, Y1w, Y1x, Y1y, Y1z, Y20, Y21, Y28, Y2a, AV.cells?, Nat.reduceAdd, Nat.reduceMul]
      rw [storeN_L (n := 1) (xs := [nilE]) rfl rfl]
      simp only [nd0, Y1n, Y1o, Y1p, Y1q, Y1w, Y1x, Y1y, Y1z, Y20, Y21, Y28, Y2a, AV.cells?, Nat.reduceAdd, Nat.reduceMul, hz]
      exact done _ _ _ rfl
    | rise b =>
      simp only [Ex.enc]
      simp only [nd0, Y1n, Y1o, Y1p, Y1q, Y1w, Y1x, Y1y, Y1z, Y20, Y21, Y28, Y2a, AV.cells?, Nat.reduceAdd, Nat.reduceMul, asA, show (12 : Nat) = 10 ↔ False by decide]
      refine wNew.L (l := [nilE]) rfl ?_
      simp only [nd0, Y1n, Y1o, Y1p, Y1q, Y1w, Y1x, Y1y, Y1z, Y20, Y21, Y28, Y2a, AV.cells?, Nat.reduceAdd, Nat.reduceMul]
      rw [storeN_L (n := 1) (xs := [nilE]) rfl rfl]
      simp only [nd0, Y1n, Y1o, Y1p, Y1q, Y1w, Y1x, Y1y, Y1z, Y20, Y21, Y28, Y2a, AV.cells?, Nat.reduceAdd, Nat.reduceMul, hz]
      exact done _ _ _ rfl
    | fall b =>
      simp only [Ex.enc]
      simp only [nd0, Y1n, Y1o, Y1p, Y1q, Y1w, Y1x, Y1y, Y1z, Y20, Y21, Y28, Y2a, AV.cells?, Nat.reduceAdd, Nat.reduceMul, asA, show (13 : Nat) = 10 ↔ False by decide]
      refine wNew.L (l := [nilE]) rfl ?_
      simp only [nd0, Y1n, Y1o, Y1p, Y1q, Y1w, Y1x, Y1y, Y1z, Y20, Y21, Y28, Y2a, AV.cells?, Nat.reduceAdd, Nat.reduceMul]
      rw [storeN_L (n := 1) (xs := [nilE]) rfl rfl]
      simp only [nd0, Y1n, Y1o, Y1p, Y1q, Y1w, Y1x, Y1y, Y1z, Y20, Y21, Y28, Y2a, AV.cells?, Nat.reduceAdd, Nat.reduceMul, hz]
      exact done _ _ _ rfl
    | and b =>
      simp only [Ex.enc]
      simp only [nd0, Y1n, Y1o, Y1p, Y1q, Y1w, Y1x, Y1y, Y1z, Y20, Y21, Y28, Y2a, AV.cells?, Nat.reduceAdd, Nat.reduceMul, asA, show (9 : Nat) = 10 ↔ False by decide]
      refine wNew.L (l := [nilE]) rfl ?_
      simp only [nd0, Y1n, Y1o, Y1p, Y1q, Y1w, Y1x, Y1y, Y1z, Y20, Y21, Y28, Y2a, AV.cells?, Nat.reduceAdd, Nat.reduceMul]
      rw [storeN_L (n := 1) (xs := [nilE]) rfl rfl]
      simp only [nd0, Y1n, Y1o, Y1p, Y1q, Y1w, Y1x, Y1y, Y1z, Y20, Y21, Y28, Y2a, AV.cells?, Nat.reduceAdd, Nat.reduceMul, hz]
      exact done _ _ _ rfl
    | or b =>
      simp only [Ex.enc]
      simp only [nd0, Y1n, Y1o, Y1p, Y1q, Y1w, Y1x, Y1y, Y1z, Y20, Y21, Y28, Y2a, AV.cells?, Nat.reduceAdd, Nat.reduceMul, asA, show (8 : Nat) = 10 ↔ False by decide]
      refine wNew.L (l := [nilE]) rfl ?_
      simp only [nd0, Y1n, Y1o, Y1p, Y1q, Y1w, Y1x, Y1y, Y1z, Y20, Y21, Y28, Y2a, AV.cells?, Nat.reduceAdd, Nat.reduceMul]
      rw [storeN_L (n := 1) (xs := [nilE]) rfl rfl]
      simp only [nd0, Y1n, Y1o, Y1p, Y1q, Y1w, Y1x, Y1y, Y1z, Y20, Y21, Y28, Y2a, AV.cells?, Nat.reduceAdd, Nat.reduceMul, hz]
      exact done _ _ _ rfl
  · rintro t H ⟨rfl, n4, rfl⟩
    simp only [nd0, Y1n, Y1o, Y1p, Y1q, Y1w, Y1x, Y1y, Y1z, Y20, Y21, Y28, Y2a, AV.cells?, Nat.reduceAdd, Nat.reduceMul]
    refine containsT B hg1 hn _ fun n5 => ?_
    by_cases h2 : hasT acc (y.other.wr 0) = true
    · rw [if_pos h2, h2]
      simp only [nd0, Y1n, Y1o, Y1p, Y1q, Y1w, Y1x, Y1y, Y1z, Y20, Y21, Y28, Y2a, AV.cells?, Nat.reduceAdd, Nat.reduceMul]
      exact ⟨trivial, x0, x1, z0, z1, n5, rfl, hg0, hg1⟩
    rw [if_neg h2]
    rw [Bool.not_eq_true] at h2
    rw [h2]
    simp only [nd0, Y1n, Y1o, Y1p, Y1q, Y1w, Y1x, Y1y, Y1z, Y20, Y21, Y28, Y2a, AV.cells?, Nat.reduceAdd, Nat.reduceMul]
    refine wJoin.zero (fun H => PH g0 g1 (acc ++ [y]) H) ?_ (fun H h => ⟨trivial, h⟩)
    have henc : (Ex.encL acc).length = acc.length := Ex.encL_len acc
    have htx : ((acc.map (Ex.wr 0)).map fun s => S s).length = acc.length := by simp
    have fin : ∀ {x0' x1' : AV} {z0' z1' : Blk} {n : Nat}, Gr 1 z0' 2 x0' (Ex.encL acc ++ [y.enc]) (acc.length + 1) → Gr 1 z1' 3 x1' (((acc.map (Ex.wr 0)).map fun s => S s) ++ [S (y.wr 0)]) (acc.length + 1) →
        gh0 (fun H => PH g0 g1 (acc ++ [y]) H) ⟨[.cells g0 1 [x0'], .cells g1 1 [x1'], z0', z1'], n⟩ := fun {x0' x1' z0' z1' n} k0 k1 => gh0.mk ⟨x0', x1', z0', z1', n, rfl, by rw [Ex.encL_snoc, List.length_append]; exact k0, by rw [List.length_append, List.map_append, List.map_append]; exact k1⟩
    refine ⟨?_, ?_⟩
    · refine wNewS.F' (l := [y.enc]) (fill1 (Ex.enc_scalar y)) rfl ?_
      simp only [nd0, Y1n, Y1o, Y1p, Y1q, Y1w, Y1x, Y1y, Y1z, Y20, Y21, Y28, Y2a, AV.cells?, Nat.reduceAdd, Nat.reduceMul, and_self, true_and]
      refine ⟨?_, ?_⟩
      · refine wApp.one hg0 rfl henc (.refl _) (Ex.enc_scalar y) hb fun z0' x0' c1 k0 => ?_
        simp only [nd0, Y1n, Y1o, Y1p, Y1q, Y1w, Y1x, Y1y, Y1z, Y20, Y21, Y28, Y2a, AV.cells?, Nat.reduceAdd, Nat.reduceMul, and_self, true_and]
        refine wNewS.F' (l := [S (y.wr 0)]) (fill1 rfl) rfl ?_
        simp only [nd0, Y1n, Y1o, Y1p, Y1q, Y1w, Y1x, Y1y, Y1z, Y20, Y21, Y28, Y2a, AV.cells?, Nat.reduceAdd, Nat.reduceMul, and_self, true_and]
        refine wApp.one hg1 rfl htx (.refl _) rfl hb fun z1' x1' c2 k1 => ?_
        simp only [nd0, Y1n, Y1o, Y1p, Y1q, Y1w, Y1x, Y1y, Y1z, Y20, Y21, Y28, Y2a, AV.cells?, Nat.reduceAdd, Nat.reduceMul, and_self, true_and]
        rw [store1_L k0.scalar]
        simp only [nd0, Y1n, Y1o, Y1p, Y1q, Y1w, Y1x, Y1y, Y1z, Y20, Y21, Y28, Y2a, AV.cells?, Nat.reduceAdd, Nat.reduceMul, Nat.reduceLT]
        rw [store1_L k1.scalar]
        simp only [nd0, Y1n, Y1o, Y1p, Y1q, Y1w, Y1x, Y1y, Y1z, Y20, Y21, Y28, Y2a, AV.cells?, Nat.reduceAdd, Nat.reduceMul, Nat.reduceLT]
        exact fin k0 k1
      · refine wNewS.F' (l := [S (y.wr 0)]) (fill1 rfl) rfl ?_
        simp only [nd0, Y1n, Y1o, Y1p, Y1q, Y1w, Y1x, Y1y, Y1z, Y20, Y21, Y28, Y2a, AV.cells?, Nat.reduceAdd, Nat.reduceMul, and_self, true_and]
        refine wApp.one hg0 rfl henc (.refl _) (Ex.enc_scalar y) hb fun z0' x0' c1 k0 => ?_
        simp only [nd0, Y1n, Y1o, Y1p, Y1q, Y1w, Y1x, Y1y, Y1z, Y20, Y21, Y28, Y2a, AV.cells?, Nat.reduceAdd, Nat.reduceMul, and_self, true_and]
        refine wApp.one hg1 rfl htx (.refl _) rfl hb fun z1' x1' c2 k1 => ?_
        simp only [nd0, Y1n, Y1o, Y1p, Y1q, Y1w, Y1x, Y1y, Y1z, Y20, Y21, Y28, Y2a, AV.cells?, Nat.reduceAdd, Nat.reduceMul, and_self, true_and]
        rw [store1_L k0.scalar]
        simp only [nd0, Y1n, Y1o, Y1p, Y1q, Y1w, Y1x, Y1y, Y1z, Y20, Y21, Y28, Y2a, AV.cells?, Nat.reduceAdd, Nat.reduceMul, Nat.reduceLT]
        rw [store1_L k1.scalar]
        simp only [nd0, Y1n, Y1o, Y1p, Y1q, Y1w, Y1x, Y1y, Y1z, Y20, Y21, Y28, Y2a, AV.cells?, Nat.reduceAdd, Nat.reduceMul, Nat.reduceLT]
        exact fin k0 k1
    · refine wNewS.F' (l := [S (y.wr 0)]) (fill1 rfl) rfl ?_
      simp only [nd0, Y1n, Y1o, Y1p, Y1q, Y1w, Y1x, Y1y, Y1z, Y20, Y21, Y28, Y2a, AV.cells?, Nat.reduceAdd, Nat.reduceMul, and_self, true_and]
      refine wNewS.F' (l := [y.enc]) (fill1 (Ex.enc_scalar y)) rfl ?_
      simp only [nd0, Y1n, Y1o, Y1p, Y1q, Y1w, Y1x, Y1y, Y1z, Y20, Y21, Y28, Y2a, AV.cells?, Nat.reduceAdd, Nat.reduceMul, and_self, true_and]
      refine wApp.one hg0 rfl henc (.refl _) (Ex.enc_scalar y) hb fun z0' x0' c1 k0 => ?_
      simp only [nd0, Y1n, Y1o, Y1p, Y1q, Y1w, Y1x, Y1y, Y1z, Y20, Y21, Y28, Y2a, AV.cells?, Nat.reduceAdd, Nat.reduceMul, and_self, true_and]
      refine wApp.one hg1 rfl htx (.refl _) rfl hb fun z1' x1' c2 k1 => ?_
      simp only [nd0, Y1n, Y1o, Y1p, Y1q, Y1w, Y1x, Y1y, Y1z, Y20, Y21, Y28, Y2a, AV.cells?, Nat.reduceAdd, Nat.reduceMul, and_self, true_and]
      rw [store1_L k0.scalar]
      simp only [nd0, Y1n, Y1o, Y1p, Y1q, Y1w, Y1x, Y1y, Y1z, Y20, Y21, Y28, Y2a, AV.cells?, Nat.reduceAdd, Nat.reduceMul, Nat.reduceLT]
      rw [store1_L k1.scalar]
      simp only [nd0, Y1n, Y1o, Y1p, Y1q, Y1w, Y1x, Y1y, Y1z, Y20, Y21, Y28, Y2a, AV.cells?, Nat.reduceAdd, Nat.reduceMul, Nat.reduceLT]
      exact fin k0 k1
theorem pieces_len {l l' ps : List Ex} (h : addAll l ps = some l') : l'.length ≤ l.length + ps.length := by
  have := addAll_wt (fun _ => 1) h
  have e : ∀ m : List Ex, WtS (fun _ => 1) m = m.length := fun m => by
    induction m with
    | nil => rfl
    | cons x m ih => simp only [WtS, ih, List.length_cons]; omega
  rwa [e, e, e] at this
/-- one piece after the other -/
theorem ixAdd_spec (B : TidyBodies E P) {g0 g1 : Nat} {acc ps : List Ex} (hn : acc.length + ps.length ≤ 1000000) (hp : ∀ y ∈ ps, y.wt ≤ 900000 ∧ y.fine) {H : AH} (hH : PH g0 g1 acc H) :
    ACalls E P 177 [.slN (Ex.encL ps) ps.length, .fn 175 [] [.ptrL 1 0 g1, .ptrL 0 0 g0]] H fun r H' => match addAll acc ps with
      | none => (∃ i : Nat, r = Z i) ∧ ∃ acc', PH g0 g1 acc' H'
      | some acc' => r = Z (-1) ∧ PH g0 g1 acc' H' := by
  refine B.ix _ _ _ _ ?_
  unfold F.slices_IndexFunc_Lexpr_Expr_expr_Expr
  simp only [nd0, Y1n, Y1o, Y1p, Y1q, Y1w, Y1x, Y1y, Y1z, Y20, Y21, Y28, Y2a, AV.cells?, Nat.reduceAdd, Nat.reduceMul]
  refine wLoop.one (fun m i H => ∃ pre rest acc1, ps = pre ++ rest ∧ i = Z pre.length ∧ m = rest.length ∧ PH g0 g1 acc1 H ∧ acc1.length ≤ acc.length + pre.length ∧ addAll acc ps = addAll acc1 rest) ps.length (gh1.mk ⟨[], ps, acc, rfl, rfl, rfl, hH, by simp, rfl⟩) ?_
  rintro m i H ⟨pre, rest, acc1, hpr, rfl, rfl, hH1, hl1, he⟩
  cases rest with
  | nil =>
    rw [List.append_nil] at hpr
    subst hpr
    rw [he]
    simp only [nd0, Y1n, Y1o, Y1p, Y1q, Y1w, Y1x, Y1y, Y1z, Y20, Y21, Y28, Y2a, AV.cells?, Nat.reduceAdd, Nat.reduceMul, Int.lt_irrefl]
    exact ⟨trivial, hH1⟩
  | cons y rest =>
    have hym : y ∈ ps := by rw [hpr]; simp
    have hlt : pre.length < ps.length := by rw [hpr]; simp
    simp only [nd0, Y1n, Y1o, Y1p, Y1q, Y1w, Y1x, Y1y, Y1z, Y20, Y21, Y28, Y2a, AV.cells?, Nat.reduceAdd, Nat.reduceMul, decide_eq_true (show (pre.length : Int) < (ps.length : Int) by omega)]
    rw [iaddr_Nn hlt]
    simp only [nd0, Y1n, Y1o, Y1p, Y1q, Y1w, Y1x, Y1y, Y1z, Y20, Y21, Y28, Y2a, AV.cells?, Nat.reduceAdd, Nat.reduceMul, show (Ex.encL ps)[pre.length]? = some y.enc by rw [Ex.encL_map, hpr]; simp]
    refine ⟨⟨175, [], [.ptrL 1 0 g1, .ptrL 0 0 g0], rfl, _, add_spec B (by omega) (hp y hym).1 (hp y hym).2 hH1, ?_⟩⟩
    intro r H' hr
    have he2 : addAll acc1 (y :: rest) = match addP acc1 y with
      | none => none
      | some l' => addAll l' rest := by rw [addAll]; cases addP acc1 y <;> rfl
    rw [he2] at he
    cases ha : addP acc1 y with
    | none =>
      rw [ha] at hr he
      obtain ⟨rfl, hH2⟩ := hr
      rw [he]
      simp only [nd0, Y1n, Y1o, Y1p, Y1q, Y1w, Y1x, Y1y, Y1z, Y20, Y21, Y28, Y2a, AV.cells?, Nat.reduceAdd, Nat.reduceMul]
      exact ⟨⟨_, rfl⟩, _, hH2⟩
    | some acc2 =>
      rw [ha] at hr he
      obtain ⟨rfl, hH2⟩ := hr
      simp only [nd0, Y1n, Y1o, Y1p, Y1q, Y1w, Y1x, Y1y, Y1z, Y20, Y21, Y28, Y2a, AV.cells?, Nat.reduceAdd, Nat.reduceMul]
      rw [binA_succ (by omega)]
      simp only [nd0, Y1n, Y1o, Y1p, Y1q, Y1w, Y1x, Y1y, Y1z, Y20, Y21, Y28, Y2a, AV.cells?, Nat.reduceAdd, Nat.reduceMul]
      refine back1.mk rest.length (by simp) ⟨pre ++ [y], rest, acc2, by rw [hpr]; simp, by simp, rfl, hH2, ?_, he⟩
      rcases addP_sub ha with rfl | rfl
      · simp; omega
      · simp; omega
theorem conAdd_spec (B : TidyBodies E P) {g0 g1 : Nat} {acc ps : List Ex} (hn : acc.length + ps.length ≤ 1000000) (hp : ∀ y ∈ ps, y.wt ≤ 900000 ∧ y.fine) {H : AH} (hH : PH g0 g1 acc H) :
    ACalls E P 176 [.slN (Ex.encL ps) ps.length, .fn 175 [] [.ptrL 1 0 g1, .ptrL 0 0 g0]] H fun r H' => match addAll acc ps with
      | none => r = Bo true ∧ ∃ acc', PH g0 g1 acc' H'
      | some acc' => r = Bo false ∧ PH g0 g1 acc' H' := by
  refine B.con _ _ _ _ ?_
  unfold F.slices_ContainsFunc_Lexpr_Expr_expr_Expr
  refine ⟨⟨_, ixAdd_spec B hn hp hH, ?_⟩⟩
  intro r H' hr
  cases ha : addAll acc ps with
  | none =>
    rw [ha] at hr
    obtain ⟨⟨i, rfl⟩, hH2⟩ := hr
    simp only [nd0, Y1n, Y1o, Y1p, Y1q, Y1w, Y1x, Y1y, Y1z, Y20, Y21, Y28, Y2a, AV.cells?, Nat.reduceAdd, Nat.reduceMul, decide_eq_true (show (0 : Int) ≤ (i : Int) by omega)]
    exact ⟨trivial, hH2⟩
  | some acc2 =>
    rw [ha] at hr
    obtain ⟨rfl, hH2⟩ := hr
    simp only [nd0, Y1n, Y1o, Y1p, Y1q, Y1w, Y1x, Y1y, Y1z, Y20, Y21, Y28, Y2a, AV.cells?, Nat.reduceAdd, Nat.reduceMul, show decide ((0 : Int) ≤ -1) = false from rfl]
    exact ⟨trivial, hH2⟩
/-- what 'parts' answers -/
def partsA (o : Option (List Ex)) : AV := match o with
  | none => .tup [nilS, Bo true]
  | some l => .tup [.slN (Ex.encL l) l.length, Bo false]
theorem partsA_closed (o : Option (List Ex)) : (partsA o).closed := by
  cases o with
  | none => exact ⟨trivial, trivial, trivial⟩
  | some l => exact ⟨Ex.encL_closed l, trivial, trivial⟩
set_option maxHeartbeats 2000000 in
theorem parts_spec (B : TidyBodies E P) (mode : Bool) (l : List Ex) (hl : ∀ x ∈ l, FX E P 170 [x.enc] x.tidy.enc) (hw : Ex.wtL l + 3 * l.length ≤ 900000) (hf : Ex.fineL l) :
    FX E P 173 [.slN (Ex.encL l) l.length, Bo mode] (partsA (Ex.tidyL mode l [])) := by
  refine FX.of ⟨Ex.encL_closed l, trivial, trivial⟩ (partsA_closed _) fun n R hR => B.parts _ _ _ _ ?_
  unfold F.expr_parts
  refine wNew.L (l := [nilS]) rfl ?_
  refine wNew.L (l := [nilS]) rfl ?_
  simp only [nd0, Y1n, Y1o, Y1p, Y1q, Y1w, Y1x, Y1y, Y1z, Y20, Y21, Y28, Y2a, AV.cells?, Nat.reduceAdd, Nat.reduceMul]
  have hpw : ∀ x ∈ l, ∀ ps, pieces mode x.tidy = some ps → WtS (fun x => x.wt + 3) ps ≤ x.wt + 3 := fun x hx ps h => by
    have := pieces_wt h
    have := x.tidy_le
    omega
  have hlenS : ∀ m : List Ex, 3 * m.length ≤ WtS (fun x => x.wt + 3) m := fun m => by rw [wtL_S]; omega
  have hmemS : ∀ (m : List Ex) (y : Ex), y ∈ m → y.wt ≤ WtS (fun x => x.wt + 3) m := fun m y hy => by rw [wtL_S]; have := Ex.wt_mem hy; omega
  refine wLoop.one (fun m i H => ∃ pre rest acc, l = pre ++ rest ∧ i = Z pre.length ∧ m = rest.length ∧ PH n (n + 1) acc H ∧ WtS (fun x => x.wt + 3) acc ≤ WtS (fun x => x.wt + 3) pre ∧ Ex.tidyL mode l [] = Ex.tidyL mode rest acc) l.length
    (gh1.of (ghost_room [.dead, .dead] (by simp)) ⟨[], l, [], rfl, rfl, rfl, ⟨nilS, nilS, .dead, .dead, _, rfl, .nil, .nil⟩, by simp [WtS], rfl⟩) ?_
  rintro m i H ⟨pre, rest, acc, hpr, rfl, rfl, hH, hwa, he⟩
  have hwl : WtS (fun x => x.wt + 3) l ≤ 900000 := by rw [wtL_S]; exact hw
  cases rest with
  | nil =>
    rw [List.append_nil] at hpr
    subst hpr
    simp only [nd0, Y1n, Y1o, Y1p, Y1q, Y1w, Y1x, Y1y, Y1z, Y20, Y21, Y28, Y2a, AV.cells?, Nat.reduceAdd, Nat.reduceMul, Int.lt_irrefl]
    obtain ⟨x0, x1, z0, z1, c, rfl, hg0, hg1⟩ := hH
    simp only [Ex.tidyL] at he
    simp only [nd0, Y1n, Y1o, Y1p, Y1q, Y1w, Y1x, Y1y, Y1z, Y20, Y21, Y28, Y2a, AV.cells?, Nat.reduceAdd, Nat.reduceMul]
    refine hR _ _ ?_
    rw [he]
    exact .tup (.cons (.sub hg0.sub) (FkL.same _))
  | cons x rest =>
    have hxm : x ∈ l := by rw [hpr]; simp
    have hlt : pre.length < l.length := by rw [hpr]; simp
    have hfx := Ex.tidy_fine (Ex.fine_mem hf hxm)
    simp only [nd0, Y1n, Y1o, Y1p, Y1q, Y1w, Y1x, Y1y, Y1z, Y20, Y21, Y28, Y2a, AV.cells?, Nat.reduceAdd, Nat.reduceMul, decide_eq_true (show (pre.length : Int) < (l.length : Int) by omega)]
    rw [iaddr_Nn hlt]
    simp only [nd0, Y1n, Y1o, Y1p, Y1q, Y1w, Y1x, Y1y, Y1z, Y20, Y21, Y28, Y2a, AV.cells?, Nat.reduceAdd, Nat.reduceMul, show (Ex.encL l)[pre.length]? = some x.enc by rw [Ex.encL_map, hpr]; simp]
    have hsum : WtS (fun x => x.wt + 3) pre + (x.wt + 3) ≤ 900000 := by
      have : WtS (fun x => x.wt + 3) l = WtS (fun x => x.wt + 3) pre + ((x.wt + 3) + WtS (fun x => x.wt + 3) rest) := by rw [hpr, WtS_append]; rfl
      omega
    simp only [Ex.tidyL] at he
    refine wJoin.one (fun t H => PH n (n + 1) acc H ∧ ∃ ps, pieces mode x.tidy = some ps ∧ t = .slN (Ex.encL ps) ps.length) ?_ ?_
    case refine_2 =>
      rintro t H ⟨hH, ps, hps, rfl⟩
      rw [hps] at he
      simp only at he
      have hps1 := hpw x hxm ps hps
      have h3 := hlenS acc
      have h4 := hlenS ps
      refine ⟨⟨_, conAdd_spec B (by omega) (fun y hy => ⟨by have := hmemS ps y hy; omega, pieces_fine hps hfx y hy⟩) hH, ?_⟩⟩
      intro r H' hr
      cases ha : addAll acc ps with
      | none =>
        rw [ha] at hr he
        simp only at he
        obtain ⟨rfl, acc', hH'⟩ := hr
        simp only [nd0, Y1n, Y1o, Y1p, Y1q, Y1w, Y1x, Y1y, Y1z, Y20, Y21, Y28, Y2a, AV.cells?, Nat.reduceAdd, Nat.reduceMul]
        refine hR _ _ ?_
        rw [he]
        exact .same _
      | some acc' =>
        rw [ha] at hr he
        simp only at he
        obtain ⟨rfl, hH'⟩ := hr
        simp only [nd0, Y1n, Y1o, Y1p, Y1q, Y1w, Y1x, Y1y, Y1z, Y20, Y21, Y28, Y2a, AV.cells?, Nat.reduceAdd, Nat.reduceMul]
        rw [binA_succ (by omega)]
        simp only [nd0, Y1n, Y1o, Y1p, Y1q, Y1w, Y1x, Y1y, Y1z, Y20, Y21, Y28, Y2a, AV.cells?, Nat.reduceAdd, Nat.reduceMul]
        refine back1.mk rest.length (by simp) ⟨pre ++ [x], rest, acc', by rw [hpr]; simp, by simp, rfl, hH', ?_, he⟩
        have := addAll_wt (fun x => x.wt + 3) ha
        rw [WtS_append]
        simp only [WtS]
        omega
    · obtain ⟨x0, x1, z0, z1, c, rfl, hg0, hg1⟩ := hH
      refine wCall.fx (hl x hxm) fun n2 => ?_
      have hPH : ∀ n2, PH n (n + 1) acc ⟨[.cells n 1 [x0], .cells (n + 1) 1 [x1], z0, z1], n2⟩ := fun n2 => ⟨x0, x1, z0, z1, n2, rfl, hg0, hg1⟩
      cases ht : x.tidy with
      | k b =>
        rw [ht] at he
        simp only [Ex.enc]
        simp only [nd0, Y1n, Y1o, Y1p, Y1q, Y1w, Y1x, Y1y, Y1z, Y20, Y21, Y28, Y2a, AV.cells?, Nat.reduceAdd, Nat.reduceMul, asA, show (11 : Nat) = 11 ↔ True by decide]
        simp only [pieces] at he
        by_cases hb : b = mode
        · subst hb
          simp only [nd0, Y1n, Y1o, Y1p, Y1q, Y1w, Y1x, Y1y, Y1z, Y20, Y21, Y28, Y2a, AV.cells?, Nat.reduceAdd, Nat.reduceMul, eqA_bool, beq_self_eq_true]
          exact gh1.of (ghost_sub (.one .nil)) ⟨hPH n2, [], by simp [pieces], rfl⟩
        · rw [if_neg hb] at he
          simp only [nd0, Y1n, Y1o, Y1p, Y1q, Y1w, Y1x, Y1y, Y1z, Y20, Y21, Y28, Y2a, AV.cells?, Nat.reduceAdd, Nat.reduceMul, eqA_bool, show (b == mode) = false by simpa using hb]
          refine hR _ _ ?_
          rw [he]
          exact .same _
      | and l' =>
        simp only [Ex.enc]
        simp only [nd0, Y1n, Y1o, Y1p, Y1q, Y1w, Y1x, Y1y, Y1z, Y20, Y21, Y28, Y2a, AV.cells?, Nat.reduceAdd, Nat.reduceMul, asA, show (9 : Nat) = 11 ↔ False by decide, show (9 : Nat) = 9 ↔ True by decide]
        refine wNewS.F' (l := [(Ex.and l').enc]) rfl rfl ?_
        cases mode with
        | true => simp only [nd0, Y1n, Y1o, Y1p, Y1q, Y1w, Y1x, Y1y, Y1z, Y20, Y21, Y28, Y2a, AV.cells?, Nat.reduceAdd, Nat.reduceMul]; exact gh1.mk ⟨hPH n2, l', rfl, rfl⟩
        | false => simp only [nd0, Y1n, Y1o, Y1p, Y1q, Y1w, Y1x, Y1y, Y1z, Y20, Y21, Y28, Y2a, AV.cells?, Nat.reduceAdd, Nat.reduceMul]; exact gh1.mk ⟨hPH n2, [.and l'], rfl, rfl⟩
      | or l' =>
        simp only [Ex.enc]
        simp only [nd0, Y1n, Y1o, Y1p, Y1q, Y1w, Y1x, Y1y, Y1z, Y20, Y21, Y28, Y2a, AV.cells?, Nat.reduceAdd, Nat.reduceMul, asA, show (8 : Nat) = 11 ↔ False by decide, show (8 : Nat) = 9 ↔ False by decide, show (8 : Nat) = 8 ↔ True by decide]
        refine wNewS.F' (l := [(Ex.or l').enc]) rfl rfl ?_
        cases mode with
        | true => simp only [nd0, Y1n, Y1o, Y1p, Y1q, Y1w, Y1x, Y1y, Y1z, Y20, Y21, Y28, Y2a, AV.cells?, Nat.reduceAdd, Nat.reduceMul]; exact gh1.mk ⟨hPH n2, [.or l'], rfl, rfl⟩
        | false => simp only [nd0, Y1n, Y1o, Y1p, Y1q, Y1w, Y1x, Y1y, Y1z, Y20, Y21, Y28, Y2a, AV.cells?, Nat.reduceAdd, Nat.reduceMul]; exact gh1.mk ⟨hPH n2, l', rfl, rfl⟩
      | not y =>
        simp only [Ex.enc]
        simp only [nd0, Y1n, Y1o, Y1p, Y1q, Y1w, Y1x, Y1y, Y1z, Y20, Y21, Y28, Y2a, AV.cells?, Nat.reduceAdd, Nat.reduceMul, asA, show (10 : Nat) = 11 ↔ False by decide, show (10 : Nat) = 9 ↔ False by decide, show (10 : Nat) = 8 ↔ False by decide]
        refine wNewS.F' (l := [(Ex.not y).enc]) rfl rfl ?_
        exact gh1.mk ⟨hPH n2, [.not y], rfl, rfl⟩
      | bit y =>
        simp only [Ex.enc]
        simp only [nd0, Y1n, Y1o, Y1p, Y1q, Y1w, Y1x, Y1y, Y1z, Y20, Y21, Y28, Y2a, AV.cells?, Nat.reduceAdd, Nat.reduceMul, asA, show (14 : Nat) = 11 ↔ False by decide, show (14 : Nat) = 9 ↔ False by decide, show (14 : Nat) = 8 ↔ False by decide]
        refine wNewS.F' (l := [(Ex.bit y).enc]) rfl rfl ?_
        exact gh1.mk ⟨hPH n2, [.bit y], rfl, rfl⟩
      | rise y =>
        simp only [Ex.enc]
        simp only [nd0, Y1n, Y1o, Y1p, Y1q, Y1w, Y1x, Y1y, Y1z, Y20, Y21, Y28, Y2a, AV.cells?, Nat.reduceAdd, Nat.reduceMul, asA, show (12 : Nat) = 11 ↔ False by decide, show (12 : Nat) = 9 ↔ False by decide, show (12 : Nat) = 8 ↔ False by decide]
        refine wNewS.F' (l := [(Ex.rise y).enc]) rfl rfl ?_
        exact gh1.mk ⟨hPH n2, [.rise y], rfl, rfl⟩
      | fall y =>
        simp only [Ex.enc]
        simp only [nd0, Y1n, Y1o, Y1p, Y1q, Y1w, Y1x, Y1y, Y1z, Y20, Y21, Y28, Y2a, AV.cells?, Nat.reduceAdd, Nat.reduceMul, asA, show (13 : Nat) = 11 ↔ False by decide, show (13 : Nat) = 9 ↔ False by decide, show (13 : Nat) = 8 ↔ False by decide]
        refine wNewS.F' (l := [(Ex.fall y).enc]) rfl rfl ?_
        exact gh1.mk ⟨hPH n2, [.fall y], rfl, rfl⟩
set_option maxHeartbeats 2000000 in
theorem Tidy_spec (B : TidyBodies E P) : ∀ (n : Nat) (x : Ex), x.wt < n → x.wt ≤ 900000 → x.fine → FX E P 170 [x.enc] x.tidy.enc := by
  intro n
  induction n with
  | zero => intro x h; omega
  | succ n ih =>
    intro x hx hw hf
    refine FX.of' ⟨Ex.enc_closed x, trivial⟩ (Ex.enc_closed _) fun c R hR => B.tidy _ _ _ ?_
    unfold F.expr_Tidy
    have i0 : ∀ (y : AV), iaddr 1 (.slN [y] 1) (.val (.int .i64 0)) = some (.ptrF [y] 0) := fun _ => rfl
    cases x with
    | k b => simp only [Ex.enc]; simp only [nd0, Y1n, Y1o, Y1p, Y1q, Y1w, Y1x, Y1y, Y1z, Y20, Y21, Y28, Y2a, AV.cells?, Nat.reduceAdd, Nat.reduceMul, asA, show (11 : Nat) = 10 ↔ False by decide, show (11 : Nat) = 9 ↔ False by decide, show (11 : Nat) = 8 ↔ False by decide]; exact hR _ _ rfl
    | bit b => simp only [Ex.enc]; simp only [nd0, Y1n, Y1o, Y1p, Y1q, Y1w, Y1x, Y1y, Y1z, Y20, Y21, Y28, Y2a, AV.cells?, Nat.reduceAdd, Nat.reduceMul, asA, show (14 : Nat) = 10 ↔ False by decide, show (14 : Nat) = 9 ↔ False by decide, show (14 : Nat) = 8 ↔ False by decide]; exact hR _ _ rfl
    | rise b => simp only [Ex.enc]; simp only [nd0, Y1n, Y1o, Y1p, Y1q, Y1w, Y1x, Y1y, Y1z, Y20, Y21, Y28, Y2a, AV.cells?, Nat.reduceAdd, Nat.reduceMul, asA, show (12 : Nat) = 10 ↔ False by decide, show (12 : Nat) = 9 ↔ False by decide, show (12 : Nat) = 8 ↔ False by decide]; exact hR _ _ rfl
    | fall b => simp only [Ex.enc]; simp only [nd0, Y1n, Y1o, Y1p, Y1q, Y1w, Y1x, Y1y, Y1z, Y20, Y21, Y28, Y2a, AV.cells?, Nat.reduceAdd, Nat.reduceMul, asA, show (13 : Nat) = 10 ↔ False by decide, show (13 : Nat) = 9 ↔ False by decide, show (13 : Nat) = 8 ↔ False by decide]; exact hR _ _ rfl
    | not y =>
      simp only [Ex.wt] at hx hw
      simp only [Ex.enc]
      simp only [nd0, Y1n, Y1o, Y1p, Y1q, Y1w, Y1x, Y1y, Y1z, Y20, Y21, Y28, Y2a, AV.cells?, Nat.reduceAdd, Nat.reduceMul, asA, show (10 : Nat) = 10 ↔ True by decide]
      refine wNew.L (l := [nilE]) rfl ?_
      simp only [nd0, Y1n, Y1o, Y1p, Y1q, Y1w, Y1x, Y1y, Y1z, Y20, Y21, Y28, Y2a, AV.cells?, Nat.reduceAdd, Nat.reduceMul]
      rw [storeN_L (n := 1) (xs := [y.enc]) rfl (by simp [Ex.enc_scalar])]
      simp only [nd0, Y1n, Y1o, Y1p, Y1q, Y1w, Y1x, Y1y, Y1z, Y20, Y21, Y28, Y2a, AV.cells?, Nat.reduceAdd, Nat.reduceMul, show putL [nilE] 0 [y.enc] = some [y.enc] from rfl]
      refine wCall.fx (ih y (by omega) (by omega) hf) fun n2 => ?_
      simp only [Ex.tidy] at hR
      cases ht : y.tidy with
      | k b =>
        rw [ht] at hR
        simp only [Ex.enc]
        simp only [nd0, Y1n, Y1o, Y1p, Y1q, Y1w, Y1x, Y1y, Y1z, Y20, Y21, Y28, Y2a, AV.cells?, Nat.reduceAdd, Nat.reduceMul, asA, show (11 : Nat) = 11 ↔ True by decide]
        exact hR _ _ rfl
      | not w =>
        rw [ht] at hR
        simp only [Ex.enc]
        simp only [nd0, Y1n, Y1o, Y1p, Y1q, Y1w, Y1x, Y1y, Y1z, Y20, Y21, Y28, Y2a, AV.cells?, Nat.reduceAdd, Nat.reduceMul, asA, show (10 : Nat) = 11 ↔ False by decide, show (10 : Nat) = 10 ↔ True by decide]
        refine wNew.L (l := [nilE]) rfl ?_
        simp only [nd0, Y1n, Y1o, Y1p, Y1q, Y1w, Y1x, Y1y, Y1z, Y20, Y21, Y28, Y2a, AV.cells?, Nat.reduceAdd, Nat.reduceMul]
        rw [storeN_L (n := 1) (xs := [w.enc]) rfl (by simp [Ex.enc_scalar])]
        simp only [nd0, Y1n, Y1o, Y1p, Y1q, Y1w, Y1x, Y1y, Y1z, Y20, Y21, Y28, Y2a, AV.cells?, Nat.reduceAdd, Nat.reduceMul, show putL [nilE] 0 [w.enc] = some [w.enc] from rfl]
        exact hR _ _ rfl
      | bit w =>
        rw [ht] at hR
        simp only [Ex.enc]
        simp only [nd0, Y1n, Y1o, Y1p, Y1q, Y1w, Y1x, Y1y, Y1z, Y20, Y21, Y28, Y2a, AV.cells?, Nat.reduceAdd, Nat.reduceMul, asA, show (14 : Nat) = 11 ↔ False by decide, show (14 : Nat) = 10 ↔ False by decide, show fillA [nilE] [(0, 1, .ifc 14 (S w))] = some [.ifc 14 (S w)] from rfl]
        exact hR _ _ rfl
      | rise w =>
        rw [ht] at hR
        simp only [Ex.enc]
        simp only [nd0, Y1n, Y1o, Y1p, Y1q, Y1w, Y1x, Y1y, Y1z, Y20, Y21, Y28, Y2a, AV.cells?, Nat.reduceAdd, Nat.reduceMul, asA, show (12 : Nat) = 11 ↔ False by decide, show (12 : Nat) = 10 ↔ False by decide, show fillA [nilE] [(0, 1, .ifc 12 (S w))] = some [.ifc 12 (S w)] from rfl]
        exact hR _ _ rfl
      | fall w =>
        rw [ht] at hR
        simp only [Ex.enc]
        simp only [nd0, Y1n, Y1o, Y1p, Y1q, Y1w, Y1x, Y1y, Y1z, Y20, Y21, Y28, Y2a, AV.cells?, Nat.reduceAdd, Nat.reduceMul, asA, show (13 : Nat) = 11 ↔ False by decide, show (13 : Nat) = 10 ↔ False by decide, show fillA [nilE] [(0, 1, .ifc 13 (S w))] = some [.ifc 13 (S w)] from rfl]
        exact hR _ _ rfl
      | and l =>
        rw [ht] at hR
        simp only [Ex.enc]
        simp only [nd0, Y1n, Y1o, Y1p, Y1q, Y1w, Y1x, Y1y, Y1z, Y20, Y21, Y28, Y2a, AV.cells?, Nat.reduceAdd, Nat.reduceMul, asA, show (9 : Nat) = 11 ↔ False by decide, show (9 : Nat) = 10 ↔ False by decide, show fillA [nilE] [(0, 1, .ifc 9 (.slN (Ex.encL l) l.length))] = some [.ifc 9 (.slN (Ex.encL l) l.length)] from rfl]
        exact hR _ _ rfl
      | or l =>
        rw [ht] at hR
        simp only [Ex.enc]
        simp only [nd0, Y1n, Y1o, Y1p, Y1q, Y1w, Y1x, Y1y, Y1z, Y20, Y21, Y28, Y2a, AV.cells?, Nat.reduceAdd, Nat.reduceMul, asA, show (8 : Nat) = 11 ↔ False by decide, show (8 : Nat) = 10 ↔ False by decide, show fillA [nilE] [(0, 1, .ifc 8 (.slN (Ex.encL l) l.length))] = some [.ifc 8 (.slN (Ex.encL l) l.length)] from rfl]
        exact hR _ _ rfl
    | and l =>
      simp only [Ex.wt] at hx hw
      simp only [Ex.enc]
      simp only [nd0, Y1n, Y1o, Y1p, Y1q, Y1w, Y1x, Y1y, Y1z, Y20, Y21, Y28, Y2a, AV.cells?, Nat.reduceAdd, Nat.reduceMul, asA, show (9 : Nat) = 10 ↔ False by decide, show (9 : Nat) = 9 ↔ True by decide]
      refine wCall.fx (parts_spec B true l (fun y hy => ih y (by have := Ex.wt_mem hy; omega) (by have := Ex.wt_mem hy; omega) (Ex.fine_mem hf.2 hy)) (by omega) hf.2) fun n2 => ?_
      simp only [Ex.tidy] at hR
      cases ho : Ex.tidyL true l [] with
      | none => rw [ho] at hR; simp only [partsA]; simp only [nd0, Y1n, Y1o, Y1p, Y1q, Y1w, Y1x, Y1y, Y1z, Y20, Y21, Y28, Y2a, AV.cells?, Nat.reduceAdd, Nat.reduceMul]; exact hR _ _ rfl
      | some l' =>
        rw [ho] at hR
        simp only [partsA]
        simp only [nd0, Y1n, Y1o, Y1p, Y1q, Y1w, Y1x, Y1y, Y1z, Y20, Y21, Y28, Y2a, AV.cells?, Nat.reduceAdd, Nat.reduceMul]
        match l', hR with
        | [], hR => simp only [nd0, Y1n, Y1o, Y1p, Y1q, Y1w, Y1x, Y1y, Y1z, Y20, Y21, Y28, Y2a, AV.cells?, Nat.reduceAdd, Nat.reduceMul, show decide (((0 : Nat) : Int) = 0) = true from rfl]; exact hR _ _ rfl
        | [y], hR =>
          simp only [nd0, Y1n, Y1o, Y1p, Y1q, Y1w, Y1x, Y1y, Y1z, Y20, Y21, Y28, Y2a, AV.cells?, Nat.reduceAdd, Nat.reduceMul, i0, Ex.encL, show decide (((1 : Nat) : Int) = 0) = false from rfl, show decide (((1 : Nat) : Int) = 1) = true from rfl]
          exact hR _ _ rfl
        | y :: z :: r, hR =>
          simp only [nd0, Y1n, Y1o, Y1p, Y1q, Y1w, Y1x, Y1y, Y1z, Y20, Y21, Y28, Y2a, AV.cells?, Nat.reduceAdd, Nat.reduceMul, decide_eq_false (show ¬ ((((y :: z :: r) : List Ex).length : Int) = 0) by simp; omega), decide_eq_false (show ¬ ((((y :: z :: r) : List Ex).length : Int) = 1) by simp; omega), decide_eq_false (show ¬ (((r.length + 1 + 1 : Nat) : Int) = 0) by omega), decide_eq_false (show ¬ (((r.length + 1 + 1 : Nat) : Int) = 1) by omega)]
          exact hR _ _ rfl
    | or l =>
      simp only [Ex.wt] at hx hw
      simp only [Ex.enc]
      simp only [nd0, Y1n, Y1o, Y1p, Y1q, Y1w, Y1x, Y1y, Y1z, Y20, Y21, Y28, Y2a, AV.cells?, Nat.reduceAdd, Nat.reduceMul, asA, show (8 : Nat) = 10 ↔ False by decide, show (8 : Nat) = 9 ↔ False by decide, show (8 : Nat) = 8 ↔ True by decide]
      refine wCall.fx (parts_spec B false l (fun y hy => ih y (by have := Ex.wt_mem hy; omega) (by have := Ex.wt_mem hy; omega) (Ex.fine_mem hf.2 hy)) (by omega) hf.2) fun n2 => ?_
      simp only [Ex.tidy] at hR
      cases ho : Ex.tidyL false l [] with
      | none => rw [ho] at hR; simp only [partsA]; simp only [nd0, Y1n, Y1o, Y1p, Y1q, Y1w, Y1x, Y1y, Y1z, Y20, Y21, Y28, Y2a, AV.cells?, Nat.reduceAdd, Nat.reduceMul]; exact hR _ _ rfl
      | some l' =>
        rw [ho] at hR
        simp only [partsA]
        simp only [nd0, Y1n, Y1o, Y1p, Y1q, Y1w, Y1x, Y1y, Y1z, Y20, Y21, Y28, Y2a, AV.cells?, Nat.reduceAdd, Nat.reduceMul]
        match l', hR with
        | [], hR => simp only [nd0, Y1n, Y1o, Y1p, Y1q, Y1w, Y1x, Y1y, Y1z, Y20, Y21, Y28, Y2a, AV.cells?, Nat.reduceAdd, Nat.reduceMul, show decide (((0 : Nat) : Int) = 0) = true from rfl]; exact hR _ _ rfl
        | [y], hR =>
          simp only [nd0, Y1n, Y1o, Y1p, Y1q, Y1w, Y1x, Y1y, Y1z, Y20, Y21, Y28, Y2a, AV.cells?, Nat.reduceAdd, Nat.reduceMul, i0, Ex.encL, show decide (((1 : Nat) : Int) = 0) = false from rfl, show decide (((1 : Nat) : Int) = 1) = true from rfl]
          exact hR _ _ rfl
        | y :: z :: r, hR =>
          simp only [nd0, Y1n, Y1o, Y1p, Y1q, Y1w, Y1x, Y1y, Y1z, Y20, Y21, Y28, Y2a, AV.cells?, Nat.reduceAdd, Nat.reduceMul, decide_eq_false (show ¬ (((r.length + 1 + 1 : Nat) : Int) = 0) by omega), decide_eq_false (show ¬ (((r.length + 1 + 1 : Nat) : Int) = 1) by omega)]
          exact hR _ _ rfl
end
end Go.Sc
namespace Go.Sc.F
open Go Go.Sc
set_option linter.unusedVariables false

/-- signalbox/signalboxkeep.ExprTidy -/
def keep_ExprTidy (E : Env) (P : Program) (a0 a1 a2 : AV) (H : AH) (R : Kt) : Prop :=
  wGet (lenS a0) H fun t11 H =>
  wGet (binA .gtr t11 (.val (.int .i64 900))) H fun t12 H =>
  wGuard t12 false H (fun k => k a1 H) fun t14 H =>
  wGuard t12 false H (fun k => wGet (lenA t14) H k) fun t15 H =>
  wGuard t12 false H (fun k => wGet (binA .gtr t15 (.val (.int .i64 20))) H k) fun t16 H =>
  wGet (pickA t12 (.val (.bool true)) t16) H fun t17 H =>
  wGuard t17 false H (fun k => k a2 H) fun t19 H =>
  wGuard t17 false H (fun k => wGet (lenA t19) H k) fun t20 H =>
  wGuard t17 false H (fun k => wGet (binA .gtr t20 (.val (.int .i64 20))) H k) fun t21 H =>
  wGet (pickA t17 (.val (.bool true)) t21) H fun t22 H =>
  wIf t22 (
    R (.val (.bool true)) H) (
    wCall E P 126 [a0] H fun t25 H =>
    wGet (extractA t25 0) H fun t26 H =>
    wGet (extractA t25 1) H fun t27 H =>
    wCall E P 155 [] H fun t28 H =>
    wGet (unA .not t28) H fun t29 H =>
    wGuard t29 false H (fun k => k t27 H) fun t31 H =>
    wGuard t29 false H (fun k => wBool (eqA .iface t31 (.val (.nilIface))) H true k) fun t32 H =>
    wGet (pickA t29 (.val (.bool true)) t32) H fun t33 H =>
    wIf t33 (
      wCall E P 155 [] H fun t34 H =>
      wGuard t34 true H (fun k => k t26 H) fun t36 H =>
      wGuard t34 true H (fun k => wBool (eqA .iface t36 (.val (.nilIface))) H false k) fun t37 H =>
      wGet (pickA t34 t37 (.val (.bool false))) H fun t38 H =>
      R t38 H) (
      wCall E P 170 [t26] H fun t40 H =>
      wBool (eqA .iface t40 (.val (.nilIface))) H true fun t42 H =>
      wGuard t42 true H (fun k => k t40 H) fun t44 H =>
      wGuard t42 true H (fun k => k a1 H) fun t45 H =>
      wGuard t42 true H (fun k => wCall E P 157 [t45] H k) fun t46 H =>
      wGuard t42 true H (fun k => k a2 H) fun t47 H =>
      wGuard t42 true H (fun k => wCall E P 157 [t47] H k) fun t48 H =>
      wGuard t42 true H (fun k => wCall E P 158 [t44, t46, t48] H k) fun t49 H =>
      wGuard t42 true H (fun k => k t26 H) fun t50 H =>
      wGuard t42 true H (fun k => k a1 H) fun t51 H =>
      wGuard t42 true H (fun k => wCall E P 157 [t51] H k) fun t52 H =>
      wGuard t42 true H (fun k => k a2 H) fun t53 H =>
      wGuard t42 true H (fun k => wCall E P 157 [t53] H k) fun t54 H =>
      wGuard t42 true H (fun k => wCall E P 158 [t50, t52, t54] H k) fun t55 H =>
      wGuard t42 true H (fun k => wBool (eqA .bool t49 t55) H false k) fun t56 H =>
      wGet (pickA t42 t56 (.val (.bool false))) H fun t57 H =>
      wGuard t57 true H (fun k => k t40 H) fun t59 H =>
      wGuard t57 true H (fun k => wCall E P 156 [t59] H k) fun t60 H =>
      wGuard t57 true H (fun k => k t26 H) fun t61 H =>
      wGuard t57 true H (fun k => wCall E P 156 [t61] H k) fun t62 H =>
      wGuard t57 true H (fun k => wGet (binA .leq t60 t62) H k) fun t63 H =>
      wGet (pickA t57 t63 (.val (.bool false))) H fun t64 H =>
      wGuard t64 true H (fun k => k t40 H) fun t66 H =>
      wGuard t64 true H (fun k => wCall E P 170 [t66] H k) fun t67 H =>
      wGuard t64 true H (fun k => wCall E P 127 [t67] H k) fun t68 H =>
      wGuard t64 true H (fun k => k t40 H) fun t69 H =>
      wGuard t64 true H (fun k => wCall E P 127 [t69] H k) fun t70 H =>
      wGuard t64 true H (fun k => wGet (binA .eql t68 t70) H k) fun t71 H =>
      wGet (pickA t64 t71 (.val (.bool false))) H fun t72 H =>
      R t72 H))

end Go.Sc.F
namespace Go.Sc
open Go
set_option linter.unusedSimpArgs false
set_option linter.unusedVariables false
set_option linter.unnecessarySimpa false

structure TidyLawBodies (E : Env) (P : Program) : Prop where
  k : KeepExprBodies E P
  s : SizeBodies E P
  t : TidyBodies E P
section
variable {E : Env} {P : Program}
set_option maxHeartbeats 1000000 in
theorem ExprTidy_body (B : TidyLawBodies E P) (s : Str) (l m : List Str) (n : Nat) : F.keep_ExprTidy E P (S s) (Lm S l) (Lm S m) ⟨[], n⟩ (fun r _ => r = Bo true) := by
  unfold F.keep_ExprTidy
  rw [Lm_S, Lm_S]
  simp only [nd0, Y1n, Y1o, Y1p, Y1q, Y1w, Y1x, Y1y, Y1z, Y20, Y21, Y28, Y2a, AV.cells?, Nat.reduceAdd, Nat.reduceMul]
  by_cases h1 : 900 < s.length
  · simp only [nd0, Y1n, Y1o, Y1p, Y1q, Y1w, Y1x, Y1y, Y1z, Y20, Y21, Y28, Y2a, AV.cells?, Nat.reduceAdd, Nat.reduceMul, decide_eq_true (show (900 : Int) < (s.length : Int) by omega)]
  simp only [nd0, Y1n, Y1o, Y1p, Y1q, Y1w, Y1x, Y1y, Y1z, Y20, Y21, Y28, Y2a, AV.cells?, Nat.reduceAdd, Nat.reduceMul, decide_eq_false (show ¬ (900 : Int) < (s.length : Int) by omega)]
  by_cases h2 : 20 < l.length
  · simp only [nd0, Y1n, Y1o, Y1p, Y1q, Y1w, Y1x, Y1y, Y1z, Y20, Y21, Y28, Y2a, AV.cells?, Nat.reduceAdd, Nat.reduceMul, decide_eq_true (show (20 : Int) < (l.length : Int) by omega)]
  simp only [nd0, Y1n, Y1o, Y1p, Y1q, Y1w, Y1x, Y1y, Y1z, Y20, Y21, Y28, Y2a, AV.cells?, Nat.reduceAdd, Nat.reduceMul, decide_eq_false (show ¬ (20 : Int) < (l.length : Int) by omega)]
  by_cases h3 : 20 < m.length
  · simp only [nd0, Y1n, Y1o, Y1p, Y1q, Y1w, Y1x, Y1y, Y1z, Y20, Y21, Y28, Y2a, AV.cells?, Nat.reduceAdd, Nat.reduceMul, decide_eq_true (show (20 : Int) < (m.length : Int) by omega)]
  simp only [nd0, Y1n, Y1o, Y1p, Y1q, Y1w, Y1x, Y1y, Y1z, Y20, Y21, Y28, Y2a, AV.cells?, Nat.reduceAdd, Nat.reduceMul, decide_eq_false (show ¬ (20 : Int) < (m.length : Int) by omega)]
  refine wCall.fx (Parse_spec B.k.p s) fun n => ?_
  rcases parseA_ok (s := s) (by omega) with ⟨e, p, hA⟩ | ⟨x, j, hx, hA⟩
  · rw [hA]
    simp only [nd0, Y1n, Y1o, Y1p, Y1q, Y1w, Y1x, Y1y, Y1z, Y20, Y21, Y28, Y2a, AV.cells?, Nat.reduceAdd, Nat.reduceMul]
    refine wCall.fx (says_spec B.k) fun n => ?_
    simp only [nd0, Y1n, Y1o, Y1p, Y1q, Y1w, Y1x, Y1y, Y1z, Y20, Y21, Y28, Y2a, AV.cells?, Nat.reduceAdd, Nat.reduceMul, eqA_At]
    refine wCall.fx (says_spec B.k) fun n => ?_
    simp only [nd0, Y1n, Y1o, Y1p, Y1q, Y1w, Y1x, Y1y, Y1z, Y20, Y21, Y28, Y2a, AV.cells?, Nat.reduceAdd, Nat.reduceMul, beq_self_eq_true]
  · rw [hA]
    obtain ⟨hw, hf⟩ := parseR_good hx
    have hft := Ex.tidy_fine hf
    have hwt := x.tidy_le
    have hne : eqA .iface x.tidy.enc nilE = some false := by cases x.tidy <;> rfl
    simp only [nd0, Y1n, Y1o, Y1p, Y1q, Y1w, Y1x, Y1y, Y1z, Y20, Y21, Y28, Y2a, AV.cells?, Nat.reduceAdd, Nat.reduceMul]
    refine wCall.fx (says_spec B.k) fun n => ?_
    simp only [nd0, Y1n, Y1o, Y1p, Y1q, Y1w, Y1x, Y1y, Y1z, Y20, Y21, Y28, Y2a, AV.cells?, Nat.reduceAdd, Nat.reduceMul]
    refine wCall.fx (Tidy_spec B.t (x.wt + 1) x (by omega) (by omega) hf) fun n => ?_
    simp only [nd0, Y1n, Y1o, Y1p, Y1q, Y1w, Y1x, Y1y, Y1z, Y20, Y21, Y28, Y2a, AV.cells?, Nat.reduceAdd, Nat.reduceMul, hne]
    have a1 := among_asks B.k.e (TXL_Lm l) (by omega)
    have a2 := among_asks B.k.e (TXL_Lm m) (by omega)
    refine wCall.fx (among_spec B.k.e (TXL_Lm l)) fun n => ?_
    simp only [nd0, Y1n, Y1o, Y1p, Y1q, Y1w, Y1x, Y1y, Y1z, Y20, Y21, Y28, Y2a, AV.cells?, Nat.reduceAdd, Nat.reduceMul]
    refine wCall.fx (among_spec B.k.e (TXL_Lm m)) fun n => ?_
    simp only [nd0, Y1n, Y1o, Y1p, Y1q, Y1w, Y1x, Y1y, Y1z, Y20, Y21, Y28, Y2a, AV.cells?, Nat.reduceAdd, Nat.reduceMul]
    refine wCall.fx (Eval_spec B.k.e a1 a2 (x.tidy.wt + 1) x.tidy (by omega) (by omega) hft) fun n => ?_
    rw [Ex.tidy_says hf]
    simp only [nd0, Y1n, Y1o, Y1p, Y1q, Y1w, Y1x, Y1y, Y1z, Y20, Y21, Y28, Y2a, AV.cells?, Nat.reduceAdd, Nat.reduceMul]
    refine wCall.fx (among_spec B.k.e (TXL_Lm l)) fun n => ?_
    simp only [nd0, Y1n, Y1o, Y1p, Y1q, Y1w, Y1x, Y1y, Y1z, Y20, Y21, Y28, Y2a, AV.cells?, Nat.reduceAdd, Nat.reduceMul]
    refine wCall.fx (among_spec B.k.e (TXL_Lm m)) fun n => ?_
    simp only [nd0, Y1n, Y1o, Y1p, Y1q, Y1w, Y1x, Y1y, Y1z, Y20, Y21, Y28, Y2a, AV.cells?, Nat.reduceAdd, Nat.reduceMul]
    refine wCall.fx (Eval_spec B.k.e a1 a2 (x.wt + 1) x (by omega) (by omega) hf) fun n => ?_
    simp only [nd0, Y1n, Y1o, Y1p, Y1q, Y1w, Y1x, Y1y, Y1z, Y20, Y21, Y28, Y2a, AV.cells?, Nat.reduceAdd, Nat.reduceMul, beq_self_eq_true]
    refine wCall.fx (Size_spec B.s x.tidy (by omega) hft) fun n => ?_
    simp only [nd0, Y1n, Y1o, Y1p, Y1q, Y1w, Y1x, Y1y, Y1z, Y20, Y21, Y28, Y2a, AV.cells?, Nat.reduceAdd, Nat.reduceMul]
    refine wCall.fx (Size_spec B.s x (by omega) hf) fun n => ?_
    have hsz := x.tidy_size
    simp only [nd0, Y1n, Y1o, Y1p, Y1q, Y1w, Y1x, Y1y, Y1z, Y20, Y21, Y28, Y2a, AV.cells?, Nat.reduceAdd, Nat.reduceMul, decide_eq_true (show (x.tidy.size : Int) ≤ (x.size : Int) by omega)]
    refine wCall.fx (Tidy_spec B.t (x.tidy.wt + 1) x.tidy (by omega) (by omega) hft) fun n => ?_
    rw [Ex.tidy_tidy]
    simp only [nd0, Y1n, Y1o, Y1p, Y1q, Y1w, Y1x, Y1y, Y1z, Y20, Y21, Y28, Y2a, AV.cells?, Nat.reduceAdd, Nat.reduceMul]
    refine wCall.fx (Text_spec B.k.w x.tidy (by omega) hft) fun n => ?_
    simp only [nd0, Y1n, Y1o, Y1p, Y1q, Y1w, Y1x, Y1y, Y1z, Y20, Y21, Y28, Y2a, AV.cells?, Nat.reduceAdd, Nat.reduceMul]
    refine wCall.fx (Text_spec B.k.w x.tidy (by omega) hft) fun n => ?_
    simp only [nd0, Y1n, Y1o, Y1p, Y1q, Y1w, Y1x, Y1y, Y1z, Y20, Y21, Y28, Y2a, AV.cells?, Nat.reduceAdd, Nat.reduceMul, decide_eq_true (show Ex.wr 0 x.tidy = Ex.wr 0 x.tidy from rfl)]
end
end Go.Sc
