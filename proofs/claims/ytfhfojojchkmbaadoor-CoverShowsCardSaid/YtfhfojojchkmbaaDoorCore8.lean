/- CONTRACTS: the reference's tables: TableCheck (under way). THE LAW ExprParses, out of the contracts. CONTRACTS: package expr: an expression is made tidy. THE LAW ExprTidies, out of the contracts. CONTRACTS: package cover: pairs of values that show a name. THE LAW CoverShows, out of the contracts. ARGUMENTS: whole numbers without a sign. (of the seat YtfhfojojchkmbaaDoor) -/
import Derived.Test.YtfhfojojchkmbaaDoorCore7
import Derived.Test.YtfhfojojchkmbaaDoorProg
import Derived.KernelRfl
namespace Go.Sc
open Go
set_option linter.unusedSimpArgs false
set_option linter.unusedVariables false
set_option linter.unnecessarySimpa false
section
variable {E : Env} {P : Program}
theorem Ex.enc_nil (x : Ex) : eqA .iface x.enc nilE = some false := by cases x <;> rfl
end
end Go.Sc
namespace Go.Sc.F
open Go Go.Sc
set_option linter.unusedVariables false
/-- signalbox/signalboxkeep.CoverShows -/
def keep_CoverShows (E : Env) (P : Program) (a0 a1 a2 : AV) (H : AH) (R : Kt) : Prop :=
  wGet (lenS a0) H fun t18 H =>
  wGet (binA .gtr t18 (.val (.int .i64 300))) H fun t19 H =>
  wIf t19 (
    R (.val (.bool true)) H) (
    wCall E P 126 [a0] H fun t22 H =>
    wGet (extractA t22 0) H fun t23 H =>
    wGet (extractA t22 1) H fun t24 H =>
    wNew 1 (some [(.val (.nilIface))]) H fun t7 H =>
    wPut (store1 t7 t23 H) fun _u H =>
    wCall E P 224 [] H fun t25 H =>
    wGet (unA .not t25) H fun t26 H =>
    wGuard t26 false H (fun k => k t24 H) fun t28 H =>
    wGuard t26 false H (fun k => wBool (eqA .iface t28 (.val (.nilIface))) H true k) fun t29 H =>
    wGet (pickA t26 (.val (.bool true)) t29) H fun t30 H =>
    wIf t30 (
      wCall E P 224 [] H fun t31 H =>
      R t31 H) (
      wGet (load1 t7 H) H fun t33 H =>
      wCall E P 225 [t33] H fun t34 H =>
      wGet (extractA t34 0) H fun t35 H =>
      wGet (extractA t34 1) H fun t36 H =>
      wGet (load1 t7 H) H fun t37 H =>
      wCall E P 181 [t37] H fun t38 H =>
      wNew 1 (some [(.val (.slice none 0 0))]) H fun t10 H =>
      wPut (store1 t10 t38 H) fun _u H =>
      wBool (eqA .iface t36 (.val (.nilIface))) H true fun t40 H =>
      wGuard t40 false H (fun k => wGet (load1 t10 H) H k) fun t42 H =>
      wGuard t40 false H (fun k => wGet (lenA t42) H k) fun t43 H =>
      wGuard t40 false H (fun k => wGet (binA .eql t43 (.val (.int .i64 0))) H k) fun t44 H =>
      wGet (pickA t40 (.val (.bool true)) t44) H fun t45 H =>
      wIf t45 (
        wGet (lenA t35) H fun t47 H =>
        wGet (binA .eql t47 (.val (.int .i64 0))) H fun t48 H =>
        R t48 H) (
        wGet (load1 t10 H) H fun t51 H =>
        wGet (lenA t51) H fun t52 H =>
        wCall E P 48 [a2, t52] H fun t53 H =>
        wLoop 2 (fun I1 => I1 (.val (.bool false)) (.val (.int .i64 0)) H) fun I1 t13 t14 H =>
          wGet (lenA t35) H fun t56 H =>
          wGet (binA .lss t14 t56) H fun t57 H =>
          wIf t57 (
            wGet (iaddr 3 t35 t14) H fun t62 H =>
            wGet (loadN 3 t62 H) H fun t63 H =>
            wNew 3 (some [(.val (.string ⟨#[]⟩)), (.val (.int .u64 0)), (.val (.int .u64 0))]) H fun t15 H =>
            wPut (storeN 3 t15 t63 H) fun _u H =>
            wLoop 1 (fun I2 => I2 (.val (.int .i64 0)) H) fun I2 t16 H =>
              wGet (load1 t10 H) H fun t65 H =>
              wGet (lenA t65) H fun t66 H =>
              wGet (binA .lss t16 t66) H fun t67 H =>
              wGuard t67 true H (fun k => wGet (load1 t10 H) H k) fun t69 H =>
              wGuard t67 true H (fun k => k t16 H) fun t70 H =>
              wGuard t67 true H (fun k => wGet (iaddr 1 t69 t70) H k) fun t71 H =>
              wGuard t67 true H (fun k => wGet (load1 t71 H) H k) fun t72 H =>
              wGuard t67 true H (fun k => wGet (faddr 0 t15) H k) fun t73 H =>
              wGuard t67 true H (fun k => wGet (load1 t73 H) H k) fun t74 H =>
              wGuard t67 true H (fun k => wGet (binA .neq t72 t74) H k) fun t75 H =>
              wGet (pickA t67 t75 (.val (.bool false))) H fun t76 H =>
              wIf t76 (
                wGet (binA .add t16 (.val (.int .i64 1))) H fun t78 H =>
                I2 t78 H) (
                wGet (load1 t10 H) H fun t80 H =>
                wGet (lenA t80) H fun t81 H =>
                wGet (binA .eql t16 t81) H fun t82 H =>
                wGuard t82 false H (fun k => wGet (faddr 2 t15) H k) fun t84 H =>
                wGuard t82 false H (fun k => wGet (load1 t84 H) H k) fun t85 H =>
                wGuard t82 false H (fun k => wGet (faddr 1 t15) H k) fun t86 H =>
                wGuard t82 false H (fun k => wGet (load1 t86 H) H k) fun t87 H =>
                wGuard t82 false H (fun k => k t16 H) fun t88 H =>
                wGuard t82 false H (fun k => wGet (binA .shl (.val (.int .u64 1)) t88) H k) fun t89 H =>
                wGuard t82 false H (fun k => wGet (binA .or t87 t89) H k) fun t90 H =>
                wGuard t82 false H (fun k => wGet (binA .neq t85 t90) H k) fun t91 H =>
                wGet (pickA t82 (.val (.bool true)) t91) H fun t92 H =>
                wGuard t92 false H (fun k => wGet (faddr 1 t15) H k) fun t94 H =>
                wGuard t92 false H (fun k => wGet (load1 t94 H) H k) fun t95 H =>
                wGuard t92 false H (fun k => k t16 H) fun t96 H =>
                wGuard t92 false H (fun k => wGet (binA .shr t95 t96) H k) fun t97 H =>
                wGuard t92 false H (fun k => wGet (binA .and t97 (.val (.int .u64 1))) H k) fun t98 H =>
                wGuard t92 false H (fun k => wGet (binA .eql t98 (.val (.int .u64 1))) H k) fun t99 H =>
                wGet (pickA t92 (.val (.bool true)) t99) H fun t100 H =>
                wGuard t100 false H (fun k => k (.fn 226 [] [t10, t7]) H) fun t102 H =>
                wGuard t100 false H (fun k => wGet (faddr 2 t15) H k) fun t103 H =>
                wGuard t100 false H (fun k => wGet (load1 t103 H) H k) fun t104 H =>
                wGuard t100 false H (fun k => k (.fn 226 [] [t10, t7]) H) fun t106 H =>
                wGuard t100 false H (fun k => wGet (faddr 1 t15) H k) fun t107 H =>
                wGuard t100 false H (fun k => wGet (load1 t107 H) H k) fun t108 H =>
                wGuard t100 false H (fun k => wCallV E P t102 [t104] H k) fun t105 H =>
                (wGuard t100 false H (fun k => wGet (load1 t107 H) H k) (fun y H2 => y = t108 ∧ H2 = H)) ∧
                wGuard t100 false H (fun k => wCallV E P t106 [t108] H k) fun t109 H =>
                wGuard t100 false H (fun k => wBool (eqA .bool t105 t109) H false k) fun t110 H =>
                wGet (pickA t100 (.val (.bool true)) t110) H fun t111 H =>
                wIf t111 (
                  R (.val (.bool false)) H) (
                  wGuard t13 false H (fun k => k t16 H) fun t114 H =>
                  wGuard t13 false H (fun k => k t53 H) fun t115 H =>
                  wGuard t13 false H (fun k => wGet (binA .eql t114 t115) H k) fun t116 H =>
                  wGet (pickA t13 (.val (.bool true)) t116) H fun t117 H =>
                  wGet (binA .add t14 (.val (.int .i64 1))) H fun t59 H =>
                  I1 t117 t59 H))) (
            wGuard t13 false H (fun k => k (.fn 226 [] [t10, t7]) H) fun t120 H =>
            wGuard t13 false H (fun k => k a1 H) fun t121 H =>
            wGuard t13 false H (fun k => k t53 H) fun t122 H =>
            wGuard t13 false H (fun k => wGet (binA .shl (.val (.int .u64 1)) t122) H k) fun t123 H =>
            wGuard t13 false H (fun k => wGet (binA .andNot t121 t123) H k) fun t124 H =>
            wGuard t13 false H (fun k => k (.fn 226 [] [t10, t7]) H) fun t126 H =>
            wGuard t13 false H (fun k => k a1 H) fun t127 H =>
            wGuard t13 false H (fun k => k t53 H) fun t128 H =>
            wGuard t13 false H (fun k => wGet (binA .shl (.val (.int .u64 1)) t128) H k) fun t129 H =>
            wGuard t13 false H (fun k => wGet (binA .or t127 t129) H k) fun t130 H =>
            wGuard t13 false H (fun k => wCallV E P t120 [t124] H k) fun t125 H =>
            wGuard t13 false H (fun k => wCallV E P t126 [t130] H k) fun t131 H =>
            wGuard t13 false H (fun k => wBool (eqA .bool t125 t131) H false k) fun t132 H =>
            wGet (pickA t13 (.val (.bool true)) t132) H fun t133 H =>
            R t133 H))))

/-- signalbox/signalboxkeep.covered -/
def keep_covered (E : Env) (P : Program) (H : AH) (R : Kt) : Prop :=
  wCall E P 126 [(.val (.string ⟨#[97, 32, 38, 32, 98]⟩))] H fun t5 H =>
  wGet (extractA t5 0) H fun t6 H =>
  wGet (extractA t5 1) H fun t7 H =>
  wBool (eqA .iface t7 (.val (.nilIface))) H true fun t9 H =>
  wIf t9 (
    R (.val (.bool false)) H) (
    wCall E P 225 [t6] H fun t12 H =>
    wGet (extractA t12 0) H fun t13 H =>
    wGet (extractA t12 1) H fun t14 H =>
    wBool (eqA .iface t14 (.val (.nilIface))) H false fun t16 H =>
    wGuard t16 true H (fun k => k t13 H) fun t18 H =>
    wGuard t16 true H (fun k => wGet (lenA t18) H k) fun t19 H =>
    wGuard t16 true H (fun k => wGet (binA .eql t19 (.val (.int .i64 2))) H k) fun t20 H =>
    wGet (pickA t16 t20 (.val (.bool false))) H fun t21 H =>
    wGuard t21 true H (fun k => k t13 H) fun t23 H =>
    wGuard t21 true H (fun k => wGet (iaddr 3 t23 (.val (.int .i64 0))) H k) fun t24 H =>
    wGuard t21 true H (fun k => wGet (loadN 3 t24 H) H k) fun t25 H =>
    wGuard t21 true H (fun k => wAgg (fillA [(.val (.string ⟨#[]⟩)), (.val (.int .u64 0)), (.val (.int .u64 0))] [(0, 1, (.val (.string ⟨#[97]⟩))), (1, 1, (.val (.int .u64 2))), (2, 1, (.val (.int .u64 3)))]) H k) fun t26 H =>
    wGuard t21 true H (fun k => wGet (eqSA [(0, .string), (1, .int .u64), (2, .int .u64)] false t25 t26) H k) fun t27 H =>
    wGet (pickA t21 t27 (.val (.bool false))) H fun t28 H =>
    wGuard t28 true H (fun k => k t13 H) fun t30 H =>
    wGuard t28 true H (fun k => wGet (iaddr 3 t30 (.val (.int .i64 1))) H k) fun t31 H =>
    wGuard t28 true H (fun k => wGet (loadN 3 t31 H) H k) fun t32 H =>
    wGuard t28 true H (fun k => wAgg (fillA [(.val (.string ⟨#[]⟩)), (.val (.int .u64 0)), (.val (.int .u64 0))] [(0, 1, (.val (.string ⟨#[98]⟩))), (1, 1, (.val (.int .u64 1))), (2, 1, (.val (.int .u64 3)))]) H k) fun t33 H =>
    wGuard t28 true H (fun k => wGet (eqSA [(0, .string), (1, .int .u64), (2, .int .u64)] false t32 t33) H k) fun t34 H =>
    wGet (pickA t28 t34 (.val (.bool false))) H fun t35 H =>
    R t35 H)

/-- signalbox/cover.Pairs -/
def cover_Pairs (E : Env) (P : Program) (a0 : AV) (H : AH) (R : Kt) : Prop :=
  wNew 1 (AV.cells? a0) H fun t1 H =>
  wGet (load1 t1 H) H fun t10 H =>
  wBool (eqA .iface t10 (.val (.nilIface))) H false fun t11 H =>
  wIf t11 (
    R (.tup [(.val (.slice none 0 0)), (.ifc 1 (.val (.int .i64 7)))]) H) (
    wGet (load1 t1 H) H fun t13 H =>
    wCall E P 184 [t13] H fun t14 H =>
    wGet (lenA t14) H fun t15 H =>
    wGet (binA .gtr t15 (.val (.int .i64 0))) H fun t16 H =>
    wIf t16 (
      R (.tup [(.val (.slice none 0 0)), (.ifc 1 (.val (.int .i64 1)))]) H) (
      wGet (load1 t1 H) H fun t18 H =>
      wCall E P 181 [t18] H fun t19 H =>
      wNew 1 (some [(.val (.slice none 0 0))]) H fun t4 H =>
      wPut (store1 t4 t19 H) fun _u H =>
      wGet (load1 t4 H) H fun t20 H =>
      wGet (lenA t20) H fun t21 H =>
      wGet (binA .gtr t21 (.val (.int .i64 8))) H fun t22 H =>
      wIf t22 (
        R (.tup [(.val (.slice none 0 0)), (.ifc 1 (.val (.int .i64 4)))]) H) (
        wGet (load1 t4 H) H fun t25 H =>
        wGet (lenA t25) H fun t26 H =>
        wLoop 2 (fun I1 => I1 (.val (.slice none 0 0)) (.val (.int .i64 0)) H) fun I1 t6 t27 H =>
          wGet (binA .lss t27 t26) H fun t28 H =>
          wIf t28 (
            wJoin 1 (fun J2 =>
              wGet (iaddr 1 t25 t27) H fun t30 H =>
              wGet (load1 t30 H) H fun t31 H =>
              wGet (load1 t4 H) H fun t32 H =>
              wGet (lenA t32) H fun t33 H =>
              wGet (binA .shl (.val (.int .u64 1)) t33) H fun t34 H =>
              wLoop 2 (fun I3 => I3 t6 (.val (.int .u64 0)) H) fun I3 t6_1 t35 H =>
                wGet (binA .lss t35 t34) H fun t36 H =>
                wIf t36 (
                  wGet (binA .shr t35 t27) H fun t40 H =>
                  wGet (binA .and t40 (.val (.int .u64 1))) H fun t41 H =>
                  wGet (binA .eql t41 (.val (.int .u64 0))) H fun t42 H =>
                  wGuard t42 true H (fun k => k (.fn 228 [] [t4, t1]) H) fun t44 H =>
                  wGuard t42 true H (fun k => k t35 H) fun t45 H =>
                  wGuard t42 true H (fun k => k (.fn 228 [] [t4, t1]) H) fun t47 H =>
                  wGuard t42 true H (fun k => k t35 H) fun t48 H =>
                  wGuard t42 true H (fun k => k t27 H) fun t49 H =>
                  wGuard t42 true H (fun k => wGet (binA .shl (.val (.int .u64 1)) t49) H k) fun t50 H =>
                  wGuard t42 true H (fun k => wGet (binA .or t48 t50) H k) fun t51 H =>
                  wGuard t42 true H (fun k => wCallV E P t44 [t45] H k) fun t46 H =>
                  wGuard t42 true H (fun k => wCallV E P t47 [t51] H k) fun t52 H =>
                  wGuard t42 true H (fun k => wBool (eqA .bool t46 t52) H true k) fun t53 H =>
                  wGet (pickA t42 t53 (.val (.bool false))) H fun t54 H =>
                  wIf t54 (
                    wGet (binA .shl (.val (.int .u64 1)) t27) H fun t60 H =>
                    wGet (binA .or t35 t60) H fun t61 H =>
                    wAgg (fillA [(.val (.string ⟨#[]⟩)), (.val (.int .u64 0)), (.val (.int .u64 0))] [(0, 1, t31), (1, 1, t35), (2, 1, t61)]) H fun t62 H =>
                    wNewS 3 1 (fillA (List.replicate 1 [(.val (.string ⟨#[]⟩)), (.val (.int .u64 0)), (.val (.int .u64 0))]).flatten [(0, 3, t62)]) H fun t63 H =>
                    wApp 3 32 t6_1 t63 H fun t64 H =>
                    J2 t64 H) (
                    wGet (binA .add t35 (.val (.int .u64 1))) H fun t65 H =>
                    I3 t6_1 t65 H)) (
                  J2 t6_1 H)) fun t6_2 H =>
              wGet (binA .add t27 (.val (.int .i64 1))) H fun t66 H =>
              I1 t6_2 t66 H) (
            R (.tup [t6, (.val (.nilIface))]) H))))

/-- signalbox/signalboxkeep.CoverShows$1 -/
def keep_CoverShows_c1 (E : Env) (P : Program) (a0 a1 a2 : AV) (H : AH) (R : Kt) : Prop :=
  wLoop 2 (fun I1 => I1 (.val (.slice none 0 0)) (.val (.int .i64 0)) H) fun I1 t5 t6 H =>
    wGet (load1 a1 H) H fun t8 H =>
    wGet (lenA t8) H fun t9 H =>
    wGet (binA .lss t6 t9) H fun t10 H =>
    wIf t10 (
      wJoin 1 (fun J2 =>
        wGet (binA .shr a0 t6) H fun t15 H =>
        wGet (binA .and t15 (.val (.int .u64 1))) H fun t16 H =>
        wGet (binA .eql t16 (.val (.int .u64 1))) H fun t17 H =>
        wIf t17 (
          wGet (load1 a1 H) H fun t19 H =>
          wGet (iaddr 1 t19 t6) H fun t21 H =>
          wGet (load1 t21 H) H fun t22 H =>
          wNewS 1 1 (fillA (List.replicate 1 [(.val (.string ⟨#[]⟩))]).flatten [(0, 1, t22)]) H fun t23 H =>
          wApp 1 16 t5 t23 H fun t24 H =>
          J2 t24 H) (
          J2 t5 H)) fun t5_1 H =>
        wGet (binA .add t6 (.val (.int .i64 1))) H fun t12 H =>
        I1 t5_1 t12 H) (
      wGet (load1 a2 H) H fun t25 H =>
      wCall E P 157 [t5] H fun t27 H =>
      (wGet (load1 a2 H) H (fun y H2 => y = t25 ∧ H2 = H)) ∧
      wCall E P 157 [t5] H fun t29 H =>
      (wGet (load1 a2 H) H (fun y H2 => y = t25 ∧ H2 = H)) ∧
      wCall E P 158 [t25, t27, t29] H fun t30 H =>
      R t30 H)

/-- signalbox/cover.Pairs$1 -/
def cover_Pairs_c1 (E : Env) (P : Program) (a0 a1 a2 : AV) (H : AH) (R : Kt) : Prop :=
  wNew 1 (AV.cells? a0) H fun t3 H =>
  wGet (load1 a2 H) H fun t7 H =>
  wCall E P 158 [t7, (.fn 229 [] [t3, a1]), (.fn 229 [] [t3, a1])] H fun t10 H =>
  R t10 H

/-- signalbox/cover.Pairs$1$1 -/
def cover_Pairs_c1_c1 (E : Env) (P : Program) (a0 a1 a2 : AV) (H : AH) (R : Kt) : Prop :=
  wGet (load1 a1 H) H fun t5 H =>
  wGet (load1 a2 H) H fun t6 H =>
  wCall E P 13 [t6, a0] H fun t8 H =>
  (wGet (load1 a1 H) H (fun y H2 => y = t5 ∧ H2 = H)) ∧
  wGet (binA .shr t5 t8) H fun t9 H =>
  wGet (binA .and t9 (.val (.int .u64 1))) H fun t10 H =>
  wGet (binA .eql t10 (.val (.int .u64 1))) H fun t11 H =>
  R t11 H

end Go.Sc.F
namespace Go.Sc
open Go
set_option linter.unusedSimpArgs false
set_option linter.unusedVariables false
set_option linter.unnecessarySimpa false
/-! ### bits -/
abbrev U (v : Nat) : AV := .val (.int .u64 (v : Nat))
theorem wrap_u {v : Nat} (h : v < 2 ^ 64) : IntKind.u64.wrap (v : Int) = v := by
  rw [wrap_u64]
  omega
theorem shrA {v k : Nat} (h : k < 64) : binA .shr (U v) (Z k) = some (U (v / 2 ^ k)) := by
  simp only [binA]
  rw [if_neg (by omega), show min ((k : Int).toNat) IntKind.u64.bits = k by simp [IntKind.bits]; omega]
  congr 3
  rw [Int.fdiv_eq_ediv_of_nonneg _ (by exact_mod_cast Nat.zero_le _)]
  push_cast
  rfl
theorem shlA {k : Nat} (h : k < 64) : binA .shl (.val (.int .u64 1)) (Z k) = some (U (2 ^ k)) := by
  have h2 : 2 ^ k < 2 ^ 64 := Nat.pow_lt_pow_right (by omega) h
  simp only [binA]
  rw [if_neg (by omega), show min ((k : Int).toNat) IntKind.u64.bits = k by simp [IntKind.bits]; omega]
  congr 3
  rw [Int.one_mul, show ((2 : Int) ^ k) = ((2 ^ k : Nat) : Int) by push_cast; rfl, wrap_u h2]
theorem shlU {k : Nat} (h : k < 64) : binA .shl (U 1) (Z k) = some (U (2 ^ k)) := shlA h
theorem andA {a b : Nat} (ha : a < 2 ^ 64) (hb : b < 2 ^ 64) : binA .and (U a) (U b) = some (U (a &&& b)) := by
  simp only [binA, intBin, if_true, Option.map_some]
  have h1 : (BitVec.ofInt IntKind.u64.bits (a : Int) &&& BitVec.ofInt IntKind.u64.bits (b : Int)).toNat = a &&& b := by
    rw [BitVec.toNat_and, BitVec.toNat_ofInt, BitVec.toNat_ofInt]
    simp only [IntKind.bits]
    congr 1 <;> omega
  rw [h1, wrap_u (Nat.lt_of_le_of_lt Nat.and_le_left ha)]
theorem orA {a b : Nat} (ha : a < 2 ^ 64) (hb : b < 2 ^ 64) : binA .or (U a) (U b) = some (U (a ||| b)) := by
  simp only [binA, intBin, if_true, Option.map_some]
  have h1 : (BitVec.ofInt IntKind.u64.bits (a : Int) ||| BitVec.ofInt IntKind.u64.bits (b : Int)).toNat = a ||| b := by
    rw [BitVec.toNat_or, BitVec.toNat_ofInt, BitVec.toNat_ofInt]
    simp only [IntKind.bits]
    congr 1 <;> omega
  rw [h1, wrap_u (Nat.or_lt_two_pow ha hb)]
theorem andNotA {a b : Nat} (ha : a < 2 ^ 64) (hb : b < 2 ^ 64) : binA .andNot (U a) (U b) = some (U (a &&& (2 ^ 64 - 1 - b))) := by
  simp only [binA, intBin, if_true, Option.map_some]
  have h1 : (BitVec.ofInt IntKind.u64.bits (a : Int) &&& ~~~(BitVec.ofInt IntKind.u64.bits (b : Int))).toNat = a &&& (2 ^ 64 - 1 - b) := by
    rw [BitVec.toNat_and, BitVec.toNat_not, BitVec.toNat_ofInt, BitVec.toNat_ofInt]
    simp only [IntKind.bits]
    congr 1 <;> omega
  rw [h1, wrap_u (Nat.lt_of_le_of_lt Nat.and_le_left ha)]
theorem binA_U : (.val (.int .u64 1) : AV) = U 1 := rfl
theorem bit_one {v k : Nat} (hv : v < 2 ^ 64) : ((((v / 2 ^ k) &&& 1 : Nat) : Int) = 1) ↔ v.testBit k = true := by
  rw [Nat.and_one_is_mod, Nat.testBit_eq_decide_div_mod_eq, decide_eq_true_iff]
  omega
theorem bit_zero {v k : Nat} (hv : v < 2 ^ 64) : ((((v / 2 ^ k) &&& 1 : Nat) : Int) = 0) ↔ v.testBit k = false := by
  rw [Nat.and_one_is_mod, Nat.testBit_eq_decide_div_mod_eq, decide_eq_false_iff_not]
  omega
def ixN (L : List Str) (s : Str) : Nat := (idx L s).toNat
theorem mem_split {L : List Str} {s : Str} (h : s ∈ L) : ∃ pre rest, L = pre ++ s :: rest ∧ s ∉ pre := by
  induction L with
  | nil => simp at h
  | cons a l ih =>
    by_cases e : s = a
    · subst e; exact ⟨[], l, rfl, by simp⟩
    · obtain ⟨pre, rest, h1, h2⟩ := ih (by simpa [e] using h)
      exact ⟨a :: pre, rest, by rw [h1]; rfl, by simp [e, h2]⟩
theorem ixN_of {L : List Str} {s : Str} (h : s ∈ L) : idx L s = (ixN L s : Nat) := by
  obtain ⟨pre, rest, rfl, hn⟩ := mem_split h
  unfold ixN
  rw [idx_app hn]; simp
theorem ixN_app {pre rest : List Str} {s : Str} (hn : s ∉ pre) : ixN (pre ++ s :: rest) s = pre.length := by unfold ixN; rw [idx_app hn]; simp
theorem ixN_lt {L : List Str} {s : Str} (h : s ∈ L) : ixN L s < L.length := by
  obtain ⟨pre, rest, rfl, hn⟩ := mem_split h
  rw [ixN_app hn]; simp
theorem ixN_get {L : List Str} {s : Str} (h : s ∈ L) : L[ixN L s]? = some s := by
  obtain ⟨pre, rest, rfl, hn⟩ := mem_split h
  rw [ixN_app hn]; simp
theorem ixN_at {L : List Str} (hL : L.Nodup) {k : Nat} {s : Str} (h : L[k]? = some s) : ixN L s = k := by
  have hm := List.mem_of_getElem? h
  have h1 := ixN_get hm
  have hk := (List.getElem?_eq_some_iff.1 h).1
  have hi := ixN_lt hm
  rw [List.getElem?_eq_getElem hk] at h
  rw [List.getElem?_eq_getElem hi] at h1
  exact (List.getElem_inj hL).1 ((Option.some.inj h1).trans (Option.some.inj h).symm)
/-- what an expression says of values of some names -/
def sv (x : Ex) (L : List Str) (v : Nat) : Bool := x.says (fun s => v.testBit (ixN L s)) (fun s => v.testBit (ixN L s))
def pairAt (x : Ex) (L : List Str) (k : Nat) : Option Nat := (List.range (2 ^ L.length)).find? fun v => !v.testBit k && (sv x L v != sv x L (v ||| 2 ^ k))
/-- one pair's cells -/
def Pr (p : Str × Nat × Nat) : List AV := [S p.1, U p.2.1, U p.2.2]
def PrL (l : List (Str × Nat × Nat)) : AV := .slN (l.flatMap Pr) l.length
def pairsUp (x : Ex) (L : List Str) : Nat → List (Str × Nat × Nat)
  | 0 => []
  | k + 1 => pairsUp x L k ++ (match L[k]?, pairAt x L k with
    | some s, some v => [(s, v, v ||| 2 ^ k)]
    | _, _ => [])
def pairsOf (x : Ex) (L : List Str) : List (Str × Nat × Nat) := pairsUp x L L.length
theorem pairsUp_len (x : Ex) (L : List Str) : ∀ k, (pairsUp x L k).length ≤ k
  | 0 => by simp [pairsUp]
  | k + 1 => by
    have := pairsUp_len x L k
    simp only [pairsUp, List.length_append]
    split <;> simp <;> omega
structure CoverBodies (E : Env) (P : Program) : Prop where
  ev : EvalBodies0 E P
  s : SortedBodies E P
  index : Body2 E P 13 F.slices_Index_Lstring_string
  pairs : Body1 E P 225 F.cover_Pairs
  pairs1 : Body3 E P 228 F.cover_Pairs_c1
  pairs2 : Body3 E P 229 F.cover_Pairs_c1_c1
section
variable {E : Env} {P : Program}
theorem is_spec (B : CoverBodies E P) {L : List Str} (hL : L.length < 60) {v : Nat} (hv : v < 2 ^ 64) {s : Str} (hs : s ∈ L) : FX E P 229 ([S s] ++ [.ptrF [U v] 0, .ptrF [Lm S L] 0]) (Bo (v.testBit (ixN L s))) := by
  have hi := ixN_lt hs
  refine FX.of' ⟨trivial, ⟨trivial, trivial⟩, ⟨closed_S L, trivial⟩, trivial⟩ trivial fun n R hR => B.pairs2 _ _ _ _ _ ?_
  unfold F.cover_Pairs_c1_c1
  simp only [nd0, Y1n, Y1o, Y1p, Y1q, Y1w, Y1x, Y1y, Y1z, Y20, Y21, Y28, Y2a, AV.cells?, Nat.reduceAdd, Nat.reduceMul]
  refine wCall.fx (IndexS_spec B.index L s (by omega)) fun n1 => ?_
  rw [ixN_of hs]
  simp only [nd0, Y1n, Y1o, Y1p, Y1q, Y1w, Y1x, Y1y, Y1z, Y20, Y21, Y28, Y2a, AV.cells?, Nat.reduceAdd, Nat.reduceMul, and_self, true_and]
  have hv2 : v / 2 ^ ixN L s < 2 ^ 64 := Nat.lt_of_le_of_lt (Nat.div_le_self _ _) hv
  rw [shrA (by omega)]
  simp only [nd0, Y1n, Y1o, Y1p, Y1q, Y1w, Y1x, Y1y, Y1z, Y20, Y21, Y28, Y2a, AV.cells?, Nat.reduceAdd, Nat.reduceMul]
  rw [binA_U, andA hv2 (by omega)]
  simp only [nd0, Y1n, Y1o, Y1p, Y1q, Y1w, Y1x, Y1y, Y1z, Y20, Y21, Y28, Y2a, AV.cells?, Nat.reduceAdd, Nat.reduceMul]
  refine hR _ _ ?_
  congr 2
  rw [Bool.eq_iff_iff, decide_eq_true_iff]
  exact bit_one hv
def askP (v : Nat) (L : List Str) : AV := .fn 229 [] [.ptrF [U v] 0, .ptrF [Lm S L] 0]
theorem is_asks (B : CoverBodies E P) {L : List Str} (hL : L.length < 60) {v : Nat} (hv : v < 2 ^ 64) : AsksOn E P (askP v L) (fun s => v.testBit (ixN L s)) (fun s => s ∈ L) :=
  ⟨229, _, rfl, ⟨⟨trivial, trivial⟩, ⟨closed_S L, trivial⟩, trivial⟩, fun s hs => is_spec B hL hv hs⟩
theorem names_on {x : Ex} (hf : x.fine) : x.on (fun s => s ∈ x.names) (fun s => s ∈ x.names) :=
  Ex.on_of x hf (fun s hs => onceS_mem.2 hs) (fun s hs => onceS_mem.2 (Ex.edge_name x s hs))
theorem sv_spec (B : CoverBodies E P) {x : Ex} (hw : x.wt ≤ 1000000) (hf : x.fine) (hL : x.names.length < 60) {v : Nat} (hv : v < 2 ^ 64) : FX E P 228 ([U v] ++ [.ptrF [Lm S x.names] 0, .ptrF [x.enc] 0]) (Bo (sv x x.names v)) := by
  refine FX.of' ⟨trivial, ⟨closed_S _, trivial⟩, ⟨Ex.enc_closed x, trivial⟩, trivial⟩ trivial fun n R hR => B.pairs1 _ _ _ _ _ ?_
  unfold F.cover_Pairs_c1
  rw [cells?_scalar (show (U v).scalar = true from rfl)]
  refine wNew.F' rfl ?_
  simp only [nd0, Y1n, Y1o, Y1p, Y1q, Y1w, Y1x, Y1y, Y1z, Y20, Y21, Y28, Y2a, AV.cells?, Nat.reduceAdd, Nat.reduceMul]
  have ha := is_asks B hL hv
  refine wCall.fx (Eval_spec1 B.ev ha ha (x.wt + 1) x (by omega) hw hf (names_on hf)) fun n1 => ?_
  exact hR _ _ rfl
def cond (x : Ex) (k v : Nat) : Bool := !v.testBit k && (sv x x.names v != sv x x.names (v ||| 2 ^ k))
def pairsA (x : Ex) : AV := if 0 < x.edges.length then .tup [nilS, Er 1] else if 8 < x.names.length then .tup [nilS, Er 4] else .tup [PrL (pairsOf x x.names), nilE]
theorem PrL_closed (l : List (Str × Nat × Nat)) : (PrL l).closed := by
  simp only [PrL, AV.closed]
  induction l with
  | nil => trivial
  | cons a l ih => exact ⟨trivial, trivial, trivial, ih⟩
theorem pairsA_closed (x : Ex) : (pairsA x).closed := by
  unfold pairsA
  split
  · exact ⟨trivial, Er_closed _, trivial⟩
  split
  · exact ⟨trivial, Er_closed _, trivial⟩
  · exact ⟨PrL_closed _, trivial, trivial⟩
theorem flat_len (l : List (Str × Nat × Nat)) : (l.flatMap Pr).length = l.length * 3 := by
  induction l with
  | nil => rfl
  | cons a l ih => simp only [List.flatMap_cons, List.length_append, ih, List.length_cons, Pr, List.length_nil]; omega
set_option maxHeartbeats 1000000 in
theorem Pairs_spec (B : CoverBodies E P) (x : Ex) (hw : x.wt ≤ 1000000) (hf : x.fine) : FX E P 225 [x.enc] (pairsA x) := by
  refine FX.of ⟨Ex.enc_closed x, trivial⟩ (pairsA_closed x) fun n R hR => B.pairs _ _ _ ?_
  unfold F.cover_Pairs
  rw [cells?_scalar (Ex.enc_scalar x)]
  refine wNew.F' rfl ?_
  simp only [nd0, Y1n, Y1o, Y1p, Y1q, Y1w, Y1x, Y1y, Y1z, Y20, Y21, Y28, Y2a, AV.cells?, Nat.reduceAdd, Nat.reduceMul, Ex.enc_nil]
  unfold pairsA at hR
  refine wCall.fx (Edges_spec B.s x hw hf) fun n1 => ?_
  rw [Lm_S]
  simp only [nd0, Y1n, Y1o, Y1p, Y1q, Y1w, Y1x, Y1y, Y1z, Y20, Y21, Y28, Y2a, AV.cells?, Nat.reduceAdd, Nat.reduceMul]
  by_cases he : 0 < x.edges.length
  · rw [if_pos he] at hR
    simp only [nd0, Y1n, Y1o, Y1p, Y1q, Y1w, Y1x, Y1y, Y1z, Y20, Y21, Y28, Y2a, AV.cells?, Nat.reduceAdd, Nat.reduceMul, decide_eq_true (show (0 : Int) < (x.edges.length : Int) by omega)]
    exact hR _ _ (.same _)
  rw [if_neg he] at hR
  simp only [nd0, Y1n, Y1o, Y1p, Y1q, Y1w, Y1x, Y1y, Y1z, Y20, Y21, Y28, Y2a, AV.cells?, Nat.reduceAdd, Nat.reduceMul, decide_eq_false (show ¬ (0 : Int) < (x.edges.length : Int) by omega)]
  refine wCall.fx (Names_spec B.s x hw hf) fun n2 => ?_
  refine wNew.L (l := [nilS]) rfl ?_
  simp only [nd0, Y1n, Y1o, Y1p, Y1q, Y1w, Y1x, Y1y, Y1z, Y20, Y21, Y28, Y2a, AV.cells?, Nat.reduceAdd, Nat.reduceMul]
  rw [store1_L rfl]
  simp only [nd0, Y1n, Y1o, Y1p, Y1q, Y1w, Y1x, Y1y, Y1z, Y20, Y21, Y28, Y2a, AV.cells?, Nat.reduceAdd, Nat.reduceMul, Nat.reduceLT]
  by_cases hn : 8 < x.names.length
  · rw [if_pos hn] at hR
    simp only [nd0, Y1n, Y1o, Y1p, Y1q, Y1w, Y1x, Y1y, Y1z, Y20, Y21, Y28, Y2a, AV.cells?, Nat.reduceAdd, Nat.reduceMul, decide_eq_true (show (8 : Int) < (x.names.length : Int) by omega)]
    exact hR _ _ (.same _)
  rw [if_neg hn] at hR
  simp only [nd0, Y1n, Y1o, Y1p, Y1q, Y1w, Y1x, Y1y, Y1z, Y20, Y21, Y28, Y2a, AV.cells?, Nat.reduceAdd, Nat.reduceMul, decide_eq_false (show ¬ (8 : Int) < (x.names.length : Int) by omega)]
  have hp0 : 0 < 2 ^ x.names.length := Nat.two_pow_pos _
  have hp8 : 2 ^ x.names.length ≤ 2 ^ 8 := Nat.pow_le_pow_right (by omega) (by omega)
  have hfz : ∀ (v : Nat) (bs : List Blk) (c : Nat), FkL ⟨.cells n2 1 [Lm S x.names] :: bs, c⟩ S0 ([] ++ [U v] ++ [.ptrL 0 0 n2, .ptrF [x.enc] 0]) ([U v] ++ [.ptrF [Lm S x.names] 0, .ptrF [x.enc] 0]) := fun v bs c =>
    .cons (.same _) (.cons (Fk.ptrF 1 rfl rfl (FkL.same _)) (.cons (.same _) .nil))
  refine wLoop.two (fun m t i H => ∃ k z c, k ≤ x.names.length ∧ i = Z (k : Nat) ∧ m = x.names.length - k ∧ Gr 3 z 1 t ((pairsUp x x.names k).flatMap Pr) (pairsUp x x.names k).length ∧ H = ⟨[.cells n2 1 [Lm S x.names], z], c⟩) x.names.length
    (gh2.of (ghost_room [.dead] (by simp)) ⟨0, .dead, _, by omega, rfl, rfl, .nil, rfl⟩) ?_
  rintro m t i H ⟨k, z, c, hk, rfl, rfl, hg, rfl⟩
  by_cases hlt : k < x.names.length
  case neg =>
    have : k = x.names.length := by omega
    subst this
    simp only [nd0, Y1n, Y1o, Y1p, Y1q, Y1w, Y1x, Y1y, Y1z, Y20, Y21, Y28, Y2a, AV.cells?, Nat.reduceAdd, Nat.reduceMul, decide_eq_false (show ¬ ((x.names.length : Int) < (x.names.length : Int)) by omega)]
    refine hR _ _ ?_
    exact Fk.tup (.cons (.sub hg.sub) (FkL.same _))
  simp only [nd0, Y1n, Y1o, Y1p, Y1q, Y1w, Y1x, Y1y, Y1z, Y20, Y21, Y28, Y2a, AV.cells?, Nat.reduceAdd, Nat.reduceMul, decide_eq_true (show (k : Int) < (x.names.length : Int) by omega)]
  have hkey : x.names[k]? = some x.names[k] := List.getElem?_eq_getElem hlt
  refine wJoin.one (fun t H => ∃ z c, Gr 3 z 1 t ((pairsUp x x.names (k + 1)).flatMap Pr) (pairsUp x x.names (k + 1)).length ∧ H = ⟨[.cells n2 1 [Lm S x.names], z], c⟩) ?_ ?_
  case refine_2 =>
    rintro t H ⟨z, c, hg, rfl⟩
    rw [binA_succ (by omega)]
    simp only [nd0, Y1n, Y1o, Y1p, Y1q, Y1w, Y1x, Y1y, Y1z, Y20, Y21, Y28, Y2a, AV.cells?, Nat.reduceAdd, Nat.reduceMul]
    exact back2.mk _ (by omega) ⟨k + 1, z, c, by omega, rfl, rfl, hg, rfl⟩
  rw [iaddr_Nn hlt]
  simp only [nd0, Y1n, Y1o, Y1p, Y1q, Y1w, Y1x, Y1y, Y1z, Y20, Y21, Y28, Y2a, AV.cells?, Nat.reduceAdd, Nat.reduceMul, show (x.names.map fun s => S s)[k]? = some (S x.names[k]) by rw [List.getElem?_map, hkey]; rfl]
  rw [shlA (by omega)]
  simp only [nd0, Y1n, Y1o, Y1p, Y1q, Y1w, Y1x, Y1y, Y1z, Y20, Y21, Y28, Y2a, AV.cells?, Nat.reduceAdd, Nat.reduceMul]
  refine wLoop.two (fun m t' i H => ∃ v c, v ≤ 2 ^ x.names.length ∧ i = U v ∧ m = 2 ^ x.names.length - v ∧ t' = t ∧ (∀ w < v, cond x k w = false) ∧ H = ⟨[.cells n2 1 [Lm S x.names], z], c⟩) (2 ^ x.names.length) (gh2.mk ⟨0, c, by omega, rfl, rfl, rfl, by simp, rfl⟩) ?_
  rintro m tt i H ⟨v, c1, hv, rfl, rfl, rfl, hno, rfl⟩
  by_cases hvl : v < 2 ^ x.names.length
  case neg =>
    simp only [nd0, Y1n, Y1o, Y1p, Y1q, Y1w, Y1x, Y1y, Y1z, Y20, Y21, Y28, Y2a, AV.cells?, Nat.reduceAdd, Nat.reduceMul, decide_eq_false (show ¬ ((v : Int) < ((2 ^ x.names.length : Nat) : Int)) by omega)]
    have hnone : pairAt x x.names k = none := by
      unfold pairAt
      rw [List.find?_range_eq_none]
      intro w hw
      have := hno w (by omega)
      unfold cond at this
      simp [this]
    refine gh1.mk ⟨z, c1, ?_, rfl⟩
    simpa [pairsUp, hkey, hnone] using hg
  have hk2 : 2 ^ k ≤ 2 ^ 8 := Nat.pow_le_pow_right (by omega) (by omega)
  simp only [nd0, Y1n, Y1o, Y1p, Y1q, Y1w, Y1x, Y1y, Y1z, Y20, Y21, Y28, Y2a, AV.cells?, Nat.reduceAdd, Nat.reduceMul, decide_eq_true (show ((v : Int) < ((2 ^ x.names.length : Nat) : Int)) by omega)]
  rw [shrA (by omega)]
  simp only [nd0, Y1n, Y1o, Y1p, Y1q, Y1w, Y1x, Y1y, Y1z, Y20, Y21, Y28, Y2a, AV.cells?, Nat.reduceAdd, Nat.reduceMul]
  have hdiv : v / 2 ^ k < 2 ^ 64 := Nat.lt_of_le_of_lt (Nat.div_le_self _ _) (by omega)
  rw [binA_U, andA hdiv (by omega)]

  simp only [nd0, Y1n, Y1o, Y1p, Y1q, Y1w, Y1x, Y1y, Y1z, Y20, Y21, Y28, Y2a, AV.cells?, Nat.reduceAdd, Nat.reduceMul, show (0 : Int) = ((0 : Nat) : Int) from rfl]
  have next : ∀ c2 : Nat, cond x k v = false → back2 (fun m t' i H => ∃ v c, v ≤ 2 ^ x.names.length ∧ i = U v ∧ m = 2 ^ x.names.length - v ∧ t' = tt ∧ (∀ w < v, cond x k w = false) ∧ H = ⟨[.cells n2 1 [Lm S x.names], z], c⟩) (2 ^ x.names.length - v) tt (U (v + 1)) ⟨[.cells n2 1 [Lm S x.names], z], c2⟩ := fun c2 h =>
    back2.mk _ (by omega) ⟨v + 1, c2, by omega, rfl, rfl, rfl, fun w hw => by
      rcases Nat.lt_or_ge w v with h1 | h1
      · exact hno w h1
      · rw [show w = v by omega]; exact h, rfl⟩
  have hadd : binA .add (U v) (U 1) = some (U (v + 1)) := by
    rw [show U 1 = (.val (.int .u64 1) : AV) from rfl, binA_add', show ((v : Int) + 1) = ((v + 1 : Nat) : Int) by push_cast; rfl, wrap_u (by omega)]
  cases hb : v.testBit k with
  | true =>
    simp only [nd0, Y1n, Y1o, Y1p, Y1q, Y1w, Y1x, Y1y, Y1z, Y20, Y21, Y28, Y2a, AV.cells?, Nat.reduceAdd, Nat.reduceMul, decide_eq_false (show ¬ ((((v / 2 ^ k) &&& 1 : Nat) : Int) = ((0 : Nat) : Int)) from fun h => by rw [(bit_zero (by omega)).1 h] at hb; cases hb)]
    rw [hadd]
    simp only [nd0, Y1n, Y1o, Y1p, Y1q, Y1w, Y1x, Y1y, Y1z, Y20, Y21, Y28, Y2a, AV.cells?, Nat.reduceAdd, Nat.reduceMul]
    exact next _ (by unfold cond; rw [hb]; rfl)
  | false =>
    simp only [nd0, Y1n, Y1o, Y1p, Y1q, Y1w, Y1x, Y1y, Y1z, Y20, Y21, Y28, Y2a, AV.cells?, Nat.reduceAdd, Nat.reduceMul, decide_eq_true (show ((((v / 2 ^ k) &&& 1 : Nat) : Int) = ((0 : Nat) : Int)) from (bit_zero (by omega)).2 hb)]
    rw [shlU (by omega)]
    simp only [nd0, Y1n, Y1o, Y1p, Y1q, Y1w, Y1x, Y1y, Y1z, Y20, Y21, Y28, Y2a, AV.cells?, Nat.reduceAdd, Nat.reduceMul]
    rw [orA (by omega) (by omega)]
    simp only [nd0, Y1n, Y1o, Y1p, Y1q, Y1w, Y1x, Y1y, Y1z, Y20, Y21, Y28, Y2a, AV.cells?, Nat.reduceAdd, Nat.reduceMul]
    have hor : v ||| 2 ^ k < 2 ^ 64 := Nat.or_lt_two_pow (by omega) (by omega)
    refine wCallV.bo (fs := []) (cs := [.ptrL 0 0 n2, .ptrF [x.enc] 0]) (sv_spec B hw hf (by omega) (v := v) (by omega)) trivial (hfz v _ _) fun n3 => ?_
    simp only [nd0, Y1n, Y1o, Y1p, Y1q, Y1w, Y1x, Y1y, Y1z, Y20, Y21, Y28, Y2a, AV.cells?, Nat.reduceAdd, Nat.reduceMul]
    refine wCallV.bo (fs := []) (cs := [.ptrL 0 0 n2, .ptrF [x.enc] 0]) (sv_spec B hw hf (by omega) (v := v ||| 2 ^ k) hor) trivial (hfz (v ||| 2 ^ k) _ _) fun n4 => ?_
    simp only [nd0, Y1n, Y1o, Y1p, Y1q, Y1w, Y1x, Y1y, Y1z, Y20, Y21, Y28, Y2a, AV.cells?, Nat.reduceAdd, Nat.reduceMul]
    cases hs : sv x x.names v == sv x x.names (v ||| 2 ^ k) with
    | true =>
      simp only [nd0, Y1n, Y1o, Y1p, Y1q, Y1w, Y1x, Y1y, Y1z, Y20, Y21, Y28, Y2a, AV.cells?, Nat.reduceAdd, Nat.reduceMul]
      rw [hadd]
      simp only [nd0, Y1n, Y1o, Y1p, Y1q, Y1w, Y1x, Y1y, Y1z, Y20, Y21, Y28, Y2a, AV.cells?, Nat.reduceAdd, Nat.reduceMul]
      exact next _ (by unfold cond; rw [hb, bne, hs]; rfl)
    | false =>
      simp only [nd0, Y1n, Y1o, Y1p, Y1q, Y1w, Y1x, Y1y, Y1z, Y20, Y21, Y28, Y2a, AV.cells?, Nat.reduceAdd, Nat.reduceMul]
      have hsome : pairAt x x.names k = some v := by
        unfold pairAt
        rw [List.find?_range_eq_some]
        refine ⟨by rw [hb, bne, hs]; rfl, by simpa using hvl, fun w hw => ?_⟩
        have := hno w hw
        unfold cond at this
        rw [this]; rfl
      rw [show fillA [S [], U 0, U 0] [(0, 1, S x.names[k]), (1, 1, U v), (2, 1, U (v ||| 2 ^ k))] = some [S x.names[k], U v, U (v ||| 2 ^ k)] from rfl]
      simp only [nd0, Y1n, Y1o, Y1p, Y1q, Y1w, Y1x, Y1y, Y1z, Y20, Y21, Y28, Y2a, AV.cells?, Nat.reduceAdd, Nat.reduceMul]
      refine wNewS.F' (l := [S x.names[k], U v, U (v ||| 2 ^ k)]) rfl rfl ?_
      refine wApp.gr hg rfl (flat_len _) (new := [S x.names[k], U v, U (v ||| 2 ^ k)]) (m := 1) rfl (.refl _) rfl (by have := pairsUp_len x x.names k; simp [mostBytes]; omega) fun z' x' c' k' => ?_
      simp only [nd0, Y1n, Y1o, Y1p, Y1q, Y1w, Y1x, Y1y, Y1z, Y20, Y21, Y28, Y2a, AV.cells?, Nat.reduceAdd, Nat.reduceMul]
      refine gh1.mk ⟨z', c', ?_, rfl⟩
      simpa [pairsUp, hkey, hsome, Pr] using k'
end
end Go.Sc
namespace Go.Sc
open Go
set_option linter.unusedSimpArgs false
set_option linter.unusedVariables false
set_option linter.unnecessarySimpa false
structure ShowsBodies (E : Env) (P : Program) : Prop where
  p : ParseBodies E P
  e : EvalBodies E P
  c : CoverBodies E P
  shows1 : Body3 E P 226 F.keep_CoverShows_c1
  covered : Body0 E P 224 F.keep_covered
  pick : Body2 E P 48 F.keep_pick
theorem ltnodup {l : List Str} (h : l.Pairwise (· < ·)) : l.Nodup := h.imp fun {a b} h (e : a = b) => List.lt_irrefl b (e ▸ h)
theorem names_nodup (x : Ex) : x.names.Nodup := ltnodup (onceS_strict _)
theorem sv_hang {x : Ex} (hf : x.fine) {v w : Nat} (h : ∀ i < x.names.length, v.testBit i = w.testBit i) : sv x x.names v = sv x x.names w :=
  Ex.says_hang x hf (fun s hs => h _ (ixN_lt (onceS_mem.2 hs))) (fun s hs => h _ (ixN_lt (onceS_mem.2 (Ex.edge_name x s hs))))
def bitsUp (L : List Str) (v : Nat) : Nat → List Str
  | 0 => []
  | k + 1 => bitsUp L v k ++ (match L[k]? with
    | some s => if v.testBit k then [s] else []
    | none => [])
theorem bitsUp_mem {L : List Str} (hL : L.Nodup) {v : Nat} {s : Str} : ∀ {k : Nat}, s ∈ bitsUp L v k ↔ ∃ i < k, L[i]? = some s ∧ v.testBit i = true
  | 0 => by simp [bitsUp]
  | k + 1 => by
    simp only [bitsUp, List.mem_append, bitsUp_mem hL (k := k)]
    constructor
    · rintro (⟨i, h1, h2⟩ | h)
      · exact ⟨i, by omega, h2⟩
      · split at h
        · rename_i s' hs
          split at h
          · rename_i hb
            simp at h; subst h
            exact ⟨k, by omega, hs, hb⟩
          · simp at h
        · simp at h
    · rintro ⟨i, h1, h2, h3⟩
      rcases Nat.lt_or_ge i k with h | h
      · exact .inl ⟨i, h, h2, h3⟩
      · have : i = k := by omega
        subst this
        right; rw [h2]; simp [h3]
theorem bitsUp_len (L : List Str) (v : Nat) : ∀ k, (bitsUp L v k).length ≤ k
  | 0 => by simp [bitsUp]
  | k + 1 => by
    have := bitsUp_len L v k
    simp only [bitsUp, List.length_append]
    split
    · split <;> simp <;> omega
    · simp; omega
theorem says_bits {x : Ex} (hf : x.fine) (v : Nat) : x.says (fun s => decide (s ∈ bitsUp x.names v x.names.length)) (fun s => decide (s ∈ bitsUp x.names v x.names.length)) = sv x x.names v := by
  have key : ∀ s ∈ x.names, decide (s ∈ bitsUp x.names v x.names.length) = v.testBit (ixN x.names s) := fun s hs => by
    rw [Bool.eq_iff_iff, decide_eq_true_iff, bitsUp_mem (names_nodup x)]
    constructor
    · rintro ⟨i, h1, h2, h3⟩; rw [ixN_at (names_nodup x) h2]; exact h3
    · intro h; exact ⟨_, ixN_lt hs, ixN_get hs, h⟩
  exact Ex.says_hang x hf (fun s hs => key s (onceS_mem.2 hs)) (fun s hs => key s (onceS_mem.2 (Ex.edge_name x s hs)))
/-- what a pair shows -/
def PairOk (x : Ex) (p : Str × Nat × Nat) : Prop := ∃ j, x.names[j]? = some p.1 ∧ p.2.2 = p.2.1 ||| 2 ^ j ∧ p.2.1.testBit j = false ∧ sv x x.names p.2.1 ≠ sv x x.names p.2.2 ∧ p.2.1 < 2 ^ x.names.length
theorem pairsUp_ok {x : Ex} {p : Str × Nat × Nat} : ∀ {k : Nat}, p ∈ pairsUp x x.names k → PairOk x p
  | 0, h => by simp [pairsUp] at h
  | k + 1, h => by
    simp only [pairsUp, List.mem_append] at h
    rcases h with h | h
    · exact pairsUp_ok h
    · split at h
      · rename_i s v hs hp
        simp at h; subst h
        unfold pairAt at hp
        rw [List.find?_range_eq_some] at hp
        obtain ⟨h1, h2, _⟩ := hp
        simp at h1 h2
        exact ⟨k, hs, rfl, h1.1, h1.2, h2⟩
      · simp at h
theorem pairsUp_has {x : Ex} {k : Nat} {s : Str} {v : Nat} (hs : x.names[k]? = some s) (hp : pairAt x x.names k = some v) : ∀ {n : Nat}, k < n → (s, v, v ||| 2 ^ k) ∈ pairsUp x x.names n
  | 0, h => by omega
  | n + 1, h => by
    simp only [pairsUp, List.mem_append]
    rcases Nat.lt_or_ge k n with h1 | h1
    · exact .inl (pairsUp_has hs hp h1)
    · have : k = n := by omega
      subst this
      right; rw [hs, hp]; simp
theorem no_pair {x : Ex} (hf : x.fine) {k : Nat} (hk : k < x.names.length) (h : pairAt x x.names k = none) (V : Nat) (a b : Nat) (ha : ∀ i < 64, a.testBit i = (V.testBit i && decide (i ≠ k))) (hb : ∀ i < 64, b.testBit i = (V.testBit i || decide (i = k))) (hn : x.names.length ≤ 64) : sv x x.names a = sv x x.names b := by
  unfold pairAt at h
  rw [List.find?_range_eq_none] at h
  have hlt : a % 2 ^ x.names.length < 2 ^ x.names.length := Nat.mod_lt _ (Nat.two_pow_pos _)
  have := h (a % 2 ^ x.names.length) hlt
  have hz : (a % 2 ^ x.names.length).testBit k = false := by
    rw [Nat.testBit_mod_two_pow, decide_eq_true hk, Bool.true_and, ha k (by omega)]; simp
  rw [hz] at this
  simp at this
  have e1 : sv x x.names a = sv x x.names (a % 2 ^ x.names.length) := sv_hang hf fun i hi => by rw [Nat.testBit_mod_two_pow, decide_eq_true hi, Bool.true_and]
  have e2 : sv x x.names b = sv x x.names (a % 2 ^ x.names.length ||| 2 ^ k) := sv_hang hf fun i hi => by
    rw [Nat.testBit_or, Nat.testBit_mod_two_pow, decide_eq_true hi, Bool.true_and, Nat.testBit_two_pow, hb i (by omega), ha i (by omega)]
    by_cases e : i = k
    · subst e; simp
    · simp [e, Ne.symm e]
  rw [e1, e2, this]
section
variable {E : Env} {P : Program}
theorem shows1_spec (B : ShowsBodies E P) {x : Ex} (hw : x.wt ≤ 1000000) (hf : x.fine) (hL : x.names.length < 60) {v : Nat} (hv : v < 2 ^ 64) : FX E P 226 ([U v] ++ [.ptrF [Lm S x.names] 0, .ptrF [x.enc] 0]) (Bo (sv x x.names v)) := by
  refine FX.of' ⟨trivial, ⟨closed_S _, trivial⟩, ⟨Ex.enc_closed x, trivial⟩, trivial⟩ trivial fun n R hR => B.shows1 _ _ _ _ _ ?_
  unfold F.keep_CoverShows_c1
  refine wLoop.two (fun m t i H => ∃ k z c, k ≤ x.names.length ∧ i = Z (k : Nat) ∧ m = x.names.length - k ∧ Gr 1 z 0 t ((bitsUp x.names v k).map fun s => S s) (bitsUp x.names v k).length ∧ H = ⟨[z], c⟩) x.names.length
    (gh2.of (ghost_room [.dead] (by simp)) ⟨0, .dead, _, by omega, rfl, rfl, .nil, rfl⟩) ?_
  rintro m t i H ⟨k, z, c, hk, rfl, rfl, hg, rfl⟩
  simp only [nd0, Y1n, Y1o, Y1p, Y1q, Y1w, Y1x, Y1y, Y1z, Y20, Y21, Y28, Y2a, AV.cells?, Nat.reduceAdd, Nat.reduceMul]
  by_cases hlt : k < x.names.length
  · have hkey : x.names[k]? = some x.names[k] := List.getElem?_eq_getElem hlt
    have hdiv : v / 2 ^ k < 2 ^ 64 := Nat.lt_of_le_of_lt (Nat.div_le_self _ _) (by omega)
    simp only [nd0, Y1n, Y1o, Y1p, Y1q, Y1w, Y1x, Y1y, Y1z, Y20, Y21, Y28, Y2a, AV.cells?, Nat.reduceAdd, Nat.reduceMul, decide_eq_true (show (k : Int) < (x.names.length : Int) by omega)]
    refine wJoin.one (fun t H => ∃ z c, Gr 1 z 0 t ((bitsUp x.names v (k + 1)).map fun s => S s) (bitsUp x.names v (k + 1)).length ∧ H = ⟨[z], c⟩) ?_ ?_
    case refine_2 =>
      rintro t H ⟨z, c, hg, rfl⟩
      rw [binA_succ (by omega)]
      simp only [nd0, Y1n, Y1o, Y1p, Y1q, Y1w, Y1x, Y1y, Y1z, Y20, Y21, Y28, Y2a, AV.cells?, Nat.reduceAdd, Nat.reduceMul]
      exact back2.mk _ (by omega) ⟨k + 1, z, c, by omega, rfl, rfl, hg, rfl⟩
    rw [shrA (by omega)]
    simp only [nd0, Y1n, Y1o, Y1p, Y1q, Y1w, Y1x, Y1y, Y1z, Y20, Y21, Y28, Y2a, AV.cells?, Nat.reduceAdd, Nat.reduceMul]
    rw [binA_U, andA hdiv (by omega)]
    simp only [nd0, Y1n, Y1o, Y1p, Y1q, Y1w, Y1x, Y1y, Y1z, Y20, Y21, Y28, Y2a, AV.cells?, Nat.reduceAdd, Nat.reduceMul, show (((1 : Nat) : Int)) = 1 from rfl]
    cases hb : v.testBit k with
    | false =>
      simp only [nd0, Y1n, Y1o, Y1p, Y1q, Y1w, Y1x, Y1y, Y1z, Y20, Y21, Y28, Y2a, AV.cells?, Nat.reduceAdd, Nat.reduceMul, decide_eq_false (show ¬ ((((v / 2 ^ k) &&& 1 : Nat) : Int) = 1) from fun h => by rw [(bit_one hv).1 h] at hb; cases hb)]
      refine gh1.mk ⟨z, c, ?_, rfl⟩
      simpa [bitsUp, hkey, hb] using hg
    | true =>
      simp only [nd0, Y1n, Y1o, Y1p, Y1q, Y1w, Y1x, Y1y, Y1z, Y20, Y21, Y28, Y2a, AV.cells?, Nat.reduceAdd, Nat.reduceMul, decide_eq_true (show ((((v / 2 ^ k) &&& 1 : Nat) : Int) = 1) from (bit_one hv).2 hb)]
      rw [iaddr_Nn hlt]
      simp only [nd0, Y1n, Y1o, Y1p, Y1q, Y1w, Y1x, Y1y, Y1z, Y20, Y21, Y28, Y2a, AV.cells?, Nat.reduceAdd, Nat.reduceMul, show (x.names.map fun s => S s)[k]? = some (S x.names[k]) by rw [List.getElem?_map, hkey]; rfl]
      refine wNewS.F' (l := [S x.names[k]]) rfl rfl ?_
      have := bitsUp_len x.names v k
      refine wApp.one hg rfl (by simp) (.refl _) rfl (by simp [mostBytes]; omega) fun z' x' c' k' => ?_
      simp only [nd0, Y1n, Y1o, Y1p, Y1q, Y1w, Y1x, Y1y, Y1z, Y20, Y21, Y28, Y2a, AV.cells?, Nat.reduceAdd, Nat.reduceMul]
      refine gh1.mk ⟨z', c', ?_, rfl⟩
      simpa [bitsUp, hkey, hb] using k'
  · have : k = x.names.length := by omega
    subst this
    simp only [nd0, Y1n, Y1o, Y1p, Y1q, Y1w, Y1x, Y1y, Y1z, Y20, Y21, Y28, Y2a, AV.cells?, Nat.reduceAdd, Nat.reduceMul, decide_eq_false (show ¬ ((x.names.length : Int) < (x.names.length : Int)) by omega)]
    have hT : TXL (Lm S (bitsUp x.names v x.names.length)) (bitsUp x.names v x.names.length) := .inr rfl
    have := bitsUp_len x.names v x.names.length
    refine wCall.fxs (among_spec B.e hT) (.one hg.sub) fun n1 => ?_
    simp only [nd0, Y1n, Y1o, Y1p, Y1q, Y1w, Y1x, Y1y, Y1z, Y20, Y21, Y28, Y2a, AV.cells?, Nat.reduceAdd, Nat.reduceMul, and_self, true_and]
    refine wCall.fxs (among_spec B.e hT) (.one hg.sub) fun n2 => ?_
    simp only [nd0, Y1n, Y1o, Y1p, Y1q, Y1w, Y1x, Y1y, Y1z, Y20, Y21, Y28, Y2a, AV.cells?, Nat.reduceAdd, Nat.reduceMul, and_self, true_and]
    have hA := among_asks B.e hT (by omega)
    refine wCall.fx (Eval_spec B.e hA hA (x.wt + 1) x (by omega) hw hf) fun n3 => ?_
    exact hR _ _ (by rw [says_bits hf])
def covEx : Ex := .and [.bit [97], .bit [98]]
theorem covEx_fine : covEx.fine := ⟨by simp, by show nameOk [97] = true; decide, by show nameOk [98] = true; decide, trivial⟩
theorem covEx_parse : parseA [97, 32, 38, 32, 98] = .tup [covEx.enc, nilE] := by
  have h := parse_text covEx_fine (by decide)
  rw [show covEx.wr 0 = [97, 32, 38, 32, 98] from rfl] at h
  unfold parseA
  rw [if_neg (by decide), h]
theorem covEx_names : covEx.names = [[97], [98]] := by
  unfold Ex.names
  rw [← insAll_once]; decide
theorem covEx_edges : covEx.edges = [] := by
  unfold Ex.edges
  rw [← insAll_once]; decide
theorem covEx_pairs : pairsA covEx = .tup [.slN [S [97], U 2, U 3, S [98], U 1, U 3] 2, nilE] := by
  unfold pairsA pairsOf
  rw [covEx_edges, covEx_names]
  have : pairsUp covEx [[97], [98]] 2 = [([97], 2, 3), ([98], 1, 3)] := by decide
  rw [show ([[97], [98]] : List Str).length = 2 from rfl, this]
  rfl
theorem covered_spec (B : ShowsBodies E P) : FX E P 224 [] (Bo true) := by
  refine FX.of' trivial trivial fun n R hR => B.covered _ _ ?_
  unfold F.keep_covered
  have hp := Parse_spec B.p [97, 32, 38, 32, 98]
  rw [covEx_parse] at hp
  refine wCall.fx hp fun n => ?_
  have hne : eqA .iface covEx.enc nilE = some false := rfl
  simp only [nd0, Y1n, Y1o, Y1p, Y1q, Y1w, Y1x, Y1y, Y1z, Y20, Y21, Y28, Y2a, AV.cells?, Nat.reduceAdd, Nat.reduceMul, hne]
  have hq := Pairs_spec B.c covEx (by decide) covEx_fine
  rw [covEx_pairs] at hq
  refine wCall.fx hq fun n => ?_
  simp only [nd0, Y1n, Y1o, Y1p, Y1q, Y1w, Y1x, Y1y, Y1z, Y20, Y21, Y28, Y2a, AV.cells?, Nat.reduceAdd, Nat.reduceMul]
  simp only [nd0, Y1n, Y1o, Y1p, Y1q, Y1w, Y1x, Y1y, Y1z, Y20, Y21, Y28, Y2a, AV.cells?, Nat.reduceAdd, Nat.reduceMul, show decide ((((2 : Nat) : Int)) = 2) = true from rfl, show ∀ k : IntKind, iaddr 3 (.slN [S [97], U 2, U 3, S [98], U 1, U 3] 2) (.val (.int k 0)) = some (.ptrF [S [97], U 2, U 3, S [98], U 1, U 3] 0) from fun _ => rfl, show ∀ k : IntKind, iaddr 3 (.slN [S [97], U 2, U 3, S [98], U 1, U 3] 2) (.val (.int k 1)) = some (.ptrF [S [97], U 2, U 3, S [98], U 1, U 3] 3) from fun _ => rfl,
    show subL [S [97], U 2, U 3, S [98], U 1, U 3] 0 3 = some [S [97], U 2, U 3] from rfl, show subL [S [97], U 2, U 3, S [98], U 1, U 3] 3 3 = some [S [98], U 1, U 3] from rfl]
  rw [show fillA [AV.val (.string ⟨#[]⟩), .val (.int .u64 0), .val (.int .u64 0)] [(0, 1, .val (.string ⟨#[97]⟩)), (1, 1, .val (.int .u64 2)), (2, 1, .val (.int .u64 3))] = some [S [97], U 2, U 3] from rfl]
  simp only [nd0, Y1n, Y1o, Y1p, Y1q, Y1w, Y1x, Y1y, Y1z, Y20, Y21, Y28, Y2a, AV.cells?, Nat.reduceAdd, Nat.reduceMul]
  rw [show eqSA [(0, .string), (1, .int .u64), (2, .int .u64)] false (.agg [S [97], U 2, U 3]) (.agg [S [97], U 2, U 3]) = some (Bo true) by simp only [eqSA, eqS, keyIs, keyEq, List.getElem?_cons_zero, List.getElem?_cons_succ, (MapKept.bytes_beq _ _).2 rfl]; rfl]
  simp only [nd0, Y1n, Y1o, Y1p, Y1q, Y1w, Y1x, Y1y, Y1z, Y20, Y21, Y28, Y2a, AV.cells?, Nat.reduceAdd, Nat.reduceMul, show ∀ k : IntKind, iaddr 3 (.slN [S [97], U 2, U 3, S [98], U 1, U 3] 2) (.val (.int k 1)) = some (.ptrF [S [97], U 2, U 3, S [98], U 1, U 3] 3) from fun _ => rfl, show subL [S [97], U 2, U 3, S [98], U 1, U 3] 3 3 = some [S [98], U 1, U 3] from rfl]
  rw [show fillA [AV.val (.string ⟨#[]⟩), .val (.int .u64 0), .val (.int .u64 0)] [(0, 1, .val (.string ⟨#[98]⟩)), (1, 1, .val (.int .u64 1)), (2, 1, .val (.int .u64 3))] = some [S [98], U 1, U 3] from rfl]
  simp only [nd0, Y1n, Y1o, Y1p, Y1q, Y1w, Y1x, Y1y, Y1z, Y20, Y21, Y28, Y2a, AV.cells?, Nat.reduceAdd, Nat.reduceMul]
  rw [show eqSA [(0, .string), (1, .int .u64), (2, .int .u64)] false (.agg [S [98], U 1, U 3]) (.agg [S [98], U 1, U 3]) = some (Bo true) by simp only [eqSA, eqS, keyIs, keyEq, List.getElem?_cons_zero, List.getElem?_cons_succ, (MapKept.bytes_beq _ _).2 rfl]; rfl]
  simp only [nd0, Y1n, Y1o, Y1p, Y1q, Y1w, Y1x, Y1y, Y1z, Y20, Y21, Y28, Y2a, AV.cells?, Nat.reduceAdd, Nat.reduceMul]
  exact hR _ _ rfl
theorem pick_specB (hB : Body2 E P 48 F.keep_pick) (a : Int) (n : Nat) (h0 : 0 < n) (h1 : n < 4611686018427387904) : FX E P 48 [Z a, Z n] (Z (atN a n)) := by
  refine FX.of' (by simp [AV.closedL, AV.closed]) (by simp [AV.closed]) fun m R hR => hB _ _ _ _ ?_
  unfold F.keep_pick
  simp only [nd0, Y1n, Y1o, Y1p, Y1q, Y1w, Y1x, Y1y, Y1z, Y20, Y21, Y28, Y2a, AV.cells?, Nat.reduceAdd, Nat.reduceMul, wrap_u64]
  have e : ((n : Int) % 18446744073709551616) = n := Int.emod_eq_of_lt (by omega) (by omega)
  have hlt := atN_lt (a := a) h0
  have h2 := Int.emod_nonneg a (show (18446744073709551616 : Int) ≠ 0 by decide)
  have hrem : binA .rem (.val (.int .u64 (a % 18446744073709551616))) (.val (.int .u64 ((n : Int) % 18446744073709551616))) = some (.val (.int .u64 (atN a n))) := by
    rw [e]
    simp only [binA, intBin, if_true, show ¬ ((n : Int) = 0) by omega, if_false, Option.map_some]
    rw [Int.tmod_eq_emod_of_nonneg h2]
    unfold atN
    rw [Int.toNat_of_nonneg (Int.emod_nonneg _ (by omega))]
  rw [hrem]
  simp only [nd0, Y1n, Y1o, Y1p, Y1q, Y1w, Y1x, Y1y, Y1z, Y20, Y21, Y28, Y2a, AV.cells?, Nat.reduceAdd, Nat.reduceMul]
  rw [wrap_i64 (by omega)]
  exact hR _ _ rfl

theorem iaddrPr {l : List (Str × Nat × Nat)} {i : Nat} {k : IntKind} (h : i < l.length) : iaddr 3 (PrL l) (.val (.int k i)) = some (.ptrF (l.flatMap Pr) (i * 3)) := by
  unfold PrL; rw [iaddr_N (by omega)]; simp
theorem subPr : ∀ {l : List (Str × Nat × Nat)} {i : Nat} {p : Str × Nat × Nat}, l[i]? = some p → subL (l.flatMap Pr) (i * 3) 3 = some (Pr p)
  | [], i, p, h => by simp at h
  | a :: l, 0, p, h => by
    simp at h; subst h
    simp [subL, Pr]
  | a :: l, i + 1, p, h => by
    have := subPr (l := l) (i := i) (p := p) (by simpa using h)
    unfold subL at this ⊢
    have hl := flat_len l
    have hi : i < l.length := (List.getElem?_eq_some_iff.1 (show l[i]? = some p by simpa using h)).1
    rw [if_pos (by omega)] at this
    rw [if_pos (by simp only [List.flatMap_cons, List.length_append, hl, Pr, List.length_cons, List.length_nil]; omega)]
    rw [List.flatMap_cons, show (i + 1) * 3 = (Pr a).length + i * 3 by simp only [Pr, List.length_cons, List.length_nil]; omega, List.drop_append]
    rw [List.drop_of_length_le (by omega), List.nil_append, Nat.add_sub_cancel_left]
    exact this
theorem lenPr {l : List (Str × Nat × Nat)} : lenA (PrL l) = some (Z l.length) := rfl
set_option maxHeartbeats 4000000 in
theorem CoverShows_body (B : ShowsBodies E P) (s : Str) (V : Nat) (hV : V < 2 ^ 64) (wh : Int) (n : Nat) : F.keep_CoverShows E P (S s) (U V) (Z wh) ⟨[], n⟩ (fun r _ => r = Bo true) := by
  unfold F.keep_CoverShows
  simp only [nd0, Y1n, Y1o, Y1p, Y1q, Y1w, Y1x, Y1y, Y1z, Y20, Y21, Y28, Y2a, AV.cells?, Nat.reduceAdd, Nat.reduceMul]
  by_cases h1 : 300 < s.length
  · simp only [nd0, Y1n, Y1o, Y1p, Y1q, Y1w, Y1x, Y1y, Y1z, Y20, Y21, Y28, Y2a, AV.cells?, Nat.reduceAdd, Nat.reduceMul, decide_eq_true (show (300 : Int) < (s.length : Int) by omega)]
  simp only [nd0, Y1n, Y1o, Y1p, Y1q, Y1w, Y1x, Y1y, Y1z, Y20, Y21, Y28, Y2a, AV.cells?, Nat.reduceAdd, Nat.reduceMul, decide_eq_false (show ¬ (300 : Int) < (s.length : Int) by omega)]
  refine wCall.fx (Parse_spec B.p s) fun n => ?_
  rcases parseA_ok (s := s) (by omega) with ⟨e, p, hA⟩ | ⟨x, j, hx, hA⟩
  · rw [hA]
    simp only [nd0, Y1n, Y1o, Y1p, Y1q, Y1w, Y1x, Y1y, Y1z, Y20, Y21, Y28, Y2a, AV.cells?, Nat.reduceAdd, Nat.reduceMul]
    refine wNew.L (l := [nilE]) rfl ?_
    simp only [nd0, Y1n, Y1o, Y1p, Y1q, Y1w, Y1x, Y1y, Y1z, Y20, Y21, Y28, Y2a, AV.cells?, Nat.reduceAdd, Nat.reduceMul]
    rw [store1_L rfl]
    simp only [nd0, Y1n, Y1o, Y1p, Y1q, Y1w, Y1x, Y1y, Y1z, Y20, Y21, Y28, Y2a, AV.cells?, Nat.reduceAdd, Nat.reduceMul, Nat.reduceLT]
    refine wCall.fx (covered_spec B) fun n => ?_
    simp only [nd0, Y1n, Y1o, Y1p, Y1q, Y1w, Y1x, Y1y, Y1z, Y20, Y21, Y28, Y2a, AV.cells?, Nat.reduceAdd, Nat.reduceMul, eqA_At]
    refine wCall.fx (covered_spec B) fun n => ?_
    rfl
  rw [hA]
  obtain ⟨hw, hf⟩ := parseR_good hx
  simp only [nd0, Y1n, Y1o, Y1p, Y1q, Y1w, Y1x, Y1y, Y1z, Y20, Y21, Y28, Y2a, AV.cells?, Nat.reduceAdd, Nat.reduceMul]
  refine wNew.L (l := [nilE]) rfl ?_
  simp only [nd0, Y1n, Y1o, Y1p, Y1q, Y1w, Y1x, Y1y, Y1z, Y20, Y21, Y28, Y2a, AV.cells?, Nat.reduceAdd, Nat.reduceMul]
  rw [store1_L (Ex.enc_scalar x)]
  simp only [nd0, Y1n, Y1o, Y1p, Y1q, Y1w, Y1x, Y1y, Y1z, Y20, Y21, Y28, Y2a, AV.cells?, Nat.reduceAdd, Nat.reduceMul, Nat.reduceLT]
  refine wCall.fx (covered_spec B) fun n1 => ?_
  simp only [nd0, Y1n, Y1o, Y1p, Y1q, Y1w, Y1x, Y1y, Y1z, Y20, Y21, Y28, Y2a, AV.cells?, Nat.reduceAdd, Nat.reduceMul]
  refine wCall.fx (Pairs_spec B.c x (by omega) hf) fun n2 => ?_
  have hpr : ∃ l er, pairsA x = .tup [l, er] ∧ ((er = nilE ∧ l = PrL (pairsOf x x.names) ∧ x.names.length ≤ 8) ∨ (l = nilS ∧ ∃ z, er = .ifc 1 (Z z))) := by
    unfold pairsA
    split
    · exact ⟨_, _, rfl, .inr ⟨rfl, 1, rfl⟩⟩
    split
    · exact ⟨_, _, rfl, .inr ⟨rfl, 4, rfl⟩⟩
    · exact ⟨_, _, rfl, .inl ⟨rfl, rfl, by omega⟩⟩
  obtain ⟨l, er, hpa, hcase⟩ := hpr
  rw [hpa]
  simp only [nd0, Y1n, Y1o, Y1p, Y1q, Y1w, Y1x, Y1y, Y1z, Y20, Y21, Y28, Y2a, AV.cells?, Nat.reduceAdd, Nat.reduceMul]
  refine wCall.fx (Names_spec B.c.s x (by omega) hf) fun n3 => ?_
  refine wNew.L (l := [nilS]) rfl ?_
  simp only [nd0, Y1n, Y1o, Y1p, Y1q, Y1w, Y1x, Y1y, Y1z, Y20, Y21, Y28, Y2a, AV.cells?, Nat.reduceAdd, Nat.reduceMul]
  rw [store1_L rfl]
  simp only [nd0, Y1n, Y1o, Y1p, Y1q, Y1w, Y1x, Y1y, Y1z, Y20, Y21, Y28, Y2a, AV.cells?, Nat.reduceAdd, Nat.reduceMul, Nat.reduceLT]
  rcases hcase with ⟨rfl, rfl, h8⟩ | ⟨rfl, z, rfl⟩
  case inr => simp only [nd0, Y1n, Y1o, Y1p, Y1q, Y1w, Y1x, Y1y, Y1z, Y20, Y21, Y28, Y2a, AV.cells?, Nat.reduceAdd, Nat.reduceMul, show decide ((0 : Int) = 0) = true from rfl]
  simp only [nd0, Y1n, Y1o, Y1p, Y1q, Y1w, Y1x, Y1y, Y1z, Y20, Y21, Y28, Y2a, AV.cells?, Nat.reduceAdd, Nat.reduceMul, lenPr]
  by_cases h0 : x.names.length = 0
  · simp only [nd0, Y1n, Y1o, Y1p, Y1q, Y1w, Y1x, Y1y, Y1z, Y20, Y21, Y28, Y2a, AV.cells?, Nat.reduceAdd, Nat.reduceMul, decide_eq_true (show (x.names.length : Int) = 0 by omega)]
    rw [decide_eq_true]
    have := pairsUp_len x x.names x.names.length
    unfold pairsOf
    omega
  simp only [nd0, Y1n, Y1o, Y1p, Y1q, Y1w, Y1x, Y1y, Y1z, Y20, Y21, Y28, Y2a, AV.cells?, Nat.reduceAdd, Nat.reduceMul, decide_eq_false (show ¬ (x.names.length : Int) = 0 by omega)]
  refine wCall.fx (pick_specB B.pick wh x.names.length (by omega) (by omega)) fun n4 => ?_
  generalize hK : atN wh x.names.length = K
  have hKlt : K < x.names.length := by rw [← hK]; exact atN_lt (by omega)
  have hlen := pairsUp_len x x.names x.names.length
  have hfz : ∀ (v : Nat) (bs : List Blk) (c : Nat), FkL ⟨.cells n 1 [x.enc] :: .cells n3 1 [Lm S x.names] :: bs, c⟩ S0 ([] ++ [U v] ++ [.ptrL 1 0 n3, .ptrL 0 0 n]) ([U v] ++ [.ptrF [Lm S x.names] 0, .ptrF [x.enc] 0]) := fun v bs c =>
    .cons (.same _) (.cons (Fk.ptrF 1 rfl rfl (FkL.same _)) (.cons (Fk.ptrF 1 rfl rfl (FkL.same _)) .nil))
  refine wLoop.two (fun m t i H => ∃ pre rest c, pairsOf x x.names = pre ++ rest ∧ i = Z pre.length ∧ m = rest.length ∧ (t = Bo (pre.any fun p => decide (ixN x.names p.1 = K))) ∧ H = ⟨[.cells n 1 [x.enc], .cells n3 1 [Lm S x.names]], c⟩) (pairsOf x x.names).length
    (gh2.mk ⟨[], pairsOf x x.names, _, rfl, rfl, rfl, rfl, rfl⟩) ?_
  rintro m t i H ⟨pre, rest, c, hpre, rfl, rfl, rfl, rfl⟩
  have hpl : (pairsOf x x.names).length ≤ 8 := by unfold pairsOf; omega
  cases rest with
  | nil =>
    rw [List.append_nil] at hpre
    simp only [nd0, Y1n, Y1o, Y1p, Y1q, Y1w, Y1x, Y1y, Y1z, Y20, Y21, Y28, Y2a, AV.cells?, Nat.reduceAdd, Nat.reduceMul, hpre, Int.lt_irrefl]
    cases hs : pre.any (fun p => decide (ixN x.names p.1 = K)) with
    | true => simp only [nd0, Y1n, Y1o, Y1p, Y1q, Y1w, Y1x, Y1y, Y1z, Y20, Y21, Y28, Y2a, AV.cells?, Nat.reduceAdd, Nat.reduceMul]
    | false =>
      simp only [nd0, Y1n, Y1o, Y1p, Y1q, Y1w, Y1x, Y1y, Y1z, Y20, Y21, Y28, Y2a, AV.cells?, Nat.reduceAdd, Nat.reduceMul]
      have hk2 : 2 ^ K < 2 ^ 64 := Nat.pow_lt_pow_right (by omega) (by omega)
      rw [shlA (by omega)]
      simp only [nd0, Y1n, Y1o, Y1p, Y1q, Y1w, Y1x, Y1y, Y1z, Y20, Y21, Y28, Y2a, AV.cells?, Nat.reduceAdd, Nat.reduceMul]
      rw [andNotA hV hk2]
      simp only [nd0, Y1n, Y1o, Y1p, Y1q, Y1w, Y1x, Y1y, Y1z, Y20, Y21, Y28, Y2a, AV.cells?, Nat.reduceAdd, Nat.reduceMul]
      rw [orA hV hk2]
      simp only [nd0, Y1n, Y1o, Y1p, Y1q, Y1w, Y1x, Y1y, Y1z, Y20, Y21, Y28, Y2a, AV.cells?, Nat.reduceAdd, Nat.reduceMul]
      have ha : V &&& (2 ^ 64 - 1 - 2 ^ K) < 2 ^ 64 := Nat.lt_of_le_of_lt Nat.and_le_left hV
      have hb : V ||| 2 ^ K < 2 ^ 64 := Nat.or_lt_two_pow hV hk2
      refine wCallV.bo (fs := []) (cs := [.ptrL 1 0 n3, .ptrL 0 0 n]) (shows1_spec B (by omega) hf (by omega) ha) trivial (hfz _ _ _) fun n5 => ?_
      simp only [nd0, Y1n, Y1o, Y1p, Y1q, Y1w, Y1x, Y1y, Y1z, Y20, Y21, Y28, Y2a, AV.cells?, Nat.reduceAdd, Nat.reduceMul]
      refine wCallV.bo (fs := []) (cs := [.ptrL 1 0 n3, .ptrL 0 0 n]) (shows1_spec B (by omega) hf (by omega) hb) trivial (hfz _ _ _) fun n6 => ?_
      simp only [nd0, Y1n, Y1o, Y1p, Y1q, Y1w, Y1x, Y1y, Y1z, Y20, Y21, Y28, Y2a, AV.cells?, Nat.reduceAdd, Nat.reduceMul]
      have hno : pairAt x x.names K = none := by
        cases hp : pairAt x x.names K with
        | none => rfl
        | some v =>
          have hg := List.getElem?_eq_getElem hKlt
          have hm := pairsUp_has hg hp hKlt
          rw [show pairsUp x x.names x.names.length = pre from hpre] at hm
          have := List.any_eq_false.1 hs _ hm
          simp [ixN_at (names_nodup x) hg] at this
      have hsame := no_pair hf hKlt hno V (V &&& (2 ^ 64 - 1 - 2 ^ K)) (V ||| 2 ^ K) (fun i hi => by
        rw [Nat.testBit_and, show 2 ^ 64 - 1 - 2 ^ K = 2 ^ 64 - (2 ^ K + 1) by omega, Nat.testBit_two_pow_sub_succ hk2, Nat.testBit_two_pow, decide_eq_true hi, Bool.true_and]
        by_cases e : i = K
        · subst e; simp
        · simp [e, Ne.symm e]) (fun i hi => by
        rw [Nat.testBit_or, Nat.testBit_two_pow]
        by_cases e : i = K
        · subst e; simp
        · simp [e, Ne.symm e]) (by omega)
      rw [hsame]
      simp only [nd0, Y1n, Y1o, Y1p, Y1q, Y1w, Y1x, Y1y, Y1z, Y20, Y21, Y28, Y2a, AV.cells?, Nat.reduceAdd, Nat.reduceMul, beq_self_eq_true]
  | cons p rest =>
    have hi : pre.length < (pairsOf x x.names).length := by rw [hpre]; simp
    have hget : (pairsOf x x.names)[pre.length]? = some p := by rw [hpre]; simp
    obtain ⟨jj, hj1, hj2, hj3, hj4, hj5⟩ := pairsUp_ok (x := x) (p := p) (k := x.names.length) (List.mem_of_getElem? hget)
    obtain ⟨ps, v, w⟩ := p
    simp only at hj1 hj2 hj3 hj4 hj5
    subst hj2
    have hjlt : jj < x.names.length := (List.getElem?_eq_some_iff.1 hj1).1
    have hp8 : 2 ^ x.names.length ≤ 2 ^ 8 := Nat.pow_le_pow_right (by omega) (by omega)
    have hjp : 2 ^ jj ≤ 2 ^ 8 := Nat.pow_le_pow_right (by omega) (by omega)
    simp only [nd0, Y1n, Y1o, Y1p, Y1q, Y1w, Y1x, Y1y, Y1z, Y20, Y21, Y28, Y2a, AV.cells?, Nat.reduceAdd, Nat.reduceMul, decide_eq_true (show (pre.length : Int) < ((pairsOf x x.names).length : Int) by omega)]
    rw [iaddrPr hi]
    simp only [nd0, Y1n, Y1o, Y1p, Y1q, Y1w, Y1x, Y1y, Y1z, Y20, Y21, Y28, Y2a, AV.cells?, Nat.reduceAdd, Nat.reduceMul, subPr hget]
    refine wNew.L (l := [S [], U 0, U 0]) rfl ?_
    simp only [nd0, Y1n, Y1o, Y1p, Y1q, Y1w, Y1x, Y1y, Y1z, Y20, Y21, Y28, Y2a, AV.cells?, Nat.reduceAdd, Nat.reduceMul]
    rw [storeN_L (n := 3) (xs := Pr (ps, v, v ||| 2 ^ jj)) rfl rfl]
    simp only [nd0, Y1n, Y1o, Y1p, Y1q, Y1w, Y1x, Y1y, Y1z, Y20, Y21, Y28, Y2a, AV.cells?, Nat.reduceAdd, Nat.reduceMul, show putL [S [], U 0, U 0] 0 (Pr (ps, v, v ||| 2 ^ jj)) = some [S ps, U v, U (v ||| 2 ^ jj)] from rfl]
    refine wLoop.one (fun m i H => ∃ a : Nat, i = Z a ∧ a ≤ jj ∧ m = jj - a ∧ H = ⟨[.cells n 1 [x.enc], .cells n3 1 [Lm S x.names], .cells c 3 [S ps, U v, U (v ||| 2 ^ jj)]], c + 1⟩) jj (gh1.mk ⟨0, rfl, by omega, rfl, rfl⟩) ?_
    rintro m i H ⟨a, rfl, ha, rfl, rfl⟩
    have halt : a < x.names.length := by omega
    have hga : (x.names.map fun s => S s)[a]? = some (S x.names[a]) := by rw [List.getElem?_map, List.getElem?_eq_getElem halt]; rfl
    simp only [nd0, Y1n, Y1o, Y1p, Y1q, Y1w, Y1x, Y1y, Y1z, Y20, Y21, Y28, Y2a, AV.cells?, Nat.reduceAdd, Nat.reduceMul, decide_eq_true (show (a : Int) < (x.names.length : Int) by omega)]
    rw [iaddr_Nn halt]
    simp only [nd0, Y1n, Y1o, Y1p, Y1q, Y1w, Y1x, Y1y, Y1z, Y20, Y21, Y28, Y2a, AV.cells?, Nat.reduceAdd, Nat.reduceMul, hga]
    by_cases haj : a = jj
    · subst haj
      have hna : x.names[a] = ps := by rw [List.getElem?_eq_getElem halt] at hj1; exact Option.some.inj hj1
      simp only [nd0, Y1n, Y1o, Y1p, Y1q, Y1w, Y1x, Y1y, Y1z, Y20, Y21, Y28, Y2a, AV.cells?, Nat.reduceAdd, Nat.reduceMul, decide_eq_true hna, decide_eq_false (show ¬ ((a : Int) = (x.names.length : Int)) by omega)]
      rw [shlA (by omega)]
      simp only [nd0, Y1n, Y1o, Y1p, Y1q, Y1w, Y1x, Y1y, Y1z, Y20, Y21, Y28, Y2a, AV.cells?, Nat.reduceAdd, Nat.reduceMul]
      rw [orA (by omega) (by omega)]
      simp only [nd0, Y1n, Y1o, Y1p, Y1q, Y1w, Y1x, Y1y, Y1z, Y20, Y21, Y28, Y2a, AV.cells?, Nat.reduceAdd, Nat.reduceMul, decide_eq_true (show (((v ||| 2 ^ a : Nat) : Int)) = ((v ||| 2 ^ a : Nat) : Int) from rfl)]
      rw [shrA (by omega)]
      simp only [nd0, Y1n, Y1o, Y1p, Y1q, Y1w, Y1x, Y1y, Y1z, Y20, Y21, Y28, Y2a, AV.cells?, Nat.reduceAdd, Nat.reduceMul]
      have hdiv : v / 2 ^ a < 2 ^ 64 := Nat.lt_of_le_of_lt (Nat.div_le_self _ _) (by omega)
      rw [binA_U, andA hdiv (by omega)]
      simp only [nd0, Y1n, Y1o, Y1p, Y1q, Y1w, Y1x, Y1y, Y1z, Y20, Y21, Y28, Y2a, AV.cells?, Nat.reduceAdd, Nat.reduceMul, show (((1 : Nat) : Int)) = 1 from rfl, decide_eq_false (show ¬ ((((v / 2 ^ a) &&& 1 : Nat) : Int) = 1) from fun h => by rw [(bit_one (by omega)).1 h] at hj3; cases hj3)]
      have hor : v ||| 2 ^ a < 2 ^ 64 := Nat.or_lt_two_pow (by omega) (by omega)
      refine wCallV.bo (fs := []) (cs := [.ptrL 1 0 n3, .ptrL 0 0 n]) (shows1_spec B (by omega) hf (by omega) hor) trivial (hfz _ _ _) fun n5 => ?_
      simp only [nd0, Y1n, Y1o, Y1p, Y1q, Y1w, Y1x, Y1y, Y1z, Y20, Y21, Y28, Y2a, AV.cells?, Nat.reduceAdd, Nat.reduceMul, and_self, true_and]
      refine wCallV.bo (fs := []) (cs := [.ptrL 1 0 n3, .ptrL 0 0 n]) (shows1_spec B (by omega) hf (by omega) (show v < 2 ^ 64 by omega)) trivial (hfz _ _ _) fun n6 => ?_
      simp only [nd0, Y1n, Y1o, Y1p, Y1q, Y1w, Y1x, Y1y, Y1z, Y20, Y21, Y28, Y2a, AV.cells?, Nat.reduceAdd, Nat.reduceMul, show (sv x x.names (v ||| 2 ^ a) == sv x x.names v) = false from by rw [beq_eq_false_iff_ne]; exact fun h => hj4 h.symm]
      have hix := ixN_at (names_nodup x) hj1
      have fin : ∀ (b : Bool), b = ((pre ++ [(ps, v, v ||| 2 ^ a)]).any fun p => decide (ixN x.names p.1 = K)) → back2 (fun m t i H => ∃ pre rest c, pairsOf x x.names = pre ++ rest ∧ i = Z pre.length ∧ m = rest.length ∧ (t = Bo (pre.any fun p => decide (ixN x.names p.1 = K))) ∧ H = ⟨[.cells n 1 [x.enc], .cells n3 1 [Lm S x.names]], c⟩) (rest.length + 1) (Bo b) (Z (pre.length + 1 : Nat)) ⟨[.cells n 1 [x.enc], .cells n3 1 [Lm S x.names], .cells c 3 [S ps, U v, U (v ||| 2 ^ a)]], n6⟩ := fun b hb =>
        back2.of rest.length (by omega) (ghost_drop (bs := [.cells n 1 [x.enc], .cells n3 1 [Lm S x.names]]) _) ⟨pre ++ [(ps, v, v ||| 2 ^ a)], rest, n6, by rw [hpre]; simp, by simp, rfl, by rw [hb], rfl⟩
      rw [binA_succ (by omega)]
      cases hs : pre.any (fun p => decide (ixN x.names p.1 = K)) with
      | true =>
        simp only [nd0, Y1n, Y1o, Y1p, Y1q, Y1w, Y1x, Y1y, Y1z, Y20, Y21, Y28, Y2a, AV.cells?, Nat.reduceAdd, Nat.reduceMul]
        exact fin _ (by simp [List.any_append, hs])
      | false =>
        simp only [nd0, Y1n, Y1o, Y1p, Y1q, Y1w, Y1x, Y1y, Y1z, Y20, Y21, Y28, Y2a, AV.cells?, Nat.reduceAdd, Nat.reduceMul]
        exact fin _ (by simp [List.any_append, hs, hix]; omega)
    · have hna : ¬ x.names[a] = ps := fun h => haj ((ixN_at (names_nodup x) (show x.names[a]? = some ps by rw [List.getElem?_eq_getElem halt, h])).symm.trans (ixN_at (names_nodup x) hj1))
      simp only [nd0, Y1n, Y1o, Y1p, Y1q, Y1w, Y1x, Y1y, Y1z, Y20, Y21, Y28, Y2a, AV.cells?, Nat.reduceAdd, Nat.reduceMul, decide_eq_false hna]
      rw [binA_succ (by omega)]
      simp only [nd0, Y1n, Y1o, Y1p, Y1q, Y1w, Y1x, Y1y, Y1z, Y20, Y21, Y28, Y2a, AV.cells?, Nat.reduceAdd, Nat.reduceMul]
      exact back1.mk _ (by omega) ⟨a + 1, rfl, by omega, rfl, rfl⟩
end
end Go.Sc
namespace Go.Sc
open Go Go.RowKit Go.WideShapes
set_option linter.unusedVariables false
section
variable {H : Type} {enc : TypeId × Value → H} {P : Program} {W : World} {E : Env} {t : TypeId} {fuel : Nat} {cs : List Value} {x : DataW H × List MemPlace}
theorem trod_u64r (ht : P.underlying t = some (.int .u64)) (h : DataW.trod enc P W 0 (fun _ => true) true fuel t cs = some x) : ∃ z : Nat, cs = [.int .u64 z] ∧ z < 2 ^ 64 := by
  obtain ⟨n, h1, _, h2⟩ := DataW.trod_int ht h
  have h3 : 0 ≤ n ∧ n ≤ 18446744073709551615 := by simpa [Lit.wf, IntKind.min, IntKind.max, IntKind.signed, IntKind.bits] using h2
  exact ⟨n.toNat, by rw [Int.toNat_of_nonneg h3.1]; exact h1, by omega⟩
theorem Dec.u64 (ht : P.underlying t = some (.int .u64)) : Dec enc P W E t (fun z : Nat => [.val (.int .u64 (z : Int))]) (fun z => z < 2 ^ 64) where
  ok := fun fuel cs x hx _ => by
    obtain ⟨z, rfl, h⟩ := trod_u64r ht hx
    exact ⟨z, h, .one (by simp [VRel])⟩
theorem Dec.arg_u64 {α : Type} {g : α → AV} {Q : α → Prop} {r : Reach} {b0 : Nat} {v : Value} {x : DataW H} {ps : List MemPlace} (d : Dec enc P W E t (fun a => [g a]) Q) (ht : P.underlying t = some (.int .u64)) (hv : Value.okWide P W r b0 t v)
    (h : DataW.Trod enc P W 0 (fun _ => true) true t v x ps) (hs : Sized P t x) : ∃ a, Q a ∧ VRel E (Cx.start W) (g a) v := by
  obtain ⟨n, rfl⟩ := okWide_int ht hv
  obtain ⟨fuel, hf⟩ := h
  obtain ⟨a, h1, h2⟩ := d.ok _ _ _ hf hs
  obtain ⟨u, e, h3⟩ := h2.one'
  simp [Value.cells] at e
  exact ⟨a, h1, e ▸ h3⟩
end
end Go.Sc
namespace Go.Proofs.YtfhfojojchkmbaaDoor
open Go Go.Sc
set_option maxRecDepth 100000
variable [Inhabited Mx]
def tyL : List Nat := [1000000, 43, 66, 1000003, 9, 1000005, 1000006, 1000007, 62, 59, 57, 55, 52, 53, 51]
def tkL : List Nat := [2000000, 2000001, 2000002, 2000003, 2000004, 2000005, 2000006, 2000007, 2000008, 4, 2000010, 2000011, 2000012, 2000013, 2000014, 2000015, 2000016, 2000017, 2000018, 2000019, 2000020, 2000021, 2000022, 2000023, 2000024, 2000025, 2000026, 2000027, 2000028, 2000029, 2000030, 2000031, 2000032, 2000033, 2000034, 2000035, 2000036, 2000037, 2000038, 2000039, 2000040, 2000041, 2000042, 1, 2000044, 2000045, 2000046, 2000047, 2000048, 2000049, 2000050, 14, 12, 13, 2000054, 11, 2000056, 10, 2000058, 9, 2000060, 2000061, 8, 2000063, 2000064, 2000065, 2, 2000067, 2000068, 2000069, 2000070, 2000071, 2000072, 2000073, 2000074, 2000075, 2000076, 2000077, 2000078, 2000079, 2000080, 2000081, 2000082, 2000083, 2000084, 2000085, 2000086, 2000087, 2000088, 2000089, 2000090, 2000091, 2000092, 2000093, 2000094, 2000095, 2000096, 2000097, 2000098, 2000099, 2000100, 2000101, 2000102, 2000103, 2000104, 2000105, 2000106, 2000107, 2000108, 2000109, 2000110, 2000111, 2000112, 2000113, 2000114, 2000115, 2000116, 2000117, 2000118, 2000119, 2000120, 2000121, 2000122, 2000123, 2000124, 2000125, 2000126, 2000127, 2000128, 2000129, 2000130, 2000131, 2000132, 2000133, 2000134, 2000135, 2000136, 2000137]
def fnL : List Nat := [1000000, 52, 1000002, 1000003, 60, 61, 65, 64, 66, 68, 67, 70, 69, 18, 71, 72, 73, 74, 75, 76, 77, 51, 78, 59, 79, 63, 1000026, 1000027, 1000028, 1000029, 1000030, 1000031, 1000032, 1000033, 1000034, 1000035, 1000036, 1000037, 1000038, 1000039, 1000040, 1000041, 1000042, 1000043, 1000044, 1000045, 1000046, 1000047, 11, 1000049, 1000050, 1000051, 1000052, 1000053, 1000054, 1000055, 1000056, 1000057, 1000058, 1000059, 1000060, 1000061, 1000062, 1000063, 1000064, 1000065, 1000066, 1000067, 1000068, 1000069, 1000070, 1000071, 1000072, 1000073, 1000074, 1000075, 1000076, 1000077, 1000078, 1000079, 1000080, 1000081, 1000082, 1000083, 1000084, 1000085, 1000086, 1000087, 1000088, 1000089, 1000090, 1000091, 1000092, 1000093, 1000094, 1000095, 1000096, 1000097, 1000098, 1000099, 1000100, 1000101, 1000102, 1000103, 1000104, 1000105, 1000106, 1000107, 1000108, 1000109, 1000110, 1000111, 1000112, 1000113, 1000114, 1000115, 1000116, 1000117, 1000118, 1000119, 1000120, 1000121, 1000122, 1000123, 1000124, 1000125, 4, 1000127, 1000128, 1000129, 1000130, 1000131, 1000132, 12, 13, 14, 1000136, 1000137, 1000138, 27, 26, 1000141, 1000142, 35, 36, 39, 1000146, 103, 1000148, 102, 101, 100, 98, 99, 97, 1000155, 1000156, 10, 9, 1000159, 1000160, 29, 22, 21, 24, 23, 25, 33, 34, 1000169, 1000170, 1000171, 1000172, 1000173, 1000174, 1000175, 1000176, 1000177, 1000178, 1000179, 1000180, 7, 1000182, 1000183, 15, 1000185, 1000186, 1000187, 1000188, 20, 19, 1000191, 28, 30, 31, 32, 1000196, 38, 37, 1000199, 1000200, 40, 41, 42, 43, 44, 45, 46, 47, 48, 49, 50, 1000212, 53, 54, 55, 56, 57, 58, 80, 1000220, 62, 1000222, 1000223, 5, 6, 8, 3, 16, 17]
def fkL : List Nat := [2000000, 2000001, 2000002, 227, 126, 224, 225, 181, 226, 158, 157, 48, 133, 134, 135, 184, 228, 229, 13, 190, 189, 163, 162, 165, 164, 166, 140, 139, 192, 161, 193, 194, 195, 167, 168, 143, 144, 198, 197, 145, 201, 202, 203, 204, 205, 206, 207, 208, 209, 210, 211, 21, 1, 213, 214, 215, 216, 217, 218, 23, 4, 5, 221, 25, 7, 6, 8, 10, 9, 12, 11, 14, 15, 16, 17, 18, 19, 20, 22, 24, 219, 2000081, 2000082, 2000083, 2000084, 2000085, 2000086, 2000087, 2000088, 2000089, 2000090, 2000091, 2000092, 2000093, 2000094, 2000095, 2000096, 154, 152, 153, 151, 150, 149, 147, 2000104, 2000105, 2000106, 2000107, 2000108, 2000109]
def gnL : List Nat := [1000000, 1, 2, 1000003, 1000004, 1000005, 0]
def gkL : List Nat := [6, 1, 2]
def E : Env := { ty := fun k => tyL.getD k 3000000, tk := fun t => tkL.getD t 3000000, fn := fun k => fnL.getD k 3000000, fk := fun f => fkL.getD f 3000000, gn := fun k => gnL.getD k 3000000, gk := fun g => gkL.getD g 3000000, gl := fun g => if g = 6 then some [.val (.int .i64 (default : Mx).v)] else none }
theorem b_keep_CoverShows (a0 a1 a2 : AV) (H : AH) (R : Kt) : bodyW E Tryd.prog Tryd.f3 (.seq none .leaf (.seq none (.seq none .leaf (.two (.seq none .leaf .leaf) .leaf)) (.seq none .leaf (.seq none (.seq none .leaf (.two (.seq none .leaf .leaf) .leaf)) (.seq none .leaf (.seq none .leaf (.seq none (.seq none .leaf (.two (.seq none .leaf .leaf) .leaf)) (.seq none .leaf (.seq none .leaf (.seq none .leaf (.seq none (.seq none .leaf (.one (.loop [13, 14] (.seq none (.seq none .leaf (.two .leaf .leaf)) (.seq none (.one (.seq none .leaf (.seq none .leaf (.seq none (.one (.loop [16] (.seq none (.seq none .draw (.two .leaf .leaf)) (.one .leaf)))) (.seq none (.seq none .draw (.two (.seq none .leaf .leaf) .leaf)) .leaf))))) .leaf))))) (.seq none .draw .leaf)))))))))))) [a0, a1, a2] H R = F.keep_CoverShows E Tryd.prog a0 a1 a2 H R := by kernel_rfl
theorem b_expr_Parse (a0 : AV) (H : AH) (R : Kt) : bodyW E Tryd.prog Tryd.f4 (.seq none .leaf (.seq none (.seq none .leaf (.two (.seq none .leaf .leaf) .leaf)) (.seq none .leaf (.seq none .leaf (.seq none (.seq none .leaf (.two (.seq none .leaf .leaf) .leaf)) (.seq none (.seq none .leaf (.seq none .leaf (.two (.seq none .leaf .leaf) .leaf))) (.seq none .leaf .leaf))))))) [a0] H R = F.expr_Parse E Tryd.prog a0 H R := by kernel_rfl
theorem b_keep_covered (H : AH) (R : Kt) : bodyW E Tryd.prog Tryd.f5 (.seq none .leaf (.seq none .leaf (.seq none (.seq none .leaf (.two (.seq none .leaf .leaf) .leaf)) (.seq none .leaf (.seq none .leaf .leaf))))) [] H R = F.keep_covered E Tryd.prog H R := by kernel_rfl
theorem b_cover_Pairs (a0 : AV) (H : AH) (R : Kt) : bodyW E Tryd.prog Tryd.f6 (.seq none .leaf (.seq none (.seq none .leaf (.two (.seq none .leaf .leaf) .leaf)) (.seq none (.seq none .leaf (.two (.seq none .leaf .leaf) .leaf)) (.seq none .leaf (.seq none (.seq none .leaf (.two (.seq none .leaf .leaf) .leaf)) (.seq none .leaf (.seq none .leaf (.seq none (.seq none .leaf (.one (.loop [6, 27] (.seq none .leaf (.seq none (.two .leaf .leaf) (.seq (some [6]) (.one (.seq none .leaf (.seq none .leaf (.one (.loop [6, 35] (.seq none .leaf (.seq none (.two .leaf .leaf) (.seq none (.one (.seq none .leaf (.seq none .draw (.two (.seq none .leaf .leaf) .leaf)))) .leaf)))))))) .leaf)))))) (.seq none .leaf .leaf))))))))) [a0] H R = F.cover_Pairs E Tryd.prog a0 H R := by kernel_rfl
theorem b_expr_Names (a0 : AV) (H : AH) (R : Kt) : bodyW E Tryd.prog Tryd.f7 (.seq none .leaf (.seq none .leaf .leaf)) [a0] H R = F.expr_Names E Tryd.prog a0 H R := by kernel_rfl
theorem b_keep_CoverShows_c1 (a0 a1 a2 : AV) (H : AH) (R : Kt) : bodyW E Tryd.prog Tryd.f8 (.seq none .leaf (.seq none .leaf (.seq none (.seq none .leaf (.one (.loop [5, 6] (.seq none (.seq none .leaf (.two .leaf .leaf)) (.seq (some [5]) (.one (.seq none .leaf (.two .leaf .leaf))) .leaf))))) (.seq none .draw .leaf)))) [a0, a1, a2] H R = F.keep_CoverShows_c1 E Tryd.prog a0 a1 a2 H R := by kernel_rfl
theorem b_expr_Eval (a0 a1 a2 : AV) (H : AH) (R : Kt) : bodyW E Tryd.prog Tryd.f9 (.seq none .leaf (.seq none (.seq none .leaf (.one (.seq none .leaf (.two (.seq none .leaf (.seq none .leaf .leaf)) (.seq none .leaf (.two (.seq none .leaf (.seq none .leaf .leaf)) (.seq none .leaf (.two (.seq none .leaf (.seq none .leaf .leaf)) (.seq none .leaf (.two (.seq none .leaf (.seq none .leaf .leaf)) (.seq none .leaf (.two (.seq none .leaf (.seq none .leaf .leaf)) (.seq none .leaf (.two (.seq none .leaf (.seq none .leaf .leaf)) (.seq none .leaf (.two (.seq none .leaf (.seq none .leaf .leaf)) .leaf)))))))))))))))) (.seq none .leaf .leaf))) [a0, a1, a2] H R = F.expr_Eval E Tryd.prog a0 a1 a2 H R := by kernel_rfl
theorem b_keep_among (a0 : AV) (H : AH) (R : Kt) : bodyW E Tryd.prog Tryd.f10 (.seq none .leaf (.seq none .leaf .leaf)) [a0] H R = F.keep_among E Tryd.prog a0 H R := by kernel_rfl
theorem b_keep_pick (a0 a1 : AV) (H : AH) (R : Kt) : bodyW E Tryd.prog Tryd.f11 (.seq none .leaf (.seq none .leaf .leaf)) [a0, a1] H R = F.keep_pick E Tryd.prog a0 a1 H R := by kernel_rfl
theorem b_pexpr_reader_or (a0 a1 : AV) (H : AH) (R : Kt) : bodyW E Tryd.prog Tryd.f12 (.seq none .leaf (.seq none .leaf (.seq none (.seq none .leaf (.two (.seq none .leaf .leaf) .leaf)) (.seq none (.seq none .leaf (.two (.seq none .leaf .leaf) .leaf)) (.seq none .leaf .leaf))))) [a0, a1] H R = F.pexpr_reader_or E Tryd.prog a0 a1 H R := by kernel_rfl
theorem b_pexpr_reader_blanks (a0 : AV) (H : AH) (R : Kt) : bodyW E Tryd.prog Tryd.f13 (.one (.loop [] (.seq none (.seq none .draw (.two .leaf .leaf)) (.one .leaf)))) [a0] H R = F.pexpr_reader_blanks E Tryd.prog a0 H R := by kernel_rfl
theorem b_pexpr_reader_fail (a0 a1 : AV) (H : AH) (R : Kt) : bodyW E Tryd.prog Tryd.f14 (.seq none .leaf (.seq none .leaf (.seq none .leaf .leaf))) [a0, a1] H R = F.pexpr_reader_fail E Tryd.prog a0 a1 H R := by kernel_rfl
theorem b_expr_Edges (a0 : AV) (H : AH) (R : Kt) : bodyW E Tryd.prog Tryd.f15 (.seq none .leaf (.seq none .leaf .leaf)) [a0] H R = F.expr_Edges E Tryd.prog a0 H R := by kernel_rfl
theorem b_cover_Pairs_c1 (a0 a1 a2 : AV) (H : AH) (R : Kt) : bodyW E Tryd.prog Tryd.f16 (.seq none .leaf (.seq none .leaf (.seq none .leaf .leaf))) [a0, a1, a2] H R = F.cover_Pairs_c1 E Tryd.prog a0 a1 a2 H R := by kernel_rfl
theorem b_cover_Pairs_c1_c1 (a0 a1 a2 : AV) (H : AH) (R : Kt) : bodyW E Tryd.prog Tryd.f17 (.seq none .leaf (.seq none .draw .leaf)) [a0, a1, a2] H R = F.cover_Pairs_c1_c1 E Tryd.prog a0 a1 a2 H R := by kernel_rfl
theorem b_slices_Index_Lstring_string (a0 a1 : AV) (H : AH) (R : Kt) : bodyW E Tryd.prog Tryd.f18 (.seq none .leaf (.seq none (.seq none .leaf (.one (.loop [8] (.seq none .leaf (.seq none (.two .leaf .leaf) (.seq none (.one (.seq none .leaf (.seq none .leaf (.two (.seq none .leaf .leaf) .leaf)))) .leaf)))))) (.seq none .leaf .leaf))) [a0, a1] H R = F.slices_Index_Lstring_string E Tryd.prog a0 a1 H R := by kernel_rfl
theorem b_expr_sorted (a0 a1 : AV) (H : AH) (R : Kt) : bodyW E Tryd.prog Tryd.f19 (.seq none .leaf (.seq none .leaf (.seq none .leaf (.seq none .leaf (.seq none .leaf .leaf))))) [a0, a1] H R = F.expr_sorted E Tryd.prog a0 a1 H R := by kernel_rfl
theorem b_expr_Names_c1 (a0 : AV) (H : AH) (R : Kt) : bodyW E Tryd.prog Tryd.f20 (.seq none .leaf (.seq none (.seq none .leaf (.one (.seq none .leaf (.two (.seq none .leaf (.seq none .leaf .leaf)) (.seq none .leaf (.two (.seq none .leaf (.seq none .leaf .leaf)) (.seq none .leaf (.two (.seq none .leaf (.seq none .leaf .leaf)) .leaf)))))))) (.seq none .leaf .leaf))) [a0] H R = F.expr_Names_c1 E Tryd.prog a0 H R := by kernel_rfl
theorem b_slices_ContainsFunc_expr_And_expr_Expr (a0 a1 : AV) (H : AH) (R : Kt) : bodyW E Tryd.prog Tryd.f21 (.seq none .leaf (.seq none .leaf .leaf)) [a0, a1] H R = F.slices_ContainsFunc_expr_And_expr_Expr E Tryd.prog a0 a1 H R := by kernel_rfl
theorem b_expr_Eval_c1 (a0 a1 a2 : AV) (H : AH) (R : Kt) : bodyW E Tryd.prog Tryd.f22 (.seq none .leaf (.seq none .leaf .leaf)) [a0, a1, a2] H R = F.expr_Eval_c1 E Tryd.prog a0 a1 a2 H R := by kernel_rfl
theorem b_slices_ContainsFunc_expr_Or_expr_Expr (a0 a1 : AV) (H : AH) (R : Kt) : bodyW E Tryd.prog Tryd.f23 (.seq none .leaf (.seq none .leaf .leaf)) [a0, a1] H R = F.slices_ContainsFunc_expr_Or_expr_Expr E Tryd.prog a0 a1 H R := by kernel_rfl
theorem b_expr_Eval_c2 (a0 a1 a2 : AV) (H : AH) (R : Kt) : bodyW E Tryd.prog Tryd.f24 (.seq none .leaf (.seq none .leaf .leaf)) [a0, a1, a2] H R = F.expr_Eval_c2 E Tryd.prog a0 a1 a2 H R := by kernel_rfl
theorem b_keep_among_c1 (a0 a1 : AV) (H : AH) (R : Kt) : bodyW E Tryd.prog Tryd.f25 (.seq none .leaf (.seq none (.seq none .leaf (.one (.loop [4] (.seq none (.seq none .leaf (.two .leaf .leaf)) (.seq none (.one (.seq none .leaf (.two (.seq none .leaf .leaf) .leaf))) .leaf))))) (.seq none .leaf .leaf))) [a0, a1] H R = F.keep_among_c1 E Tryd.prog a0 a1 H R := by kernel_rfl
theorem b_pexpr_reader_several (a0 a1 a2 a3 : AV) (H : AH) (R : Kt) : bodyW E Tryd.prog Tryd.f26 (.seq none .leaf (.seq none .leaf (.one (.loop [10] (.one (.seq none .leaf (.seq none (.seq none .leaf (.two (.seq none .leaf .leaf) .leaf)) (.seq none .leaf (.seq none .leaf (.two (.seq none .leaf .leaf) .leaf)))))))))) [a0, a1, a2, a3] H R = F.pexpr_reader_several E Tryd.prog a0 a1 a2 a3 H R := by kernel_rfl
theorem b_pexpr_reader_and (a0 a1 : AV) (H : AH) (R : Kt) : bodyW E Tryd.prog Tryd.f27 (.seq none .leaf (.seq none .leaf (.seq none (.seq none .leaf (.two (.seq none .leaf .leaf) .leaf)) (.seq none (.seq none .leaf (.two (.seq none .leaf .leaf) .leaf)) (.seq none .leaf .leaf))))) [a0, a1] H R = F.pexpr_reader_and E Tryd.prog a0 a1 H R := by kernel_rfl
theorem b_expr_Edges_c1 (a0 : AV) (H : AH) (R : Kt) : bodyW E Tryd.prog Tryd.f28 (.seq none .leaf (.seq none (.seq none .leaf (.one (.seq none .leaf (.two (.seq none .leaf (.seq none .leaf .leaf)) (.seq none .leaf (.two (.seq none .leaf (.seq none .leaf .leaf)) .leaf)))))) (.seq none .leaf .leaf))) [a0] H R = F.expr_Edges_c1 E Tryd.prog a0 H R := by kernel_rfl
theorem b_expr_walk (a0 a1 : AV) (H : AH) (R : Kt) : bodyW E Tryd.prog Tryd.f29 (.seq none .leaf (.seq none .leaf (.one (.seq none .leaf (.two (.seq none .leaf .leaf) (.seq none .leaf (.two (.seq none .leaf (.seq none .leaf (.one (.loop [27] (.seq none .leaf (.seq none (.two .leaf .leaf) (.seq none (.one (.seq none .leaf .leaf)) .leaf))))))) (.seq none .leaf (.two (.seq none .leaf (.seq none .leaf (.one (.loop [40] (.seq none .leaf (.seq none (.two .leaf .leaf) (.seq none (.one (.seq none .leaf .leaf)) .leaf))))))) .leaf))))))))) [a0, a1] H R = F.expr_walk E Tryd.prog a0 a1 H R := by kernel_rfl
theorem b_expr_sorted_c1 (a0 a1 a2 : AV) (H : AH) (R : Kt) : bodyW E Tryd.prog Tryd.f30 (.seq none .leaf (.seq none .leaf (.two .leaf .leaf))) [a0, a1, a2] H R = F.expr_sorted_c1 E Tryd.prog a0 a1 a2 H R := by kernel_rfl
theorem b_slices_IndexFunc_expr_And_expr_Expr (a0 a1 : AV) (H : AH) (R : Kt) : bodyW E Tryd.prog Tryd.f33 (.seq none .leaf (.seq none (.seq none .leaf (.one (.loop [8] (.seq none .leaf (.seq none (.two .leaf .leaf) (.seq none (.one (.seq none .leaf (.seq none .leaf (.two (.seq none .leaf .leaf) .leaf)))) .leaf)))))) (.seq none .leaf .leaf))) [a0, a1] H R = F.slices_IndexFunc_expr_And_expr_Expr E Tryd.prog a0 a1 H R := by kernel_rfl
theorem b_slices_IndexFunc_expr_Or_expr_Expr (a0 a1 : AV) (H : AH) (R : Kt) : bodyW E Tryd.prog Tryd.f34 (.seq none .leaf (.seq none (.seq none .leaf (.one (.loop [8] (.seq none .leaf (.seq none (.two .leaf .leaf) (.seq none (.one (.seq none .leaf (.seq none .leaf (.two (.seq none .leaf .leaf) .leaf)))) .leaf)))))) (.seq none .leaf .leaf))) [a0, a1] H R = F.slices_IndexFunc_expr_Or_expr_Expr E Tryd.prog a0 a1 H R := by kernel_rfl
theorem b_pexpr_reader_take (a0 a1 : AV) (H : AH) (R : Kt) : bodyW E Tryd.prog Tryd.f35 (.seq none .leaf (.seq none .leaf (.seq none (.seq none .draw (.two (.seq none .leaf (.seq none .leaf .leaf)) .leaf)) (.seq none .leaf .leaf)))) [a0, a1] H R = F.pexpr_reader_take E Tryd.prog a0 a1 H R := by kernel_rfl
theorem b_pexpr_reader_one (a0 a1 : AV) (H : AH) (R : Kt) : bodyW E Tryd.prog Tryd.f36 (.seq none .leaf (.seq none (.seq none .leaf (.two (.seq none .leaf .leaf) .leaf)) (.seq none (.one (.seq none .leaf (.two (.seq none .leaf (.seq none (.seq none .leaf (.two (.seq none .leaf .leaf) .leaf)) (.seq none .leaf .leaf))) (.seq none .leaf (.two (.seq none .leaf (.seq none (.seq none .leaf (.two (.seq none .leaf .leaf) .leaf)) (.seq none (.seq none .leaf (.two (.seq none .leaf .leaf) .leaf)) (.seq none .leaf .leaf)))) (.seq none .leaf (.two (.seq none .leaf .leaf) (.seq none .leaf (.two (.seq none .leaf .leaf) (.seq none .leaf (.two (.seq none .leaf (.seq none .leaf .leaf)) (.seq none .leaf (.two (.seq none .leaf (.seq none .leaf .leaf)) .leaf))))))))))))) (.seq none .leaf (.seq none .leaf .leaf))))) [a0, a1] H R = F.pexpr_reader_one E Tryd.prog a0 a1 H R := by kernel_rfl
theorem b_pexpr_reader_word (a0 : AV) (H : AH) (R : Kt) : bodyW E Tryd.prog Tryd.f39 (.seq none .leaf (.seq none .leaf (.seq none .leaf (.seq none (.one (.loop [4] (.seq none (.seq none .leaf (.two .leaf .leaf)) (.one .leaf)))) (.seq none .draw (.seq none (.seq none .leaf (.two (.seq none .leaf .leaf) .leaf)) (.seq none (.seq none .leaf (.two (.seq none .leaf .leaf) .leaf)) (.seq none .leaf (.seq none .leaf .leaf))))))))) [a0] H R = F.pexpr_reader_word E Tryd.prog a0 H R := by kernel_rfl
theorem b_expr_Name (a0 : AV) (H : AH) (R : Kt) : bodyW E Tryd.prog Tryd.f52 (.seq none .leaf (.seq none .leaf .leaf)) [a0] H R = F.expr_Name E Tryd.prog a0 H R := by kernel_rfl
theorem b_strings_Trim (a0 a1 : AV) (H : AH) (R : Kt) : bodyW E Tryd.prog Tryd.f60 (.seq none .leaf (.seq none (.seq none .leaf (.two (.seq none .leaf .leaf) .leaf)) (.seq none (.seq none .leaf (.two (.seq none .draw .leaf) .leaf)) (.seq none (.seq none .leaf (.seq none .leaf (.two (.seq none .leaf .leaf) .leaf))) (.seq none .leaf .leaf))))) [a0, a1] H R = F.strings_Trim E Tryd.prog a0 a1 H R := by kernel_rfl
theorem b_slices_Contains_Lstring_string (a0 a1 : AV) (H : AH) (R : Kt) : bodyW E Tryd.prog Tryd.f61 (.seq none .leaf (.seq none .leaf .leaf)) [a0, a1] H R = F.slices_Contains_Lstring_string E Tryd.prog a0 a1 H R := by kernel_rfl
theorem b_strings_trimLeftByte (a0 a1 : AV) (H : AH) (R : Kt) : bodyW E Tryd.prog Tryd.f64 (.seq none .leaf (.seq none (.one (.loop [0] (.seq none (.seq none .leaf (.two .leaf .leaf)) (.one .leaf)))) (.seq none .leaf .leaf))) [a0, a1] H R = F.strings_trimLeftByte E Tryd.prog a0 a1 H R := by kernel_rfl
theorem b_strings_trimRightByte (a0 a1 : AV) (H : AH) (R : Kt) : bodyW E Tryd.prog Tryd.f65 (.seq none .leaf (.seq none (.one (.loop [0] (.seq none (.seq none .leaf (.two .leaf .leaf)) (.one .leaf)))) (.seq none .leaf .leaf))) [a0, a1] H R = F.strings_trimRightByte E Tryd.prog a0 a1 H R := by kernel_rfl
theorem b_strings_makeASCIISet (a0 : AV) (H : AH) (R : Kt) : bodyW E Tryd.prog Tryd.f66 (.seq none .leaf (.seq none (.seq none .leaf (.one (.loop [4] (.seq none (.seq none .leaf (.two .leaf .leaf)) (.seq none (.one (.seq none .leaf (.seq none (.seq none .leaf (.two (.seq none .leaf .leaf) .leaf)) .leaf))) .leaf))))) (.seq none .leaf .leaf))) [a0] H R = F.strings_makeASCIISet E Tryd.prog a0 H R := by kernel_rfl
theorem b_strings_trimLeftASCII (a0 a1 : AV) (H : AH) (R : Kt) : bodyW E Tryd.prog Tryd.f67 (.seq none .leaf (.seq (some [0]) (.one (.loop [0] (.seq none (.seq none .leaf (.two .leaf .leaf)) (.one (.seq none (.seq none .leaf (.two .leaf .leaf)) .leaf))))) (.seq none .leaf .leaf))) [a0, a1] H R = F.strings_trimLeftASCII E Tryd.prog a0 a1 H R := by kernel_rfl
theorem b_strings_trimRightASCII (a0 a1 : AV) (H : AH) (R : Kt) : bodyW E Tryd.prog Tryd.f68 (.seq none .leaf (.seq (some [0]) (.one (.loop [0] (.seq none (.seq none .leaf (.two .leaf .leaf)) (.one (.seq none (.seq none .leaf (.two .leaf .leaf)) .leaf))))) (.seq none .leaf .leaf))) [a0, a1] H R = F.strings_trimRightASCII E Tryd.prog a0 a1 H R := by kernel_rfl
theorem b_pstrings_asciiSet_contains (a0 a1 : AV) (H : AH) (R : Kt) : bodyW E Tryd.prog Tryd.f71 (.seq none .leaf (.seq none .leaf .leaf)) [a0, a1] H R = F.pstrings_asciiSet_contains E Tryd.prog a0 a1 H R := by kernel_rfl
theorem b_strings_ContainsRune (a0 a1 : AV) (H : AH) (R : Kt) : bodyW E Tryd.prog Tryd.f73 (.seq none .leaf (.seq none .leaf .leaf)) [a0, a1] H R = F.strings_ContainsRune E Tryd.prog a0 a1 H R := by kernel_rfl
theorem b_strings_IndexRune_ScV11 (a0 a1 : AV) (H : AH) (R : Kt) : bodyW E Tryd.prog Tryd.f76 (.seq none .leaf (.one (.seq none .leaf (.two (.seq none .leaf .leaf) (.seq none .leaf (.two (.seq none (.seq none .leaf (.one (.loop [] (.seq none .leaf (.seq none (.two .leaf .leaf) (.one (.seq none .leaf (.seq none .leaf (.two (.seq none .leaf .leaf) .leaf))))))))) (.seq none .leaf .leaf)) (.seq none .leaf (.two (.seq none .leaf .leaf) (.one (.seq none .leaf (.seq none .leaf (.seq none .leaf (.seq none .leaf (.seq none (.one (.loop [9] (.seq none (.seq none .leaf (.two .leaf .leaf)) (.one (.one (.seq (some [9]) (.seq none .draw (.two (.seq none .draw (.seq none (.seq none .leaf (.two (.seq none .leaf .leaf) .leaf)) .leaf)) .leaf)) (.seq none (.seq none .leaf (.one (.loop [12] (.seq none (.seq none .leaf (.two .leaf .leaf)) (.seq none (.one (.seq none .draw (.two .leaf .leaf))) .leaf))))) (.seq none (.seq none .leaf .leaf) (.seq none .leaf (.seq none .leaf (.seq none .leaf (.seq none .leaf (.two .leaf .leaf))))))))))))) (.seq none (.seq none .leaf .leaf) (.seq none .leaf (.seq none (.two (.seq none .leaf (.seq none .leaf (.two (.seq none .leaf .leaf) .leaf))) (.one (.seq none .leaf (.seq none .leaf (.seq none .leaf (.one (.loop [] (.seq none (.seq none .leaf (.two .leaf .leaf)) (.seq none (.one (.seq none .leaf (.two (.seq none (.seq none .leaf (.one (.loop [] (.seq none (.seq none .leaf (.two .leaf .leaf)) (.seq none (.one (.seq none .leaf (.two .leaf .leaf))) .leaf))))) (.seq none .leaf .leaf)) .leaf))) .leaf))))))))) (.seq none .leaf .leaf)))))))))))))))))) [a0, a1] H R = F.strings_IndexRune_ScV11 E Tryd.prog a0 a1 H R := by kernel_rfl
theorem b_unicode_utf8_ValidRune (a0 : AV) (H : AH) (R : Kt) : bodyW E Tryd.prog Tryd.f78 (.seq none .leaf (.seq none (.one (.seq none .leaf (.two (.seq none .leaf .leaf) (.seq none .leaf (.two (.seq none .leaf .leaf) .leaf))))) (.seq none .leaf .leaf))) [a0] H R = F.unicode_utf8_ValidRune E Tryd.prog a0 H R := by kernel_rfl
theorem c_expr_Parse (a0 : AV) (H : AH) (R : Kt) (h : F.expr_Parse E Tryd.prog a0 H R) : ACalls E Tryd.prog 126 [a0] H R :=
  acalls_of_body (show Tryd.prog.funcs[E.fn 126]? = some Tryd.f4 from Tryd.func4) (by kernel_rfl) ((b_expr_Parse a0 H R).mpr h)
theorem c_keep_covered (H : AH) (R : Kt) (h : F.keep_covered E Tryd.prog H R) : ACalls E Tryd.prog 224 [] H R :=
  acalls_of_body (show Tryd.prog.funcs[E.fn 224]? = some Tryd.f5 from Tryd.func5) (by kernel_rfl) ((b_keep_covered H R).mpr h)
theorem c_cover_Pairs (a0 : AV) (H : AH) (R : Kt) (h : F.cover_Pairs E Tryd.prog a0 H R) : ACalls E Tryd.prog 225 [a0] H R :=
  acalls_of_body (show Tryd.prog.funcs[E.fn 225]? = some Tryd.f6 from Tryd.func6) (by kernel_rfl) ((b_cover_Pairs a0 H R).mpr h)
theorem c_expr_Names (a0 : AV) (H : AH) (R : Kt) (h : F.expr_Names E Tryd.prog a0 H R) : ACalls E Tryd.prog 181 [a0] H R :=
  acalls_of_body (show Tryd.prog.funcs[E.fn 181]? = some Tryd.f7 from Tryd.func7) (by kernel_rfl) ((b_expr_Names a0 H R).mpr h)
theorem c_keep_CoverShows_c1 (a0 a1 a2 : AV) (H : AH) (R : Kt) (h : F.keep_CoverShows_c1 E Tryd.prog a0 a1 a2 H R) : ACalls E Tryd.prog 226 [a0, a1, a2] H R :=
  acalls_of_body (show Tryd.prog.funcs[E.fn 226]? = some Tryd.f8 from Tryd.func8) (by kernel_rfl) ((b_keep_CoverShows_c1 a0 a1 a2 H R).mpr h)
theorem c_expr_Eval (a0 a1 a2 : AV) (H : AH) (R : Kt) (h : F.expr_Eval E Tryd.prog a0 a1 a2 H R) : ACalls E Tryd.prog 158 [a0, a1, a2] H R :=
  acalls_of_body (show Tryd.prog.funcs[E.fn 158]? = some Tryd.f9 from Tryd.func9) (by kernel_rfl) ((b_expr_Eval a0 a1 a2 H R).mpr h)
theorem c_keep_among (a0 : AV) (H : AH) (R : Kt) (h : F.keep_among E Tryd.prog a0 H R) : ACalls E Tryd.prog 157 [a0] H R :=
  acalls_of_body (show Tryd.prog.funcs[E.fn 157]? = some Tryd.f10 from Tryd.func10) (by kernel_rfl) ((b_keep_among a0 H R).mpr h)
theorem c_keep_pick (a0 a1 : AV) (H : AH) (R : Kt) (h : F.keep_pick E Tryd.prog a0 a1 H R) : ACalls E Tryd.prog 48 [a0, a1] H R :=
  acalls_of_body (show Tryd.prog.funcs[E.fn 48]? = some Tryd.f11 from Tryd.func11) (by kernel_rfl) ((b_keep_pick a0 a1 H R).mpr h)
theorem c_pexpr_reader_or (a0 a1 : AV) (H : AH) (R : Kt) (h : F.pexpr_reader_or E Tryd.prog a0 a1 H R) : ACalls E Tryd.prog 133 [a0, a1] H R :=
  acalls_of_body (show Tryd.prog.funcs[E.fn 133]? = some Tryd.f12 from Tryd.func12) (by kernel_rfl) ((b_pexpr_reader_or a0 a1 H R).mpr h)
theorem c_pexpr_reader_blanks (a0 : AV) (H : AH) (R : Kt) (h : F.pexpr_reader_blanks E Tryd.prog a0 H R) : ACalls E Tryd.prog 134 [a0] H R :=
  acalls_of_body (show Tryd.prog.funcs[E.fn 134]? = some Tryd.f13 from Tryd.func13) (by kernel_rfl) ((b_pexpr_reader_blanks a0 H R).mpr h)
theorem c_pexpr_reader_fail (a0 a1 : AV) (H : AH) (R : Kt) (h : F.pexpr_reader_fail E Tryd.prog a0 a1 H R) : ACalls E Tryd.prog 135 [a0, a1] H R :=
  acalls_of_body (show Tryd.prog.funcs[E.fn 135]? = some Tryd.f14 from Tryd.func14) (by kernel_rfl) ((b_pexpr_reader_fail a0 a1 H R).mpr h)
theorem c_expr_Edges (a0 : AV) (H : AH) (R : Kt) (h : F.expr_Edges E Tryd.prog a0 H R) : ACalls E Tryd.prog 184 [a0] H R :=
  acalls_of_body (show Tryd.prog.funcs[E.fn 184]? = some Tryd.f15 from Tryd.func15) (by kernel_rfl) ((b_expr_Edges a0 H R).mpr h)
theorem c_cover_Pairs_c1 (a0 a1 a2 : AV) (H : AH) (R : Kt) (h : F.cover_Pairs_c1 E Tryd.prog a0 a1 a2 H R) : ACalls E Tryd.prog 228 [a0, a1, a2] H R :=
  acalls_of_body (show Tryd.prog.funcs[E.fn 228]? = some Tryd.f16 from Tryd.func16) (by kernel_rfl) ((b_cover_Pairs_c1 a0 a1 a2 H R).mpr h)
theorem c_cover_Pairs_c1_c1 (a0 a1 a2 : AV) (H : AH) (R : Kt) (h : F.cover_Pairs_c1_c1 E Tryd.prog a0 a1 a2 H R) : ACalls E Tryd.prog 229 [a0, a1, a2] H R :=
  acalls_of_body (show Tryd.prog.funcs[E.fn 229]? = some Tryd.f17 from Tryd.func17) (by kernel_rfl) ((b_cover_Pairs_c1_c1 a0 a1 a2 H R).mpr h)
theorem c_slices_Index_Lstring_string (a0 a1 : AV) (H : AH) (R : Kt) (h : F.slices_Index_Lstring_string E Tryd.prog a0 a1 H R) : ACalls E Tryd.prog 13 [a0, a1] H R :=
  acalls_of_body (show Tryd.prog.funcs[E.fn 13]? = some Tryd.f18 from Tryd.func18) (by kernel_rfl) ((b_slices_Index_Lstring_string a0 a1 H R).mpr h)
theorem c_expr_sorted (a0 a1 : AV) (H : AH) (R : Kt) (h : F.expr_sorted E Tryd.prog a0 a1 H R) : ACalls E Tryd.prog 190 [a0, a1] H R :=
  acalls_of_body (show Tryd.prog.funcs[E.fn 190]? = some Tryd.f19 from Tryd.func19) (by kernel_rfl) ((b_expr_sorted a0 a1 H R).mpr h)
theorem c_expr_Names_c1 (a0 : AV) (H : AH) (R : Kt) (h : F.expr_Names_c1 E Tryd.prog a0 H R) : ACalls E Tryd.prog 189 [a0] H R :=
  acalls_of_body (show Tryd.prog.funcs[E.fn 189]? = some Tryd.f20 from Tryd.func20) (by kernel_rfl) ((b_expr_Names_c1 a0 H R).mpr h)
theorem c_slices_ContainsFunc_expr_And_expr_Expr (a0 a1 : AV) (H : AH) (R : Kt) (h : F.slices_ContainsFunc_expr_And_expr_Expr E Tryd.prog a0 a1 H R) : ACalls E Tryd.prog 163 [a0, a1] H R :=
  acalls_of_body (show Tryd.prog.funcs[E.fn 163]? = some Tryd.f21 from Tryd.func21) (by kernel_rfl) ((b_slices_ContainsFunc_expr_And_expr_Expr a0 a1 H R).mpr h)
theorem c_expr_Eval_c1 (a0 a1 a2 : AV) (H : AH) (R : Kt) (h : F.expr_Eval_c1 E Tryd.prog a0 a1 a2 H R) : ACalls E Tryd.prog 162 [a0, a1, a2] H R :=
  acalls_of_body (show Tryd.prog.funcs[E.fn 162]? = some Tryd.f22 from Tryd.func22) (by kernel_rfl) ((b_expr_Eval_c1 a0 a1 a2 H R).mpr h)
theorem c_slices_ContainsFunc_expr_Or_expr_Expr (a0 a1 : AV) (H : AH) (R : Kt) (h : F.slices_ContainsFunc_expr_Or_expr_Expr E Tryd.prog a0 a1 H R) : ACalls E Tryd.prog 165 [a0, a1] H R :=
  acalls_of_body (show Tryd.prog.funcs[E.fn 165]? = some Tryd.f23 from Tryd.func23) (by kernel_rfl) ((b_slices_ContainsFunc_expr_Or_expr_Expr a0 a1 H R).mpr h)
theorem c_expr_Eval_c2 (a0 a1 a2 : AV) (H : AH) (R : Kt) (h : F.expr_Eval_c2 E Tryd.prog a0 a1 a2 H R) : ACalls E Tryd.prog 164 [a0, a1, a2] H R :=
  acalls_of_body (show Tryd.prog.funcs[E.fn 164]? = some Tryd.f24 from Tryd.func24) (by kernel_rfl) ((b_expr_Eval_c2 a0 a1 a2 H R).mpr h)
theorem c_keep_among_c1 (a0 a1 : AV) (H : AH) (R : Kt) (h : F.keep_among_c1 E Tryd.prog a0 a1 H R) : ACalls E Tryd.prog 166 [a0, a1] H R :=
  acalls_of_body (show Tryd.prog.funcs[E.fn 166]? = some Tryd.f25 from Tryd.func25) (by kernel_rfl) ((b_keep_among_c1 a0 a1 H R).mpr h)
theorem c_pexpr_reader_several (a0 a1 a2 a3 : AV) (H : AH) (R : Kt) (h : F.pexpr_reader_several E Tryd.prog a0 a1 a2 a3 H R) : ACalls E Tryd.prog 140 [a0, a1, a2, a3] H R :=
  acalls_of_body (show Tryd.prog.funcs[E.fn 140]? = some Tryd.f26 from Tryd.func26) (by kernel_rfl) ((b_pexpr_reader_several a0 a1 a2 a3 H R).mpr h)
theorem c_pexpr_reader_and (a0 a1 : AV) (H : AH) (R : Kt) (h : F.pexpr_reader_and E Tryd.prog a0 a1 H R) : ACalls E Tryd.prog 139 [a0, a1] H R :=
  acalls_of_body (show Tryd.prog.funcs[E.fn 139]? = some Tryd.f27 from Tryd.func27) (by kernel_rfl) ((b_pexpr_reader_and a0 a1 H R).mpr h)
theorem c_expr_Edges_c1 (a0 : AV) (H : AH) (R : Kt) (h : F.expr_Edges_c1 E Tryd.prog a0 H R) : ACalls E Tryd.prog 192 [a0] H R :=
  acalls_of_body (show Tryd.prog.funcs[E.fn 192]? = some Tryd.f28 from Tryd.func28) (by kernel_rfl) ((b_expr_Edges_c1 a0 H R).mpr h)
theorem c_expr_walk (a0 a1 : AV) (H : AH) (R : Kt) (h : F.expr_walk E Tryd.prog a0 a1 H R) : ACalls E Tryd.prog 161 [a0, a1] H R :=
  acalls_of_body (show Tryd.prog.funcs[E.fn 161]? = some Tryd.f29 from Tryd.func29) (by kernel_rfl) ((b_expr_walk a0 a1 H R).mpr h)
theorem c_expr_sorted_c1 (a0 a1 a2 : AV) (H : AH) (R : Kt) (h : F.expr_sorted_c1 E Tryd.prog a0 a1 a2 H R) : ACalls E Tryd.prog 193 [a0, a1, a2] H R :=
  acalls_of_body (show Tryd.prog.funcs[E.fn 193]? = some Tryd.f30 from Tryd.func30) (by kernel_rfl) ((b_expr_sorted_c1 a0 a1 a2 H R).mpr h)
theorem c_slices_IndexFunc_expr_And_expr_Expr (a0 a1 : AV) (H : AH) (R : Kt) (h : F.slices_IndexFunc_expr_And_expr_Expr E Tryd.prog a0 a1 H R) : ACalls E Tryd.prog 167 [a0, a1] H R :=
  acalls_of_body (show Tryd.prog.funcs[E.fn 167]? = some Tryd.f33 from Tryd.func33) (by kernel_rfl) ((b_slices_IndexFunc_expr_And_expr_Expr a0 a1 H R).mpr h)
theorem c_slices_IndexFunc_expr_Or_expr_Expr (a0 a1 : AV) (H : AH) (R : Kt) (h : F.slices_IndexFunc_expr_Or_expr_Expr E Tryd.prog a0 a1 H R) : ACalls E Tryd.prog 168 [a0, a1] H R :=
  acalls_of_body (show Tryd.prog.funcs[E.fn 168]? = some Tryd.f34 from Tryd.func34) (by kernel_rfl) ((b_slices_IndexFunc_expr_Or_expr_Expr a0 a1 H R).mpr h)
theorem c_pexpr_reader_take (a0 a1 : AV) (H : AH) (R : Kt) (h : F.pexpr_reader_take E Tryd.prog a0 a1 H R) : ACalls E Tryd.prog 143 [a0, a1] H R :=
  acalls_of_body (show Tryd.prog.funcs[E.fn 143]? = some Tryd.f35 from Tryd.func35) (by kernel_rfl) ((b_pexpr_reader_take a0 a1 H R).mpr h)
theorem c_pexpr_reader_one (a0 a1 : AV) (H : AH) (R : Kt) (h : F.pexpr_reader_one E Tryd.prog a0 a1 H R) : ACalls E Tryd.prog 144 [a0, a1] H R :=
  acalls_of_body (show Tryd.prog.funcs[E.fn 144]? = some Tryd.f36 from Tryd.func36) (by kernel_rfl) ((b_pexpr_reader_one a0 a1 H R).mpr h)
theorem c_pexpr_reader_word (a0 : AV) (H : AH) (R : Kt) (h : F.pexpr_reader_word E Tryd.prog a0 H R) : ACalls E Tryd.prog 145 [a0] H R :=
  acalls_of_body (show Tryd.prog.funcs[E.fn 145]? = some Tryd.f39 from Tryd.func39) (by kernel_rfl) ((b_pexpr_reader_word a0 H R).mpr h)
theorem c_expr_Name (a0 : AV) (H : AH) (R : Kt) (h : F.expr_Name E Tryd.prog a0 H R) : ACalls E Tryd.prog 1 [a0] H R :=
  acalls_of_body (show Tryd.prog.funcs[E.fn 1]? = some Tryd.f52 from Tryd.func52) (by kernel_rfl) ((b_expr_Name a0 H R).mpr h)
theorem c_strings_Trim (a0 a1 : AV) (H : AH) (R : Kt) (h : F.strings_Trim E Tryd.prog a0 a1 H R) : ACalls E Tryd.prog 4 [a0, a1] H R :=
  acalls_of_body (show Tryd.prog.funcs[E.fn 4]? = some Tryd.f60 from Tryd.func60) (by kernel_rfl) ((b_strings_Trim a0 a1 H R).mpr h)
theorem c_slices_Contains_Lstring_string (a0 a1 : AV) (H : AH) (R : Kt) (h : F.slices_Contains_Lstring_string E Tryd.prog a0 a1 H R) : ACalls E Tryd.prog 5 [a0, a1] H R :=
  acalls_of_body (show Tryd.prog.funcs[E.fn 5]? = some Tryd.f61 from Tryd.func61) (by kernel_rfl) ((b_slices_Contains_Lstring_string a0 a1 H R).mpr h)
theorem c_strings_trimLeftByte (a0 a1 : AV) (H : AH) (R : Kt) (h : F.strings_trimLeftByte E Tryd.prog a0 a1 H R) : ACalls E Tryd.prog 7 [a0, a1] H R :=
  acalls_of_body (show Tryd.prog.funcs[E.fn 7]? = some Tryd.f64 from Tryd.func64) (by kernel_rfl) ((b_strings_trimLeftByte a0 a1 H R).mpr h)
theorem c_strings_trimRightByte (a0 a1 : AV) (H : AH) (R : Kt) (h : F.strings_trimRightByte E Tryd.prog a0 a1 H R) : ACalls E Tryd.prog 6 [a0, a1] H R :=
  acalls_of_body (show Tryd.prog.funcs[E.fn 6]? = some Tryd.f65 from Tryd.func65) (by kernel_rfl) ((b_strings_trimRightByte a0 a1 H R).mpr h)
theorem c_strings_makeASCIISet (a0 : AV) (H : AH) (R : Kt) (h : F.strings_makeASCIISet E Tryd.prog a0 H R) : ACalls E Tryd.prog 8 [a0] H R :=
  acalls_of_body (show Tryd.prog.funcs[E.fn 8]? = some Tryd.f66 from Tryd.func66) (by kernel_rfl) ((b_strings_makeASCIISet a0 H R).mpr h)
theorem c_strings_trimLeftASCII (a0 a1 : AV) (H : AH) (R : Kt) (h : F.strings_trimLeftASCII E Tryd.prog a0 a1 H R) : ACalls E Tryd.prog 10 [a0, a1] H R :=
  acalls_of_body (show Tryd.prog.funcs[E.fn 10]? = some Tryd.f67 from Tryd.func67) (by kernel_rfl) ((b_strings_trimLeftASCII a0 a1 H R).mpr h)
theorem c_strings_trimRightASCII (a0 a1 : AV) (H : AH) (R : Kt) (h : F.strings_trimRightASCII E Tryd.prog a0 a1 H R) : ACalls E Tryd.prog 9 [a0, a1] H R :=
  acalls_of_body (show Tryd.prog.funcs[E.fn 9]? = some Tryd.f68 from Tryd.func68) (by kernel_rfl) ((b_strings_trimRightASCII a0 a1 H R).mpr h)
theorem c_pstrings_asciiSet_contains (a0 a1 : AV) (H : AH) (R : Kt) (h : F.pstrings_asciiSet_contains E Tryd.prog a0 a1 H R) : ACalls E Tryd.prog 14 [a0, a1] H R :=
  acalls_of_body (show Tryd.prog.funcs[E.fn 14]? = some Tryd.f71 from Tryd.func71) (by kernel_rfl) ((b_pstrings_asciiSet_contains a0 a1 H R).mpr h)
theorem c_strings_ContainsRune (a0 a1 : AV) (H : AH) (R : Kt) (h : F.strings_ContainsRune E Tryd.prog a0 a1 H R) : ACalls E Tryd.prog 16 [a0, a1] H R :=
  acalls_of_body (show Tryd.prog.funcs[E.fn 16]? = some Tryd.f73 from Tryd.func73) (by kernel_rfl) ((b_strings_ContainsRune a0 a1 H R).mpr h)
theorem c_strings_IndexRune_ScV11 (a0 a1 : AV) (H : AH) (R : Kt) (h : F.strings_IndexRune_ScV11 E Tryd.prog a0 a1 H R) : ACalls E Tryd.prog 19 [a0, a1] H R :=
  acalls_of_body (show Tryd.prog.funcs[E.fn 19]? = some Tryd.f76 from Tryd.func76) (by kernel_rfl) ((b_strings_IndexRune_ScV11 a0 a1 H R).mpr h)
theorem c_unicode_utf8_ValidRune (a0 : AV) (H : AH) (R : Kt) (h : F.unicode_utf8_ValidRune E Tryd.prog a0 H R) : ACalls E Tryd.prog 22 [a0] H R :=
  acalls_of_body (show Tryd.prog.funcs[E.fn 22]? = some Tryd.f78 from Tryd.func78) (by kernel_rfl) ((b_unicode_utf8_ValidRune a0 H R).mpr h)
end Go.Proofs.YtfhfojojchkmbaaDoor
