/-
  BlockLeast: the row, out of the contracts.
-/
import Derived.Test.YtbdkkbeldnndnaaRows
import Derived.Test.YtbdkkbeldnndnaaSbP7
import Derived.Test.YtbdkkbeldnndnaaSbR2
import Derived.Test.YtbdkkbeldnndnaaSbS1
import Derived.WalkKit
import Derived.ProofKit
import Derived.OpenShut
import Derived.ShutString
import Derived.ChangeOld
import Derived.Below
import Derived.SizedLaws
namespace Go.Proofs.Ytbdkkbeldnndnaa.blockLeast
open Go.Sb Go.ChangeShapes Go.WideShapes Go.ChangeAt Go.RowKit
set_option linter.unusedVariables false
set_option maxRecDepth 100000

theorem bodies : KeepBodies E Try.prog where
  block := {
    check := c_block_Check
    rounds := c_block_rounds
    number := c_block_number
    idxLL := c_slices_IndexFunc_LLint_Lint
    idxL := c_slices_IndexFunc_Lint_int
    num1 := c_block_number_c1
    equal := c_slices_Equal_Lint_int
    cont := c_slices_ContainsFunc_Lint_int
    chk1 := c_block_Check_c1
    clone := c_slices_Clone_Lint_int
    blocks := c_block_Blocks }
  part := c_block_Part
  part1 := c_block_Part_c1
  least := c_block_Least
  few := c_keep_few
  same := c_keep_sameInts
  blocked := c_keep_blocked

theorem own : ownKnob Try.prog.godebug = none := by kernel_rfl
theorem laidOut : laidOutB Try.prog = true := by kernel_rfl

theorem walk {W : World} {x : AV} {t : Table} {v : Value} (hx : Tab x t) (hv : VRel E (Cx.start W) x v) : Calls Try.prog 3 #[v] W fun e w' => e = .returned (.bool true) ∧ Below W.heap.size W w' :=
  calls_law (args := [x]) (vs := [v]) Try.func3 ((b_keep_BlockLeast x ⟨[], 0⟩ _).mpr (BlockLeast_body bodies hx 0)) (by simp only [LRel]; exact ⟨v, [], rfl, hv, rfl⟩)

theorem lifted (os : Os) (started : os.Started) (H : Type) (enc : TypeId × Value → H) :
    ReturnsInHanded {} Try.checked os 3 .any (Rows.blockLeastSpec.pre6 enc Try.prog Try.f3 Rows.blockLeastRow.domain false) (Rows.blockLeastSpec.post enc Try.prog Try.f3 false true false false) := by
  refine returnsInHanded_of_change_sized (C := Try.checked) own started (by kernel_rfl) Try.func3
    (ChangeSpec.witness6 (enc := enc) (C := Try.checked) false ⟨#[], #[.agg #[.slice none 0 0, .slice none 0 0]], []⟩ 8 (by kernel_rfl) (by kernel_rfl) (by kernel_rfl) (by kernel_rfl)) ?_
  intro W base args ds gs before hval0 hW hcnd hsz0 _
  have hval : ∀ (j : Nat) t v, Try.f3.params[j]? = some t → args[j]? = some v → Value.okWide Try.prog W .any base t v := hval0
  have hW' := hW
  obtain ⟨p, q, hA0, hV, rfl, hfz, hnd⟩ := hW
  have hA : DataW.TrodAll enc Try.prog W 0 (fun _ => true) true Try.f3.params.toList args.toList ds p := hA0
  rw [Try.params3] at hA hval
  obtain ⟨v0, vs0, d0, ds0, p0, q0, hargs, rfl, rfl, h0, r0⟩ := trodAll_cons hA
  obtain ⟨rfl, rfl, rfl⟩ := trodAll_nil r0
  obtain rfl : args = #[v0] := by cases args; simp_all
  obtain ⟨rfl, rfl⟩ := trodVars_none hV
  have k0 := h0
  have lt0 : ∀ x ∈ p0, x.block < W.heap.size := by obtain ⟨m, hm⟩ := k0; exact DataW.trod_lt m _ _ _ hm
  obtain ⟨a, b, tb, hv, htb⟩ := trod_Tab (E := E) (e1 := 22) (e2 := 31) (e3 := 3) Try.underlying24 (by kernel_rfl) ⟨rfl, rfl, rfl⟩ ⟨rfl, rfl, rfl⟩ (by kernel_rfl) (by kernel_rfl) (by kernel_rfl) Try.underlying22 Try.underlying31 Try.underlying3 (hval 0 24 v0 rfl rfl) h0
  clear hA0 hval0 hsz0
  refine (walk htb hv).mono fun e W' ⟨he, bel⟩ => ?_
  subst he
  exact ⟨_, rfl, _, _, _, [], _, [], hW', trodAll_mk1 (shut_bool Try.underlying4 _), (trodAll_cons_mk (Below.trod laidOut (by kernel_rfl) (of_decide_eq_true (by kernel_rfl)) k0 bel lt0) trodAll_mk0), rfl, bel.frame _, fun h => by cases h⟩

theorem over : Rows.blockLeastRow.holds Try.pinned (OpenSpec.ofChange Rows.blockLeastSpec) :=
  OpenClaim.holds_of_wide 3 Try.f3 rfl rfl rfl rfl rfl rfl rfl ⟨rfl, rfl, rfl, rfl, rfl⟩ rfl rfl rfl rfl rfl (by kernel_rfl) Try.func3 (by kernel_rfl)
    (of_decide_eq_true (by kernel_rfl)) (by unfold Func.isWrapper; first | (rw [if_pos (by decide +kernel)]; kernel_rfl) | (rw [if_neg (by decide +kernel)]; exact ⟨rfl, rfl⟩))
    (fun os started H enc _ => lifted os started H enc)
theorem proved : Rows.BlockLeastSaid := over
end Go.Proofs.Ytbdkkbeldnndnaa.blockLeast
namespace Go.Proofs.Ytbdkkbeldnndnaa
theorem blockLeast_holds : Rows.BlockLeastSaid := blockLeast.proved
#print axioms blockLeast_holds
end Go.Proofs.Ytbdkkbeldnndnaa
