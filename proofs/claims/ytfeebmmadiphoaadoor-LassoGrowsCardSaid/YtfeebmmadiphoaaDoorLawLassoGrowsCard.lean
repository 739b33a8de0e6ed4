/-
  LassoGrows: what holds at some time, until, and at each is told by what holds now, and at the next time: the row, and the card, out of the contracts.
-/
import Derived.Test.YtfeebmmadiphoaaDoorCards
import Derived.Test.YtfeebmmadiphoaaDoorTie
import Derived.Test.YtfeebmmadiphoaaDoorScX2
import Derived.Test.YtfeebmmadiphoaaDoorScR3
import Derived.Test.YtfeebmmadiphoaaDoorScR2
import Derived.Test.YtfeebmmadiphoaaDoorScS3
import Derived.WalkKit
import Derived.ProofKit
import Derived.OpenShut
import Derived.ShutString
import Derived.ChangeOld
import Derived.Below
import Derived.SizedLaws
import Derived.Lay
import Derived.LaidOnce
import Derived.LaidHandle
import Derived.SevenTiedAt
namespace Go.Proofs.YtfeebmmadiphoaaDoor.lassoGrows
open Go.Sc Go.ChangeShapes Go.WideShapes Go.ChangeAt Go.RowKit
set_option linter.unusedVariables false
set_option maxRecDepth 100000
theorem nameB : NameBodies E Tryd.prog where
  t := {
    trim := c_strings_Trim
    rb := c_strings_trimRightByte
    lb := c_strings_trimLeftByte
    mkSet := c_strings_makeASCIISet
    ra := c_strings_trimRightASCII
    la := c_strings_trimLeftASCII
    has := c_pstrings_asciiSet_contains }
  name := c_expr_Name
  contains := c_slices_Contains_Lstring_string
  index := c_slices_Index_Lstring_string
theorem lassoB : LassoBodies E Tryd.prog where
  n := nameB
  ar := rfl
  at_ := c_plain_At
  formula := c_plain_Formula
  check := c_lasso_Check
  right := c_lasso_right
  right1 := c_lasso_Right
theorem holdB : HoldBodies E Tryd.prog where
  l := lassoB
  holds := c_lasso_holds
  nx := c_lasso_holds_c1
  fix := c_lasso_holds_c2
  un := c_lasso_holds_c3
  re := c_lasso_holds_c4
  ev := c_lasso_holds_c5
  al := c_lasso_holds_c6
theorem growsB : GrowsBodies E Tryd.prog where
  h := holdB
  hs := c_lasso_Holds
  sb := c_keep_sameBools
  led := c_keep_lassoed
theorem bodies : LassoGrowsBodies E Tryd.prog where
  g := growsB
  node := c_keep_LassoGrows_c1
  same := c_keep_LassoGrows_c2

theorem own : ownKnob Tryd.prog.godebug = none := by kernel_rfl
theorem laidOut : laidOutB Tryd.prog = true := by kernel_rfl
theorem walk {W : World} (x0 : Wd) (x1 : List St) (x2 : List St) (h0 : Wd.sized x0) {v0 : Value} {v1 : Value} {v2 : Value} (r0 : VRel E (Cx.start W) (x0.enc) v0) (r1 : VRel E (Cx.start W) (ST x1) v1) (r2 : VRel E (Cx.start W) (ST x2) v2) (hg : E.met W) : Calls Tryd.prog 3 #[v0, v1, v2] W fun e w' => e = .returned (.bool true) ∧ Below W.heap.size W w' :=
  calls_law (args := [x0.enc, ST x1, ST x2]) (vs := [v0, v1, v2]) Tryd.func3 ((b_keep_LassoGrows (x0.enc) (ST x1) (ST x2) ⟨[], 0⟩ _).mpr (LassoGrows_body bodies x0 h0 x1 x2 0)) (by simp only [LRel]; exact ⟨v0, _, rfl, r0, ⟨v1, _, rfl, r1, ⟨v2, _, rfl, r2, rfl⟩⟩⟩) hg
theorem met {W : World} (h : laidMetH Tryd.prog Rows.lassoGrowsRow.laid W) : E.met W := fun g cs e => by
  by_cases hg : g = 3
  · subst hg
    have e2 : some (([-1, 0, 0, 1, 2, 2, 1, 2, 2, 1, 1] : List Int).map fun z => Z z) = some cs := e
    injection e2 with e2
    subst e2
    exact ⟨closed_Z _, laid_ints (zs := [-1, 0, 0, 1, 2, 2, 1, 2, 2, 1, 1]) h (.tail _ (.head _)) (show Tryd.prog.globalNamed "signalbox/lasso.arity" = some 0 by kernel_rfl) (show (Tryd.prog.globals[0]?).map (·.type) = some 58 by kernel_rfl) (m := 11) (e := 3) (by kernel_rfl) (by kernel_rfl) (by kernel_rfl) (by kernel_rfl)⟩
  · have e2 : (if g = 3 then some (([-1, 0, 0, 1, 2, 2, 1, 2, 2, 1, 1] : List Int).map fun z => Z z) else none) = some cs := e
    rw [if_neg hg] at e2
    cases e2
theorem lifted (os : Os) (started : os.Started) (H : Type) (enc : TypeId × Value → H) :
    ReturnsInHanded {} Tryd.checked os 3 .any (fun w args => (Rows.lassoGrowsSpec.pre enc Tryd.prog Tryd.f3 [] false w args ∧ laidMetH Tryd.prog Rows.lassoGrowsRow.laid w) ∧ sizedMet enc Tryd.prog Tryd.f3 (OpenSpec.ofChange Rows.lassoGrowsSpec) false w args)
      (Rows.lassoGrowsSpec.post enc Tryd.prog Tryd.f3 false true false false) := by
  refine returnsInHanded_of_change_and (C := Tryd.checked) (X := fun w _ => laidMetH Tryd.prog Rows.lassoGrowsRow.laid w) (fun _ _ _ hh h => h.of_heap hh) own started (by kernel_rfl) Tryd.func3
    (ChangeSpec.witness_shaped (enc := enc) (C := Tryd.checked) (os := os) (X := fun w _ => laidMetH Tryd.prog Rows.lassoGrowsRow.laid w) false (World.laidAll Tryd.prog os Rows.lassoGrowsRow.laid) #[.agg #[.slice none 0 0, .slice none 0 0], .slice none 0 0, .slice none 0 0] 8 (World.laidAll_os _ _ _)
      (World.shaped_of_ZipB (by kernel_rfl) (by kernel_rfl)) (by kernel_rfl) (by kernel_rfl) (by kernel_rfl)
      (by rw [MakeChecks.laidMetH_plain _ _ _ (by kernel_rfl)]; exact laidMet_laidAll _ (by kernel_rfl) (by kernel_rfl))) ?_
  intro W base args ds gs before hval0 hW _ hwt hL _
  have hval : ∀ (j : Nat) t v, Tryd.f3.params[j]? = some t → args[j]? = some v → Value.okWide Tryd.prog W .any base t v := hval0
  have hW' := hW
  obtain ⟨p, q, hA0, hV, rfl, hfz, hnd⟩ := hW
  have hA : DataW.TrodAll enc Tryd.prog W 0 (fun _ => true) true Tryd.f3.params.toList args.toList ds p := hA0
  rw [Tryd.params3] at hA hval
  obtain ⟨v0, vs0, d0, ds0, p0, q0, ha0, rfl, rfl, h0, r0⟩ := trodAll_cons hA
  obtain ⟨v1, vs1, d1, ds1, p1, q1, ha1, rfl, rfl, h1, r1⟩ := trodAll_cons r0
  obtain ⟨v2, vs2, d2, ds2, p2, q2, ha2, rfl, rfl, h2, r2⟩ := trodAll_cons r1
  obtain ⟨rfl, rfl, rfl⟩ := trodAll_nil r2
  obtain rfl : args = #[v0, v1, v2] := by cases args; simp_all
  obtain ⟨rfl, rfl⟩ := trodVars_none hV
  have k0 := h0
  have lt0 : ∀ x ∈ p0, x.block < W.heap.size := by obtain ⟨m, hm⟩ := k0; exact DataW.trod_lt m _ _ _ hm
  obtain ⟨x0, g0, e0⟩ := (Dec.word Tryd.underlying9 Tryd.underlying47 Tryd.underlying22 Tryd.underlying22 Tryd.underlying24 ⟨rfl, (by kernel_rfl), (by kernel_rfl)⟩ ⟨(by kernel_rfl), (by kernel_rfl)⟩ ⟨(show 0 < Tryd.prog.bytesOf 9 by rw [show Tryd.prog.bytesOf 9 = 16 by kernel_rfl]; decide), (show 0 < Tryd.prog.bytesOf 47 by rw [show Tryd.prog.bytesOf 47 = 24 by kernel_rfl]; decide)⟩ : Dec enc Tryd.prog W E 24 _ _).arg_struct (by first | exact Tryd.underlying24 | kernel_rfl) (hval 0 24 v0 rfl rfl) h0 (Sized.of_each hwt (j := 0) rfl rfl)
  have k1 := h1
  have lt1 : ∀ x ∈ p1, x.block < W.heap.size := by obtain ⟨m, hm⟩ := k1; exact DataW.trod_lt m _ _ _ hm
  obtain ⟨x1, g1, e1⟩ := (Dec.steps Tryd.underlying3 Tryd.underlying3 Tryd.underlying3 Tryd.underlying9 Tryd.underlying44 Tryd.underlying25 ⟨rfl, (by kernel_rfl), (by kernel_rfl), (by kernel_rfl), (by kernel_rfl)⟩ (by kernel_rfl) (show 0 < Tryd.prog.bytesOf 44 by rw [show Tryd.prog.bytesOf 44 = 40 by kernel_rfl]; decide) : Dec enc Tryd.prog W E 25 _ _).arg_slice (by first | exact Tryd.underlying25 | kernel_rfl) (hval 1 25 v1 rfl rfl) h1 (Sized.of_each hwt (j := 1) rfl rfl)
  have k2 := h2
  have lt2 : ∀ x ∈ p2, x.block < W.heap.size := by obtain ⟨m, hm⟩ := k2; exact DataW.trod_lt m _ _ _ hm
  obtain ⟨x2, g2, e2⟩ := (Dec.steps Tryd.underlying3 Tryd.underlying3 Tryd.underlying3 Tryd.underlying9 Tryd.underlying44 Tryd.underlying25 ⟨rfl, (by kernel_rfl), (by kernel_rfl), (by kernel_rfl), (by kernel_rfl)⟩ (by kernel_rfl) (show 0 < Tryd.prog.bytesOf 44 by rw [show Tryd.prog.bytesOf 44 = 40 by kernel_rfl]; decide) : Dec enc Tryd.prog W E 25 _ _).arg_slice (by first | exact Tryd.underlying25 | kernel_rfl) (hval 2 25 v2 rfl rfl) h2 (Sized.of_each hwt (j := 2) rfl rfl)
  clear hA0 hval0
  refine (walk x0 x1 x2 g0 e0 e1 e2 (met hL)).mono fun e W' ⟨he, bel⟩ => ?_
  subst he
  exact ⟨_, rfl, _, _, _, [], _, [], hW', trodAll_mk1 (shut_bool Tryd.underlying4 _), (trodAll_cons_mk (Below.trod laidOut (by kernel_rfl) (of_decide_eq_true (by kernel_rfl)) k0 bel lt0) (trodAll_cons_mk (Below.trod laidOut (by kernel_rfl) (of_decide_eq_true (by kernel_rfl)) k1 bel lt1) (trodAll_cons_mk (Below.trod laidOut (by kernel_rfl) (of_decide_eq_true (by kernel_rfl)) k2 bel lt2) trodAll_mk0))), rfl, bel.frame _, fun h => by cases h⟩

theorem over : Rows.lassoGrowsRow.holds Tryd.pinned (OpenSpec.ofChange Rows.lassoGrowsSpec) :=
  OpenClaim.holds_of_wide 3 Tryd.f3 rfl rfl rfl rfl rfl rfl rfl ⟨rfl, rfl, rfl, rfl, rfl⟩ rfl rfl rfl rfl rfl (by kernel_rfl) Tryd.func3 (by kernel_rfl)
    (of_decide_eq_true (by kernel_rfl)) (by unfold Func.isWrapper; first | (rw [if_pos (by decide +kernel)]; kernel_rfl) | (rw [if_neg (by decide +kernel)]; exact ⟨rfl, rfl⟩))
    (fun os started H enc _ => lifted os started H enc)
theorem card : Rows.LassoGrowsCardSaid :=
  Claim7.holds_tied_plain_at .later [] [.data, .data, .pinned] true (true, "8487427c60a955fea5df240d39f8d2d4a76caff9ff0184e320771d8477a5b386") false over (fun _ h => by cases h) (by kernel_rfl) (fun _ h => by cases h) lassoGrows_row_tie rfl ⟨rfl, rfl⟩ (by kernel_rfl) rfl
    (fun f fn hf hfn => by
      obtain rfl : f = 3 := Option.some.inj ((show Tryd.prog.funcNamed "signalbox/signalboxkeep.LassoGrows" = some 3 by kernel_rfl).symm.trans hf) |>.symm
      obtain rfl : fn = Tryd.f3 := (Option.some.inj (Tryd.func3.symm.trans hfn)).symm
      exact ⟨by kernel_rfl, fun j t ht => by
        rw [Tryd.params3] at ht
        have hm : t ∈ [24, 25, 25] := by simpa using Array.mem_of_getElem? ht
        have hall : ([24, 25, 25].all fun u => !Tryd.prog.wantsStandIn u) = true := by kernel_rfl
        exact (show Tryd.prog.wantsStandIn t = false by simpa using List.all_eq_true.1 hall t hm)⟩)
    (by kernel_rfl)
end Go.Proofs.YtfeebmmadiphoaaDoor.lassoGrows
namespace Go.Proofs.YtfeebmmadiphoaaDoor
theorem lassoGrows_holds : Rows.LassoGrowsCardSaid := lassoGrows.card
#print axioms lassoGrows_holds
end Go.Proofs.YtfeebmmadiphoaaDoor
