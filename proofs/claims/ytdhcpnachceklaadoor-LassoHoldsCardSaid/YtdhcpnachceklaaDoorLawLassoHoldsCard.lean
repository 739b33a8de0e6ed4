/-
  LassoHolds: at which times of a word a formula holds is found by looking on for two rounds; words and formulas that may not be are told: the row, and the card, out of the contracts.
-/
import Derived.Test.YtdhcpnachceklaaDoorCards
import Derived.Test.YtdhcpnachceklaaDoorTie
import Derived.Test.YtdhcpnachceklaaDoorScX7
import Derived.Test.YtdhcpnachceklaaDoorScR7
import Derived.Test.YtdhcpnachceklaaDoorScTellLassoHolds
import Derived.Test.YtdhcpnachceklaaDoorScR2
import Derived.Test.YtdhcpnachceklaaDoorScR6
import Derived.Test.YtdhcpnachceklaaDoorScS8
import Derived.WalkKit
import Derived.ProofKit
import Derived.OpenShut
import Derived.ShutString
import Derived.ChangeOld
import Derived.Below
import Derived.SizedLaws
import Derived.Lay
import Derived.LaidOnce
import Derived.LaidHandle
import Derived.SevenTiedAt
namespace Go.Proofs.YtdhcpnachceklaaDoor.lassoHolds
open Go.Sc Go.ChangeShapes Go.WideShapes Go.ChangeAt Go.RowKit
set_option linter.unusedVariables false
set_option maxRecDepth 100000
theorem nameB : NameBodies E Tryd.prog where
  t := {
    trim := c_strings_Trim
    rb := c_strings_trimRightByte
    lb := c_strings_trimLeftByte
    mkSet := c_strings_makeASCIISet
    ra := c_strings_trimRightASCII
    la := c_strings_trimLeftASCII
    has := c_pstrings_asciiSet_contains }
  name := c_expr_Name
  contains := c_slices_Contains_Lstring_string
  index := c_slices_Index_Lstring_string
theorem lassoB : LassoBodies E Tryd.prog where
  n := nameB
  ar := rfl
  at_ := c_plain_At
  formula := c_plain_Formula
  check := c_lasso_Check
  right := c_lasso_right
  right1 := c_lasso_Right
theorem holdB : HoldBodies E Tryd.prog where
  l := lassoB
  holds := c_lasso_holds
  nx := c_lasso_holds_c1
  fix := c_lasso_holds_c2
  un := c_lasso_holds_c3
  re := c_lasso_holds_c4
  ev := c_lasso_holds_c5
  al := c_lasso_holds_c6
theorem tellB (e : Int) : FX E Tryd.prog 53 [Er e] (Z e) :=
  FX.tell (g := 4) (X := 30) (fn := Tryd.f31) Tryd.func31 (by kernel_rfl) (by kernel_rfl) rfl rfl tell_nil (fun z w h => tell_hit z w h) e
theorem tellAtB (e p : Int) : FX E Tryd.prog 53 [At e p] (Z e) :=
  FX.tellAt (g := 4) (T := 76) (fn := Tryd.f31) Tryd.func31 (by kernel_rfl) (by kernel_rfl) rfl rfl (fun z p w hg hp => tell_at z p w hg hp) e p
theorem placeB : PlaceBodies E Tryd.prog where
  place := c_plain_Place
  tell := tellB
  tellAt := tellAtB
  noUnwrap := HasM.of (by kernel_rfl)
theorem bodies : HoldsBodies E Tryd.prog where
  h := holdB
  hs := c_lasso_Holds
  p := placeB
  nameCheck := c_ref_NameCheck
  at_ := c_law_at
  rbare := c_ref_Bare
  bare := c_law_bare
  formula := c_law_formula
  word := c_ref_WordCheck
  named := c_law_named
  rAt := c_pref_Formula_At
  fold := c_pref_Formula_At_c1
  index := c_ref_index

theorem own : ownKnob Tryd.prog.godebug = none := by kernel_rfl
theorem laidOut : laidOutB Tryd.prog = true := by kernel_rfl
theorem walk {W : World} (x0 : Wd) (x1 : List St) (h0 : Wd.sizedS x0) (h1 : (∀ x ∈ x1, x.s.length < 140737488355328) ∧ x1.length < 140737488355328) {v0 : Value} {v1 : Value} (r0 : VRel E (Cx.start W) (x0.enc) v0) (r1 : VRel E (Cx.start W) (ST x1) v1) (hg : E.met W) : Calls Tryd.prog 3 #[v0, v1] W fun e w' => e = .returned (.bool true) ∧ Below W.heap.size W w' :=
  calls_law (args := [x0.enc, ST x1]) (vs := [v0, v1]) Tryd.func3 ((b_law_LassoHolds (x0.enc) (ST x1) ⟨[], 0⟩ _).mpr (LassoHolds_body bodies x0 h0 x1 h1 0)) (by simp only [LRel]; exact ⟨v0, _, rfl, r0, ⟨v1, _, rfl, r1, rfl⟩⟩) hg
theorem et : Tryd.prog.globalNamed "errors.errorType" = some 1 := by kernel_rfl
theorem rt : (Tryd.prog.cutTypes.find? (·.1 == "internal/reflectlite.rtype")).map (·.2) = some 111 := by kernel_rfl
theorem oneRow : ((List.range 159).filter fun t => Tryd.prog.rowNamed t [101, 114, 114, 111, 114]) = [34] := by kernel_rfl
theorem typesSize : Tryd.prog.types.size = 159 := by kernel_rfl
theorem handle_of_laid {W : World} (h : laidMetH Tryd.prog Rows.lassoHoldsRow.laid W) : W.cell? ⟨1, 0, none⟩ = some (.iface 111 (.agg #[.pointer (some ⟨5, 34, none⟩)])) := by
  have h' : laidMet Tryd.prog (Rows.lassoHoldsRow.laid.filter fun x => x.2.handleName?.isNone) W ∧ handlesMet Tryd.prog [("errors.errorType", Rows.laid_errors_errorType)] W := h
  obtain ⟨name, u, ty, e1, e2, e3, e4, e5⟩ := h'.2 _ (List.mem_singleton.2 rfl)
  have en : name = [101, 114, 114, 111, 114] := (Option.some.inj e1).symm
  subst en
  obtain rfl := Option.some.inj (rt.symm.trans e2)
  have hm : ty ∈ (List.range 159).filter fun t => Tryd.prog.rowNamed t [101, 114, 114, 111, 114] := List.mem_filter.2 ⟨List.mem_range.2 (by rw [← typesSize]; exact e3), e4⟩
  rw [oneRow] at hm
  obtain rfl := List.mem_singleton.1 hm
  have hh : typeHandle Tryd.prog 34 = .pointer (some ⟨5, 34, none⟩) := by kernel_rfl
  rw [hh] at e5
  simpa using World.var?_cell et e5 0
noncomputable def laidWorld (os : Os) : World :=
  let w0 := World.laidAll Tryd.prog os (Rows.lassoHoldsRow.laid.filter fun x => x.2.handleName?.isNone)
  { w0 with heap := (w0.heap.modify 1 fun
      | .cells _ t frozen => .cells #[.iface 111 (.agg #[.pointer (some ⟨5, 34, none⟩)])] t frozen
      | o => o) }
theorem laidWorld_met (os : Os) (args : Array Value) : laidMetH Tryd.prog Rows.lassoHoldsRow.laid ((laidWorld os).forCall (fun _ _ => 0) ⟨#[], args, []⟩).memory :=
  laidMetH_of_parts (laidMet_of_run' 8 (by kernel_rfl) (by kernel_rfl)) (by kernel_rfl)
theorem met {W : World} (h : laidMetH Tryd.prog Rows.lassoHoldsRow.laid W) : E.met W := fun g cs e => by
  by_cases hg0 : g = 3
  · subst hg0
    have e2 : some ([.val (.int .i64 (-1)), .val (.int .i64 0), .val (.int .i64 0), .val (.int .i64 1), .val (.int .i64 2), .val (.int .i64 2), .val (.int .i64 1), .val (.int .i64 2), .val (.int .i64 2), .val (.int .i64 1), .val (.int .i64 1)] : List AV) = some cs := e
    injection e2 with e2
    subst e2
    exact ⟨closed_Z [(-1), 0, 0, 1, 2, 2, 1, 2, 2, 1, 1], laid_ints (zs := [(-1), 0, 0, 1, 2, 2, 1, 2, 2, 1, 1]) h (.tail _ (.tail _ (.head _))) (show Tryd.prog.globalNamed "signalbox/lasso.arity" = some 0 by kernel_rfl) (show (Tryd.prog.globals[0]?).map (·.type) = some 89 by kernel_rfl) (m := 11) (e := 3) (by kernel_rfl) (by kernel_rfl) (by kernel_rfl) (by kernel_rfl)⟩
  by_cases hg1 : g = 4
  · subst hg1
    have e2 : some ([.val (.iface 111 (.agg #[.pointer (some ⟨5, 34, none⟩)]))] : List AV) = some cs := e
    injection e2 with e2
    subst e2
    have hc := handle_of_laid h
    refine ⟨by simp [AV.closedL, AV.closed], ?_⟩
    simp only [CRel, VRel, and_true]
    exact ⟨.inl (cell_spot hc).2, _, hc, rfl⟩
  have e2 : (if g = 3 then some ([.val (.int .i64 (-1)), .val (.int .i64 0), .val (.int .i64 0), .val (.int .i64 1), .val (.int .i64 2), .val (.int .i64 2), .val (.int .i64 1), .val (.int .i64 2), .val (.int .i64 2), .val (.int .i64 1), .val (.int .i64 1)] : List AV) else if g = 4 then some ([.val (.iface 111 (.agg #[.pointer (some ⟨5, 34, none⟩)]))] : List AV) else none) = some cs := e
  rw [if_neg hg0, if_neg hg1] at e2
  cases e2
theorem lifted (os : Os) (started : os.Started) (H : Type) (enc : TypeId × Value → H) :
    ReturnsInHanded {} Tryd.checked os 3 .any (fun w args => (Rows.lassoHoldsSpec.pre enc Tryd.prog Tryd.f3 [] false w args ∧ laidMetH Tryd.prog Rows.lassoHoldsRow.laid w) ∧ sizedMet enc Tryd.prog Tryd.f3 (OpenSpec.ofChange Rows.lassoHoldsSpec) false w args)
      (Rows.lassoHoldsSpec.post enc Tryd.prog Tryd.f3 false true false false) := by
  refine returnsInHanded_of_change_and (C := Tryd.checked) (X := fun w _ => laidMetH Tryd.prog Rows.lassoHoldsRow.laid w) (fun _ _ _ hh h => h.of_heap hh) own started (by kernel_rfl) Tryd.func3
    (ChangeSpec.witness_at (enc := enc) (C := Tryd.checked) (os := os) (X := fun w _ => laidMetH Tryd.prog Rows.lassoHoldsRow.laid w) false (laidWorld os) #[.agg #[.slice none 0 0, .slice none 0 0], .slice none 0 0] 8 rfl (by kernel_rfl) (by kernel_rfl) (by kernel_rfl) (by kernel_rfl) (by kernel_rfl) (laidWorld_met os _)) ?_
  intro W base args ds gs before hval0 hW _ hwt hL _
  have hval : ∀ (j : Nat) t v, Tryd.f3.params[j]? = some t → args[j]? = some v → Value.okWide Tryd.prog W .any base t v := hval0
  have hW' := hW
  obtain ⟨p, q, hA0, hV, rfl, hfz, hnd⟩ := hW
  have hA : DataW.TrodAll enc Tryd.prog W 0 (fun _ => true) true Tryd.f3.params.toList args.toList ds p := hA0
  rw [Tryd.params3] at hA hval
  obtain ⟨v0, vs0, d0, ds0, p0, q0, ha0, rfl, rfl, h0, r0⟩ := trodAll_cons hA
  obtain ⟨v1, vs1, d1, ds1, p1, q1, ha1, rfl, rfl, h1, r1⟩ := trodAll_cons r0
  obtain ⟨rfl, rfl, rfl⟩ := trodAll_nil r1
  obtain rfl : args = #[v0, v1] := by cases args; simp_all
  obtain ⟨rfl, rfl⟩ := trodVars_none hV
  have k0 := h0
  have lt0 : ∀ x ∈ p0, x.block < W.heap.size := by obtain ⟨m, hm⟩ := k0; exact DataW.trod_lt m _ _ _ hm
  obtain ⟨x0, g0, e0⟩ := (Dec.wordS Tryd.underlying9 Tryd.underlying51 Tryd.underlying22 Tryd.underlying22 Tryd.underlying24 ⟨rfl, (by kernel_rfl), (by kernel_rfl)⟩ ⟨(by kernel_rfl), (by kernel_rfl)⟩ ⟨(show 0 < Tryd.prog.bytesOf 9 by rw [show Tryd.prog.bytesOf 9 = 16 by kernel_rfl]; decide), (show 0 < Tryd.prog.bytesOf 51 by rw [show Tryd.prog.bytesOf 51 = 24 by kernel_rfl]; decide)⟩ : Dec enc Tryd.prog W E 24 _ _).arg_struct (by first | exact Tryd.underlying24 | kernel_rfl) (hval 0 24 v0 rfl rfl) h0 (Sized.of_each hwt (j := 0) rfl rfl)
  have k1 := h1
  have lt1 : ∀ x ∈ p1, x.block < W.heap.size := by obtain ⟨m, hm⟩ := k1; exact DataW.trod_lt m _ _ _ hm
  obtain ⟨x1, g1, e1⟩ := (Dec.stepsS Tryd.underlying3 Tryd.underlying3 Tryd.underlying3 Tryd.underlying9 Tryd.underlying49 Tryd.underlying25 ⟨rfl, (by kernel_rfl), (by kernel_rfl), (by kernel_rfl), (by kernel_rfl)⟩ (by kernel_rfl) (show 0 < Tryd.prog.bytesOf 49 by rw [show Tryd.prog.bytesOf 49 = 40 by kernel_rfl]; decide) : Dec enc Tryd.prog W E 25 _ _).arg_slice (by first | exact Tryd.underlying25 | kernel_rfl) (hval 1 25 v1 rfl rfl) h1 (Sized.of_each hwt (j := 1) rfl rfl)
  clear hA0 hval0
  refine (walk x0 x1 g0 g1 e0 e1 (met hL)).mono fun e W' ⟨he, bel⟩ => ?_
  subst he
  exact ⟨_, rfl, _, _, _, [], _, [], hW', trodAll_mk1 (shut_bool Tryd.underlying4 _), (trodAll_cons_mk (Below.trod laidOut (by kernel_rfl) (of_decide_eq_true (by kernel_rfl)) k0 bel lt0) (trodAll_cons_mk (Below.trod laidOut (by kernel_rfl) (of_decide_eq_true (by kernel_rfl)) k1 bel lt1) trodAll_mk0)), rfl, bel.frame _, fun h => by cases h⟩

theorem over : Rows.lassoHoldsRow.holds Tryd.pinned (OpenSpec.ofChange Rows.lassoHoldsSpec) :=
  OpenClaim.holds_of_wide 3 Tryd.f3 rfl rfl rfl rfl rfl rfl rfl ⟨rfl, rfl, rfl, rfl, rfl⟩ rfl rfl rfl rfl rfl (by kernel_rfl) Tryd.func3 (by kernel_rfl)
    (of_decide_eq_true (by kernel_rfl)) (by unfold Func.isWrapper; first | (rw [if_pos (by decide +kernel)]; kernel_rfl) | (rw [if_neg (by decide +kernel)]; exact ⟨rfl, rfl⟩))
    (fun os started H enc _ => lifted os started H enc)
theorem card : Rows.LassoHoldsCardSaid :=
  Claim7.holds_tied_plain_at .later [] [.data, .handle, .data, .pinned] true (true, "973d4d9cba772f496f85d5f23b486fa774ce22005dab3119df7c205bce41f9e7") true over (fun _ h => by cases h) (by kernel_rfl) (fun _ h => by cases h) lassoHolds_row_tie rfl ⟨rfl, rfl⟩ (by kernel_rfl) rfl
    (fun f fn hf hfn => by
      obtain rfl : f = 3 := Option.some.inj ((show Tryd.prog.funcNamed "signalbox/signalboxlaw.LassoHolds" = some 3 by kernel_rfl).symm.trans hf) |>.symm
      obtain rfl : fn = Tryd.f3 := (Option.some.inj (Tryd.func3.symm.trans hfn)).symm
      exact ⟨by kernel_rfl, fun j t ht => by
        rw [Tryd.params3] at ht
        have hm : t ∈ [24, 25] := by simpa using Array.mem_of_getElem? ht
        have hall : ([24, 25].all fun u => !Tryd.prog.wantsStandIn u) = true := by kernel_rfl
        exact (show Tryd.prog.wantsStandIn t = false by simpa using List.all_eq_true.1 hall t hm)⟩)
    (by kernel_rfl)
end Go.Proofs.YtdhcpnachceklaaDoor.lassoHolds
namespace Go.Proofs.YtdhcpnachceklaaDoor
theorem lassoHolds_holds : Rows.LassoHoldsCardSaid := lassoHolds.card
#print axioms lassoHolds_holds
end Go.Proofs.YtdhcpnachceklaaDoor
