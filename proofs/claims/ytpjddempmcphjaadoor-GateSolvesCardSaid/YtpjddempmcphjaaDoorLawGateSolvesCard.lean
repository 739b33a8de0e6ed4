/-
  GateSolves: the first values of which all clauses hold are found by trying all; clauses that may not be are told: the row, and the card, out of the contracts.
-/
import Derived.Test.YtpjddempmcphjaaDoorCards
import Derived.Test.YtpjddempmcphjaaDoorCore10
import Derived.Test.YtpjddempmcphjaaDoorTie
import Derived.WalkKit
import Derived.ProofKit
import Derived.OpenShut
import Derived.ShutString
import Derived.ChangeOld
import Derived.Below
import Derived.SizedLaws
import Derived.Lay
import Derived.LaidOnce
import Derived.LaidHandle
import Derived.SevenTiedAt
namespace Go.Proofs.YtpjddempmcphjaaDoor.gateSolves
open Go.Sc Go.ChangeShapes Go.WideShapes Go.ChangeAt Go.RowKit
set_option linter.unusedVariables false
set_option maxRecDepth 100000
theorem tellB (e : Int) : FX E Tryd.prog 53 [Er e] (Z e) :=
  FX.tell (g := 4) (X := 24) (fn := Tryd.f22) Tryd.func22 (by kernel_rfl) (by kernel_rfl) rfl rfl tell_nil (fun z w h => tell_hit z w h) e
theorem tellAtB (e p : Int) : FX E Tryd.prog 53 [At e p] (Z e) :=
  FX.tellAt (g := 4) (T := 54) (fn := Tryd.f22) Tryd.func22 (by kernel_rfl) (by kernel_rfl) rfl rfl (fun z p w hg hp => tell_at z p w hg hp) e p
theorem placeB : PlaceBodies E Tryd.prog where
  place := c_plain_Place
  tell := tellB
  tellAt := tellAtB
  noUnwrap := HasM.of (by kernel_rfl)
theorem solverB : SolverBodies E Tryd.prog where
  search := c_pgate_solver_search
  spread := c_pgate_solver_spread
  back := c_pgate_solver_back
  index := c_slices_Index_Lint_int
  set := c_pgate_solver_set
  is := c_pgate_solver_is
theorem gateB : GateBodies E Tryd.prog where
  s := solverB
  con := c_slices_ContainsFunc_Lint_int
  ixi := c_slices_IndexFunc_Lint_int
  check := c_gate_Check
  check1 := c_gate_Check_c1
  solve := c_gate_Solve
  rcheck := c_ref_GateCheck
  within := c_ref_within
  rbare := c_ref_Bare
  fine := rfl
  rsolve := c_ref_GateSolve
  rsolve1 := c_ref_GateSolve_c1
  sameBools := c_law_sameBools
theorem bodies : GateSolvesBodies E Tryd.prog where
  g := gateB
  p := placeB
  at_ := c_law_at
  bare := c_law_bare

theorem own : ownKnob Tryd.prog.godebug = none := by kernel_rfl
theorem laidOut : laidOutB Tryd.prog = true := by kernel_rfl
theorem walk {W : World} (x0 : Int) (x1 : List (List Int)) (h1 : (∀ x ∈ x1, x.length < 140737488355328) ∧ x1.length < 140737488355328) {v0 : Value} {v1 : Value} (r0 : VRel E (Cx.start W) (Z x0) v0) (r1 : VRel E (Cx.start W) (LLI x1) v1) (hg : E.met W) : Calls Tryd.prog 3 #[v0, v1] W fun e w' => e = .returned (.bool true) ∧ Below W.heap.size W w' :=
  calls_law (args := [Z x0, LLI x1]) (vs := [v0, v1]) Tryd.func3 ((b_law_GateSolves (Z x0) (LLI x1) ⟨[], 0⟩ _).mpr (GateSolves_body bodies x0 x1 h1.2 h1.1 0)) (by simp only [LRel]; exact ⟨v0, _, rfl, r0, ⟨v1, _, rfl, r1, rfl⟩⟩) hg
theorem et : Tryd.prog.globalNamed "errors.errorType" = some 1 := by kernel_rfl
theorem rt : (Tryd.prog.cutTypes.find? (·.1 == "internal/reflectlite.rtype")).map (·.2) = some 81 := by kernel_rfl
theorem oneRow : ((List.range 122).filter fun t => Tryd.prog.rowNamed t [101, 114, 114, 111, 114]) = [33] := by kernel_rfl
theorem typesSize : Tryd.prog.types.size = 122 := by kernel_rfl
theorem handle_of_laid {W : World} (h : laidMetH Tryd.prog Rows.gateSolvesRow.laid W) : W.cell? ⟨1, 0, none⟩ = some (.iface 81 (.agg #[.pointer (some ⟨2, 33, none⟩)])) := by
  have h' : laidMet Tryd.prog (Rows.gateSolvesRow.laid.filter fun x => x.2.handleName?.isNone) W ∧ handlesMet Tryd.prog [("errors.errorType", Rows.laid_errors_errorType)] W := h
  obtain ⟨name, u, ty, e1, e2, e3, e4, e5⟩ := h'.2 _ (List.mem_singleton.2 rfl)
  have en : name = [101, 114, 114, 111, 114] := (Option.some.inj e1).symm
  subst en
  obtain rfl := Option.some.inj (rt.symm.trans e2)
  have hm : ty ∈ (List.range 122).filter fun t => Tryd.prog.rowNamed t [101, 114, 114, 111, 114] := List.mem_filter.2 ⟨List.mem_range.2 (by rw [← typesSize]; exact e3), e4⟩
  rw [oneRow] at hm
  obtain rfl := List.mem_singleton.1 hm
  have hh : typeHandle Tryd.prog 33 = .pointer (some ⟨2, 33, none⟩) := by kernel_rfl
  rw [hh] at e5
  simpa using World.var?_cell et e5 0
noncomputable def laidWorld (os : Os) : World :=
  let w0 := World.holding Tryd.prog os ⟨#[], #[], []⟩
  { w0 with heap := (w0.heap.modify 1 fun
      | .cells _ t frozen => .cells #[.iface 81 (.agg #[.pointer (some ⟨2, 33, none⟩)])] t frozen
      | o => o) |>.modify 0 fun
      | .cells _ t frozen => .cells #[.int .i64 0, .int .i64 (-1)] t frozen
      | o => o }
theorem laidWorld_met (os : Os) (args : Array Value) : laidMetH Tryd.prog Rows.gateSolvesRow.laid ((laidWorld os).forCall (fun _ _ => 0) ⟨#[], args, []⟩).memory :=
  laidMetH_of_parts (laidMet_of_run' 8 (by kernel_rfl) (by kernel_rfl)) (by kernel_rfl)
theorem met {W : World} (h : laidMetH Tryd.prog Rows.gateSolvesRow.laid W) : E.met W := fun g cs e => by
  by_cases hg0 : g = 5
  · subst hg0
    have e2 : some ([.val (.int .i64 0), .val (.int .i64 (-1))] : List AV) = some cs := e
    injection e2 with e2
    subst e2
    exact ⟨by simp [AV.closedL, AV.closed], laid_struct2 (a := 0) (b := (-1)) h (.tail _ (.head _)) (show Tryd.prog.globalNamed "signalbox/signalboxref.Fine" = some 0 by kernel_rfl) (show (Tryd.prog.globals[0]?).map (·.type) = some 26 by kernel_rfl) Tryd.underlying26 (by kernel_rfl) (by kernel_rfl) rfl rfl (by kernel_rfl) (by kernel_rfl)⟩
  by_cases hg1 : g = 4
  · subst hg1
    have e2 : some ([.val (.iface 81 (.agg #[.pointer (some ⟨2, 33, none⟩)]))] : List AV) = some cs := e
    injection e2 with e2
    subst e2
    have hc := handle_of_laid h
    refine ⟨by simp [AV.closedL, AV.closed], ?_⟩
    simp only [CRel, VRel, and_true]
    exact ⟨.inl (cell_spot hc).2, _, hc, rfl⟩
  have e2 : (if g = 5 then some ([.val (.int .i64 0), .val (.int .i64 (-1))] : List AV) else if g = 4 then some ([.val (.iface 81 (.agg #[.pointer (some ⟨2, 33, none⟩)]))] : List AV) else none) = some cs := e
  rw [if_neg hg0, if_neg hg1] at e2
  cases e2
theorem lifted (os : Os) (started : os.Started) (H : Type) (enc : TypeId × Value → H) :
    ReturnsInHanded {} Tryd.checked os 3 .any (fun w args => (Rows.gateSolvesSpec.pre enc Tryd.prog Tryd.f3 [] false w args ∧ laidMetH Tryd.prog Rows.gateSolvesRow.laid w) ∧ sizedMet enc Tryd.prog Tryd.f3 (OpenSpec.ofChange Rows.gateSolvesSpec) false w args)
      (Rows.gateSolvesSpec.post enc Tryd.prog Tryd.f3 false true false false) := by
  refine returnsInHanded_of_change_and (C := Tryd.checked) (X := fun w _ => laidMetH Tryd.prog Rows.gateSolvesRow.laid w) (fun _ _ _ hh h => h.of_heap hh) own started (by kernel_rfl) Tryd.func3
    (ChangeSpec.witness_at (enc := enc) (C := Tryd.checked) (os := os) (X := fun w _ => laidMetH Tryd.prog Rows.gateSolvesRow.laid w) false (laidWorld os) #[.int .i64 0, .slice none 0 0] 8 rfl (by kernel_rfl) (by kernel_rfl) (by kernel_rfl) (by kernel_rfl) (by kernel_rfl) (laidWorld_met os _)) ?_
  intro W base args ds gs before hval0 hW _ hwt hL _
  have hval : ∀ (j : Nat) t v, Tryd.f3.params[j]? = some t → args[j]? = some v → Value.okWide Tryd.prog W .any base t v := hval0
  have hW' := hW
  obtain ⟨p, q, hA0, hV, rfl, hfz, hnd⟩ := hW
  have hA : DataW.TrodAll enc Tryd.prog W 0 (fun _ => true) true Tryd.f3.params.toList args.toList ds p := hA0
  rw [Tryd.params3] at hA hval
  obtain ⟨v0, vs0, d0, ds0, p0, q0, ha0, rfl, rfl, h0, r0⟩ := trodAll_cons hA
  obtain ⟨v1, vs1, d1, ds1, p1, q1, ha1, rfl, rfl, h1, r1⟩ := trodAll_cons r0
  obtain ⟨rfl, rfl, rfl⟩ := trodAll_nil r1
  obtain rfl : args = #[v0, v1] := by cases args; simp_all
  obtain ⟨rfl, rfl⟩ := trodVars_none hV
  have k0 := h0
  have lt0 : ∀ x ∈ p0, x.block < W.heap.size := by obtain ⟨m, hm⟩ := k0; exact DataW.trod_lt m _ _ _ hm
  obtain ⟨x0, g0, e0⟩ := (Dec.i64 Tryd.underlying3 : Dec enc Tryd.prog W E 3 _ _).arg_i64 (by first | exact Tryd.underlying3 | kernel_rfl) (hval 0 3 v0 rfl rfl) h0 (Sized.of_each hwt (j := 0) rfl rfl)
  have k1 := h1
  have lt1 : ∀ x ∈ p1, x.block < W.heap.size := by obtain ⟨m, hm⟩ := k1; exact DataW.trod_lt m _ _ _ hm
  obtain ⟨x1, g1, e1⟩ := (Dec.intss Tryd.underlying3 Tryd.underlying23 Tryd.underlying22 ⟨(by kernel_rfl), (by kernel_rfl)⟩ ⟨(show 0 < Tryd.prog.bytesOf 3 by rw [show Tryd.prog.bytesOf 3 = 8 by kernel_rfl]; decide), (show 0 < Tryd.prog.bytesOf 23 by rw [show Tryd.prog.bytesOf 23 = 24 by kernel_rfl]; decide)⟩ : Dec enc Tryd.prog W E 22 _ _).arg_slice (by first | exact Tryd.underlying22 | kernel_rfl) (hval 1 22 v1 rfl rfl) h1 (Sized.of_each hwt (j := 1) rfl rfl)
  clear hA0 hval0
  refine (walk x0 x1 g1 e0 e1 (met hL)).mono fun e W' ⟨he, bel⟩ => ?_
  subst he
  exact ⟨_, rfl, _, _, _, [], _, [], hW', trodAll_mk1 (shut_bool Tryd.underlying4 _), (trodAll_cons_mk (Below.trod laidOut (by kernel_rfl) (of_decide_eq_true (by kernel_rfl)) k0 bel lt0) (trodAll_cons_mk (Below.trod laidOut (by kernel_rfl) (of_decide_eq_true (by kernel_rfl)) k1 bel lt1) trodAll_mk0)), rfl, bel.frame _, fun h => by cases h⟩

theorem over : Rows.gateSolvesRow.holds Tryd.pinned (OpenSpec.ofChange Rows.gateSolvesSpec) :=
  OpenClaim.holds_of_wide 3 Tryd.f3 rfl rfl rfl rfl rfl rfl rfl ⟨rfl, rfl, rfl, rfl, rfl⟩ rfl rfl rfl rfl rfl (by kernel_rfl) Tryd.func3 (by kernel_rfl)
    (of_decide_eq_true (by kernel_rfl)) (by unfold Func.isWrapper; first | (rw [if_pos (by decide +kernel)]; kernel_rfl) | (rw [if_neg (by decide +kernel)]; exact ⟨rfl, rfl⟩))
    (fun os started H enc _ => lifted os started H enc)
theorem card : Rows.GateSolvesCardSaid :=
  Claim7.holds_tied_plain_at .later [] [.handle, .data] true (true, "07c91cbf67823fcab2e47b021b3cdad10cb9d8f9ff1b575cdfefd3d5e6ce0644") true over (fun _ h => by cases h) (by kernel_rfl) (fun _ h => by cases h) gateSolves_row_tie rfl ⟨rfl, rfl⟩ (by kernel_rfl) rfl
    (fun f fn hf hfn => by
      obtain rfl : f = 3 := Option.some.inj ((show Tryd.prog.funcNamed "signalbox/signalboxlaw.GateSolves" = some 3 by kernel_rfl).symm.trans hf) |>.symm
      obtain rfl : fn = Tryd.f3 := (Option.some.inj (Tryd.func3.symm.trans hfn)).symm
      exact ⟨by kernel_rfl, fun j t ht => by
        rw [Tryd.params3] at ht
        have hm : t ∈ [3, 22] := by simpa using Array.mem_of_getElem? ht
        have hall : ([3, 22].all fun u => !Tryd.prog.wantsStandIn u) = true := by kernel_rfl
        exact (show Tryd.prog.wantsStandIn t = false by simpa using List.all_eq_true.1 hall t hm)⟩)
    (by kernel_rfl)
end Go.Proofs.YtpjddempmcphjaaDoor.gateSolves
namespace Go.Proofs.YtpjddempmcphjaaDoor
theorem gateSolves_holds : Rows.GateSolvesCardSaid := gateSolves.card
#print axioms gateSolves_holds
end Go.Proofs.YtpjddempmcphjaaDoor
