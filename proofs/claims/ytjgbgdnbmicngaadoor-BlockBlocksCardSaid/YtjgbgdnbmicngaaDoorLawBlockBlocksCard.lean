/-
  BlockBlocks: which states are alike, and the table of blocks, is found by marking pairs, round by round: the row, and the card, out of the contracts.
-/
import Derived.Test.YtjgbgdnbmicngaaDoorCards
import Derived.Test.YtjgbgdnbmicngaaDoorTie
import Derived.Test.YtjgbgdnbmicngaaDoorScX4
import Derived.Test.YtjgbgdnbmicngaaDoorScR5
import Derived.Test.YtjgbgdnbmicngaaDoorScTellBlockBlocks
import Derived.Test.YtjgbgdnbmicngaaDoorScR2
import Derived.Test.YtjgbgdnbmicngaaDoorScR6
import Derived.Test.YtjgbgdnbmicngaaDoorScS5
import Derived.WalkKit
import Derived.ProofKit
import Derived.OpenShut
import Derived.ShutString
import Derived.ChangeOld
import Derived.Below
import Derived.SizedLaws
import Derived.Lay
import Derived.LaidOnce
import Derived.LaidHandle
import Derived.SevenTiedAt
namespace Go.Proofs.YtjgbgdnbmicngaaDoor.blockBlocks
open Go.Sc Go.ChangeShapes Go.WideShapes Go.ChangeAt Go.RowKit
set_option linter.unusedVariables false
set_option maxRecDepth 100000
theorem blockB : BlockBodies E Tryd.prog where
  eq := c_slices_Equal_Lint_int
  ixi := c_slices_IndexFunc_Lint_int
  ixr := c_slices_IndexFunc_LLint_Lint
  con := c_slices_ContainsFunc_Lint_int
  clone := c_slices_Clone_Lint_int
  check := c_block_Check
  check1 := c_block_Check_c1
  number := c_block_number
  number1 := c_block_number_c1
  rounds := c_block_rounds
  blocks := c_block_Blocks
theorem tellB (e : Int) : FX E Tryd.prog 53 [Er e] (Z e) :=
  FX.tell (g := 4) (X := 26) (fn := Tryd.f24) Tryd.func24 (by kernel_rfl) (by kernel_rfl) rfl rfl tell_nil (fun z w h => tell_hit z w h) e
theorem tellAtB (e p : Int) : FX E Tryd.prog 53 [At e p] (Z e) :=
  FX.tellAt (g := 4) (T := 50) (fn := Tryd.f24) Tryd.func24 (by kernel_rfl) (by kernel_rfl) rfl rfl (fun z p w hg hp => tell_at z p w hg hp) e p
theorem placeB : PlaceBodies E Tryd.prog where
  place := c_plain_Place
  tell := tellB
  tellAt := tellAtB
  noUnwrap := HasM.of (by kernel_rfl)
theorem apartB : ApartBodies E Tryd.prog where
  apart := c_ref_Table_apart
  blocks := c_ref_Table_Blocks
theorem tabB : TabBodies E Tryd.prog where
  p := placeB
  at_ := c_law_at
  within := c_ref_within
  bare := c_ref_Bare
  check := c_ref_TableCheck
  fine := rfl
  tables := c_law_tables
  a := apartB
  sameInts := c_law_sameInts
theorem bodies : BlocksBodies E Tryd.prog where
  b := blockB
  t := tabB
  least := c_block_Least
  rLeast := c_ref_Table_Least
  sameLists := c_law_sameLists

theorem own : ownKnob Tryd.prog.godebug = none := by kernel_rfl
theorem laidOut : laidOutB Tryd.prog = true := by kernel_rfl
theorem walk {W : World} (x0 : Table) (h0 : Table.sized x0) {v0 : Value} (r0 : VRel E (Cx.start W) (Tb x0) v0) (hg : E.met W) : Calls Tryd.prog 3 #[v0] W fun e w' => e = .returned (.bool true) ∧ Below W.heap.size W w' :=
  calls_law (args := [Tb x0]) (vs := [v0]) Tryd.func3 ((b_law_BlockBlocks (Tb x0) ⟨[], 0⟩ _).mpr (BlockBlocks_body bodies x0 h0 0)) (by simp only [LRel]; exact ⟨v0, _, rfl, r0, rfl⟩) hg
theorem et : Tryd.prog.globalNamed "errors.errorType" = some 1 := by kernel_rfl
theorem rt : (Tryd.prog.cutTypes.find? (·.1 == "internal/reflectlite.rtype")).map (·.2) = some 82 := by kernel_rfl
theorem oneRow : ((List.range 123).filter fun t => Tryd.prog.rowNamed t [101, 114, 114, 111, 114]) = [33] := by kernel_rfl
theorem typesSize : Tryd.prog.types.size = 123 := by kernel_rfl
theorem handle_of_laid {W : World} (h : laidMetH Tryd.prog Rows.blockBlocksRow.laid W) : W.cell? ⟨1, 0, none⟩ = some (.iface 82 (.agg #[.pointer (some ⟨2, 33, none⟩)])) := by
  have h' : laidMet Tryd.prog (Rows.blockBlocksRow.laid.filter fun x => x.2.handleName?.isNone) W ∧ handlesMet Tryd.prog [("errors.errorType", Rows.laid_errors_errorType)] W := h
  obtain ⟨name, u, ty, e1, e2, e3, e4, e5⟩ := h'.2 _ (List.mem_singleton.2 rfl)
  have en : name = [101, 114, 114, 111, 114] := (Option.some.inj e1).symm
  subst en
  obtain rfl := Option.some.inj (rt.symm.trans e2)
  have hm : ty ∈ (List.range 123).filter fun t => Tryd.prog.rowNamed t [101, 114, 114, 111, 114] := List.mem_filter.2 ⟨List.mem_range.2 (by rw [← typesSize]; exact e3), e4⟩
  rw [oneRow] at hm
  obtain rfl := List.mem_singleton.1 hm
  have hh : typeHandle Tryd.prog 33 = .pointer (some ⟨2, 33, none⟩) := by kernel_rfl
  rw [hh] at e5
  simpa using World.var?_cell et e5 0
noncomputable def laidWorld (os : Os) : World :=
  let w0 := World.holding Tryd.prog os ⟨#[], #[], []⟩
  { w0 with heap := (w0.heap.modify 1 fun
      | .cells _ t frozen => .cells #[.iface 82 (.agg #[.pointer (some ⟨2, 33, none⟩)])] t frozen
      | o => o) |>.modify 0 fun
      | .cells _ t frozen => .cells #[.int .i64 0, .int .i64 (-1)] t frozen
      | o => o }
theorem laidWorld_met (os : Os) (args : Array Value) : laidMetH Tryd.prog Rows.blockBlocksRow.laid ((laidWorld os).forCall (fun _ _ => 0) ⟨#[], args, []⟩).memory :=
  laidMetH_of_parts (laidMet_of_run' 8 (by kernel_rfl) (by kernel_rfl)) (by kernel_rfl)
theorem met {W : World} (h : laidMetH Tryd.prog Rows.blockBlocksRow.laid W) : E.met W := fun g cs e => by
  by_cases hg0 : g = 5
  · subst hg0
    have e2 : some ([.val (.int .i64 0), .val (.int .i64 (-1))] : List AV) = some cs := e
    injection e2 with e2
    subst e2
    exact ⟨by simp [AV.closedL, AV.closed], laid_struct2 (a := 0) (b := (-1)) h (.tail _ (.head _)) (show Tryd.prog.globalNamed "signalbox/signalboxref.Fine" = some 0 by kernel_rfl) (show (Tryd.prog.globals[0]?).map (·.type) = some 28 by kernel_rfl) Tryd.underlying28 (by kernel_rfl) (by kernel_rfl) rfl rfl (by kernel_rfl) (by kernel_rfl)⟩
  by_cases hg1 : g = 4
  · subst hg1
    have e2 : some ([.val (.iface 82 (.agg #[.pointer (some ⟨2, 33, none⟩)]))] : List AV) = some cs := e
    injection e2 with e2
    subst e2
    have hc := handle_of_laid h
    refine ⟨by simp [AV.closedL, AV.closed], ?_⟩
    simp only [CRel, VRel, and_true]
    exact ⟨.inl (cell_spot hc).2, _, hc, rfl⟩
  have e2 : (if g = 5 then some ([.val (.int .i64 0), .val (.int .i64 (-1))] : List AV) else if g = 4 then some ([.val (.iface 82 (.agg #[.pointer (some ⟨2, 33, none⟩)]))] : List AV) else none) = some cs := e
  rw [if_neg hg0, if_neg hg1] at e2
  cases e2
theorem lifted (os : Os) (started : os.Started) (H : Type) (enc : TypeId × Value → H) :
    ReturnsInHanded {} Tryd.checked os 3 .any (fun w args => (Rows.blockBlocksSpec.pre enc Tryd.prog Tryd.f3 [] false w args ∧ laidMetH Tryd.prog Rows.blockBlocksRow.laid w) ∧ sizedMet enc Tryd.prog Tryd.f3 (OpenSpec.ofChange Rows.blockBlocksSpec) false w args)
      (Rows.blockBlocksSpec.post enc Tryd.prog Tryd.f3 false true false false) := by
  refine returnsInHanded_of_change_and (C := Tryd.checked) (X := fun w _ => laidMetH Tryd.prog Rows.blockBlocksRow.laid w) (fun _ _ _ hh h => h.of_heap hh) own started (by kernel_rfl) Tryd.func3
    (ChangeSpec.witness_at (enc := enc) (C := Tryd.checked) (os := os) (X := fun w _ => laidMetH Tryd.prog Rows.blockBlocksRow.laid w) false (laidWorld os) #[.agg #[.slice none 0 0, .slice none 0 0]] 8 rfl (by kernel_rfl) (by kernel_rfl) (by kernel_rfl) (by kernel_rfl) (by kernel_rfl) (laidWorld_met os _)) ?_
  intro W base args ds gs before hval0 hW _ hwt hL _
  have hval : ∀ (j : Nat) t v, Tryd.f3.params[j]? = some t → args[j]? = some v → Value.okWide Tryd.prog W .any base t v := hval0
  have hW' := hW
  obtain ⟨p, q, hA0, hV, rfl, hfz, hnd⟩ := hW
  have hA : DataW.TrodAll enc Tryd.prog W 0 (fun _ => true) true Tryd.f3.params.toList args.toList ds p := hA0
  rw [Tryd.params3] at hA hval
  obtain ⟨v0, vs0, d0, ds0, p0, q0, ha0, rfl, rfl, h0, r0⟩ := trodAll_cons hA
  obtain ⟨rfl, rfl, rfl⟩ := trodAll_nil r0
  obtain rfl : args = #[v0] := by cases args; simp_all
  obtain ⟨rfl, rfl⟩ := trodVars_none hV
  have k0 := h0
  have lt0 : ∀ x ∈ p0, x.block < W.heap.size := by obtain ⟨m, hm⟩ := k0; exact DataW.trod_lt m _ _ _ hm
  obtain ⟨x0, g0, e0⟩ := (Dec.table Tryd.underlying3 Tryd.underlying31 Tryd.underlying22 Tryd.underlying22 Tryd.underlying24 ⟨rfl, (by kernel_rfl), (by kernel_rfl)⟩ ⟨(by kernel_rfl), (by kernel_rfl)⟩ ⟨(show 0 < Tryd.prog.bytesOf 3 by rw [show Tryd.prog.bytesOf 3 = 8 by kernel_rfl]; decide), (show 0 < Tryd.prog.bytesOf 31 by rw [show Tryd.prog.bytesOf 31 = 24 by kernel_rfl]; decide)⟩ : Dec enc Tryd.prog W E 24 _ _).arg_struct (by first | exact Tryd.underlying24 | kernel_rfl) (hval 0 24 v0 rfl rfl) h0 (Sized.of_each hwt (j := 0) rfl rfl)
  clear hA0 hval0
  refine (walk x0 g0 e0 (met hL)).mono fun e W' ⟨he, bel⟩ => ?_
  subst he
  exact ⟨_, rfl, _, _, _, [], _, [], hW', trodAll_mk1 (shut_bool Tryd.underlying4 _), (trodAll_cons_mk (Below.trod laidOut (by kernel_rfl) (of_decide_eq_true (by kernel_rfl)) k0 bel lt0) trodAll_mk0), rfl, bel.frame _, fun h => by cases h⟩

theorem over : Rows.blockBlocksRow.holds Tryd.pinned (OpenSpec.ofChange Rows.blockBlocksSpec) :=
  OpenClaim.holds_of_wide 3 Tryd.f3 rfl rfl rfl rfl rfl rfl rfl ⟨rfl, rfl, rfl, rfl, rfl⟩ rfl rfl rfl rfl rfl (by kernel_rfl) Tryd.func3 (by kernel_rfl)
    (of_decide_eq_true (by kernel_rfl)) (by unfold Func.isWrapper; first | (rw [if_pos (by decide +kernel)]; kernel_rfl) | (rw [if_neg (by decide +kernel)]; exact ⟨rfl, rfl⟩))
    (fun os started H enc _ => lifted os started H enc)
theorem card : Rows.BlockBlocksCardSaid :=
  Claim7.holds_tied_plain_at .later [] [.handle, .data] true (true, "c680622edcc09a60a3d0e797b98c04c9ed20376d6a9787a886c3f0b6d0d103ec") true over (fun _ h => by cases h) (by kernel_rfl) (fun _ h => by cases h) blockBlocks_row_tie rfl ⟨rfl, rfl⟩ (by kernel_rfl) rfl
    (fun f fn hf hfn => by
      obtain rfl : f = 3 := Option.some.inj ((show Tryd.prog.funcNamed "signalbox/signalboxlaw.BlockBlocks" = some 3 by kernel_rfl).symm.trans hf) |>.symm
      obtain rfl : fn = Tryd.f3 := (Option.some.inj (Tryd.func3.symm.trans hfn)).symm
      exact ⟨by kernel_rfl, fun j t ht => by
        rw [Tryd.params3] at ht
        have hm : t ∈ [24] := by simpa using Array.mem_of_getElem? ht
        have hall : ([24].all fun u => !Tryd.prog.wantsStandIn u) = true := by kernel_rfl
        exact (show Tryd.prog.wantsStandIn t = false by simpa using List.all_eq_true.1 hall t hm)⟩)
    (by kernel_rfl)
end Go.Proofs.YtjgbgdnbmicngaaDoor.blockBlocks
namespace Go.Proofs.YtjgbgdnbmicngaaDoor
theorem blockBlocks_holds : Rows.BlockBlocksCardSaid := blockBlocks.card
#print axioms blockBlocks_holds
end Go.Proofs.YtjgbgdnbmicngaaDoor
