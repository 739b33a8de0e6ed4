/-
  CoverShows: each pair shows its name: alone it decides there; and a name without a pair never makes a difference: the row, and the card, out of the contracts.
-/
import Derived.Test.YtfhfojojchkmbaaDoorCards
import Derived.Test.YtfhfojojchkmbaaDoorCore9
import Derived.Test.YtfhfojojchkmbaaDoorTie
import Derived.WalkKit
import Derived.ProofKit
import Derived.OpenShut
import Derived.ShutString
import Derived.ChangeOld
import Derived.Below
import Derived.SizedLaws
import Derived.Lay
import Derived.LaidOnce
import Derived.LaidHandle
import Derived.SevenTiedAt
namespace Go.Proofs.YtfhfojojchkmbaaDoor.coverShows
open Go.Sc Go.ChangeShapes Go.WideShapes Go.ChangeAt Go.RowKit
set_option linter.unusedVariables false
set_option maxRecDepth 100000

theorem own : ownKnob Tryd.prog.godebug = none := by kernel_rfl
theorem laidOut : laidOutB Tryd.prog = true := by kernel_rfl
section
variable [Inhabited Mx]
theorem nameB : NameBodies E Tryd.prog where
  t := {
    trim := c_strings_Trim
    rb := c_strings_trimRightByte
    lb := c_strings_trimLeftByte
    mkSet := c_strings_makeASCIISet
    ra := c_strings_trimRightASCII
    la := c_strings_trimLeftASCII
    has := c_pstrings_asciiSet_contains }
  name := c_expr_Name
  contains := c_slices_Contains_Lstring_string
  index := c_slices_Index_Lstring_string
theorem runeB : RuneBodies E Tryd.prog where
  ib := ixB
  ir := c_strings_IndexRune_ScV11
  cr := c_strings_ContainsRune
  vr := c_unicode_utf8_ValidRune
theorem readB : ReadBodies E Tryd.prog where
  n := nameB
  r := runeB
  blanks := c_pexpr_reader_blanks
  fail := c_pexpr_reader_fail
  take := c_pexpr_reader_take
  word := c_pexpr_reader_word
theorem parseB : ParseBodies E Tryd.prog where
  d := readB
  several := c_pexpr_reader_several
  or := c_pexpr_reader_or
  and := c_pexpr_reader_and
  one := c_pexpr_reader_one
  parse := c_expr_Parse
theorem evalB : EvalBodies E Tryd.prog where
  among := c_keep_among
  among1 := c_keep_among_c1
  eval := c_expr_Eval
  eval1 := c_expr_Eval_c1
  eval2 := c_expr_Eval_c2
  conA := c_slices_ContainsFunc_expr_And_expr_Expr
  conO := c_slices_ContainsFunc_expr_Or_expr_Expr
  ixA := c_slices_IndexFunc_expr_And_expr_Expr
  ixO := c_slices_IndexFunc_expr_Or_expr_Expr
theorem sortedB : SortedBodies E Tryd.prog where
  walk := c_expr_walk
  sorted := c_expr_sorted
  sorted1 := c_expr_sorted_c1
  names := c_expr_Names
  names1 := c_expr_Names_c1
  edges := c_expr_Edges
  edges1 := c_expr_Edges_c1
  sortN := sortNB
  sortC := fun hl hb => sortCB hl hb
  compN := compNB
  compC := fun hl hb => compCB hl hb
theorem coverB : CoverBodies E Tryd.prog where
  ev := evalB.toEvalBodies0
  s := sortedB
  index := c_slices_Index_Lstring_string
  pairs := c_cover_Pairs
  pairs1 := c_cover_Pairs_c1
  pairs2 := c_cover_Pairs_c1_c1
theorem bodies : ShowsBodies E Tryd.prog where
  p := parseB
  e := evalB
  c := coverB
  shows1 := c_keep_CoverShows_c1
  covered := c_keep_covered
  pick := c_keep_pick
theorem walk {W : World} (x0 : Str) (x1 : Nat) (x2 : Int) (h1 : x1 < 2 ^ 64) {v0 : Value} {v1 : Value} {v2 : Value} (r0 : VRel E (Cx.start W) (S x0) v0) (r1 : VRel E (Cx.start W) (U x1) v1) (r2 : VRel E (Cx.start W) (Z x2) v2) (hg : E.met W) : Calls Tryd.prog 3 #[v0, v1, v2] W fun e w' => e = .returned (.bool true) ∧ Below W.heap.size W w' :=
  calls_law (args := [S x0, U x1, Z x2]) (vs := [v0, v1, v2]) Tryd.func3 ((b_keep_CoverShows (S x0) (U x1) (Z x2) ⟨[], 0⟩ _).mpr (CoverShows_body bodies x0 x1 h1 x2 0)) (by simp only [LRel]; exact ⟨v0, _, rfl, r0, ⟨v1, _, rfl, r1, ⟨v2, _, rfl, r2, rfl⟩⟩⟩) hg
theorem met {W : World} (h : laidMetH Tryd.prog Rows.coverShowsRow.laid W) (hmx : W.cell? ⟨0, 0, none⟩ = some (.int .i64 (default : Mx).v)) : E.met W := fun g cs e => by
  by_cases hg0 : g = 6
  · subst hg0
    have e2 : some ([.val (.int .i64 (default : Mx).v)] : List AV) = some cs := e
    injection e2 with e2
    subst e2
    refine ⟨by simp [AV.closedL, AV.closed], ?_⟩
    simp only [CRel, VRel, and_true]
    exact ⟨.inl (cell_spot hmx).2, _, hmx, rfl⟩
  have e2 : (if g = 6 then some ([.val (.int .i64 (default : Mx).v)] : List AV) else none) = some cs := e
  rw [if_neg hg0] at e2
  cases e2
end
theorem lifted (os : Os) (started : os.Started) (H : Type) (enc : TypeId × Value → H) :
    ReturnsInHanded {} Tryd.checked os 3 .any (fun w args => (Rows.coverShowsSpec.pre enc Tryd.prog Tryd.f3 [] false w args ∧ laidMetH Tryd.prog Rows.coverShowsRow.laid w) ∧ sizedMet enc Tryd.prog Tryd.f3 (OpenSpec.ofChange Rows.coverShowsSpec) false w args)
      (Rows.coverShowsSpec.post enc Tryd.prog Tryd.f3 false true false false) := by
  refine handed_shaped (C := Tryd.checked) (X := fun w => laidMetH Tryd.prog Rows.coverShowsRow.laid w) (fun _ _ hh h => h.of_heap hh) own started (by kernel_rfl) Tryd.func3
    (ChangeSpec.witness_shaped (enc := enc) (C := Tryd.checked) (os := os) (X := fun w _ => laidMetH Tryd.prog Rows.coverShowsRow.laid w) false (World.laidAll Tryd.prog os Rows.coverShowsRow.laid) #[.string ⟨#[]⟩, .int .u64 0, .int .i64 0] 8 (World.laidAll_os _ _ _)
      (World.shaped_of_ZipB (by kernel_rfl) (by kernel_rfl)) (by kernel_rfl) (by kernel_rfl) (by kernel_rfl)
      (by rw [MakeChecks.laidMetH_plain _ _ _ (by kernel_rfl)]; exact laidMet_laidAll _ (by kernel_rfl) (by kernel_rfl))) ?_
  intro W base args ds gs before hsh hL hval0 hW hwt
  obtain ⟨mx, hmx⟩ := cell_of_shapedOpen_int (g := 0) (k := .i64) (zero := #[.int .i64 0]) hsh (of_decide_eq_true (by kernel_rfl)) (by kernel_rfl) rfl (by kernel_rfl) (by kernel_rfl) Tryd.underlying3
  letI : Inhabited Mx := ⟨⟨mx⟩⟩
  replace hmx : W.cell? ⟨0, 0, none⟩ = some (.int .i64 (default : Mx).v) := hmx
  have hval : ∀ (j : Nat) t v, Tryd.f3.params[j]? = some t → args[j]? = some v → Value.okWide Tryd.prog W .any base t v := hval0
  have hW' := hW
  obtain ⟨p, q, hA0, hV, rfl, hfz, hnd⟩ := hW
  have hA : DataW.TrodAll enc Tryd.prog W 0 (fun _ => true) true Tryd.f3.params.toList args.toList ds p := hA0
  rw [Tryd.params3] at hA hval
  obtain ⟨v0, vs0, d0, ds0, p0, q0, ha0, rfl, rfl, h0, r0⟩ := trodAll_cons hA
  obtain ⟨v1, vs1, d1, ds1, p1, q1, ha1, rfl, rfl, h1, r1⟩ := trodAll_cons r0
  obtain ⟨v2, vs2, d2, ds2, p2, q2, ha2, rfl, rfl, h2, r2⟩ := trodAll_cons r1
  obtain ⟨rfl, rfl, rfl⟩ := trodAll_nil r2
  obtain rfl : args = #[v0, v1, v2] := by cases args; simp_all
  obtain ⟨rfl, rfl⟩ := trodVars_none hV
  have k0 := h0
  have lt0 : ∀ x ∈ p0, x.block < W.heap.size := by obtain ⟨m, hm⟩ := k0; exact DataW.trod_lt m _ _ _ hm
  obtain ⟨x0, g0, e0⟩ := (Dec.str Tryd.underlying9 : Dec enc Tryd.prog W E 9 _ _).arg_str (by first | exact Tryd.underlying9 | kernel_rfl) (hval 0 9 v0 rfl rfl) h0 (Sized.of_each hwt (j := 0) rfl rfl)
  have k1 := h1
  have lt1 : ∀ x ∈ p1, x.block < W.heap.size := by obtain ⟨m, hm⟩ := k1; exact DataW.trod_lt m _ _ _ hm
  obtain ⟨x1, g1, e1⟩ := (Dec.u64 Tryd.underlying22 : Dec enc Tryd.prog W E 22 _ _).arg_u64 (by first | exact Tryd.underlying22 | kernel_rfl) (hval 1 22 v1 rfl rfl) h1 (Sized.of_each hwt (j := 1) rfl rfl)
  have k2 := h2
  have lt2 : ∀ x ∈ p2, x.block < W.heap.size := by obtain ⟨m, hm⟩ := k2; exact DataW.trod_lt m _ _ _ hm
  obtain ⟨x2, g2, e2⟩ := (Dec.i64 Tryd.underlying3 : Dec enc Tryd.prog W E 3 _ _).arg_i64 (by first | exact Tryd.underlying3 | kernel_rfl) (hval 2 3 v2 rfl rfl) h2 (Sized.of_each hwt (j := 2) rfl rfl)
  clear hA0 hval0
  refine (walk x0 x1 x2 g1 e0 e1 e2 (met hL hmx)).mono fun e W' ⟨he, bel⟩ => ?_
  subst he
  exact ⟨_, rfl, _, _, _, [], _, [], hW', trodAll_mk1 (shut_bool Tryd.underlying4 _), (trodAll_cons_mk (Below.trod laidOut (by kernel_rfl) (of_decide_eq_true (by kernel_rfl)) k0 bel lt0) (trodAll_cons_mk (Below.trod laidOut (by kernel_rfl) (of_decide_eq_true (by kernel_rfl)) k1 bel lt1) (trodAll_cons_mk (Below.trod laidOut (by kernel_rfl) (of_decide_eq_true (by kernel_rfl)) k2 bel lt2) trodAll_mk0))), rfl, bel.frame _, fun h => by cases h⟩

theorem over : Rows.coverShowsRow.holds Tryd.pinned (OpenSpec.ofChange Rows.coverShowsSpec) :=
  OpenClaim.holds_of_wide 3 Tryd.f3 rfl rfl rfl rfl rfl rfl rfl ⟨rfl, rfl, rfl, rfl, rfl⟩ rfl rfl rfl rfl rfl (by kernel_rfl) Tryd.func3 (by kernel_rfl)
    (of_decide_eq_true (by kernel_rfl)) (by unfold Func.isWrapper; first | (rw [if_pos (by decide +kernel)]; kernel_rfl) | (rw [if_neg (by decide +kernel)]; exact ⟨rfl, rfl⟩))
    (fun os started H enc _ => lifted os started H enc)
theorem card : Rows.CoverShowsCardSaid :=
  Claim7.holds_tied_plain_at .later [] [.data, .pinned] true (true, "dc032722ec4b54831f1fe038be128e99457c59e0a62a74a7be5d20dcbb6e8f74") true over (fun _ h => by cases h) (by kernel_rfl) (fun _ h => by cases h) coverShows_row_tie rfl ⟨rfl, rfl⟩ (by kernel_rfl) rfl
    (fun f fn hf hfn => by
      obtain rfl : f = 3 := Option.some.inj ((show Tryd.prog.funcNamed "signalbox/signalboxkeep.CoverShows" = some 3 by kernel_rfl).symm.trans hf) |>.symm
      obtain rfl : fn = Tryd.f3 := (Option.some.inj (Tryd.func3.symm.trans hfn)).symm
      exact ⟨by kernel_rfl, fun j t ht => by
        rw [Tryd.params3] at ht
        have hm : t ∈ [9, 22, 3] := by simpa using Array.mem_of_getElem? ht
        have hall : ([9, 22, 3].all fun u => !Tryd.prog.wantsStandIn u) = true := by kernel_rfl
        exact (show Tryd.prog.wantsStandIn t = false by simpa using List.all_eq_true.1 hall t hm)⟩)
    (by kernel_rfl)
end Go.Proofs.YtfhfojojchkmbaaDoor.coverShows
namespace Go.Proofs.YtfhfojojchkmbaaDoor
theorem coverShows_holds : Rows.CoverShowsCardSaid := coverShows.card
#print axioms coverShows_holds
end Go.Proofs.YtfhfojojchkmbaaDoor
