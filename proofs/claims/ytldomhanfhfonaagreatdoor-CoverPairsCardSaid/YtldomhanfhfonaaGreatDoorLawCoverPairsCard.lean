/-
  CoverPairs: for each name the least pair, of names alone, is the document's: the row, and the card, out of the contracts.
-/
import Derived.Test.YtldomhanfhfonaaGreatDoorCards
import Derived.Test.YtldomhanfhfonaaGreatDoorCore11
import Derived.Test.YtldomhanfhfonaaGreatDoorTie
import Derived.WalkKit
import Derived.ProofKit
import Derived.OpenShut
import Derived.ShutString
import Derived.ChangeOld
import Derived.Below
import Derived.SizedLaws
import Derived.Lay
import Derived.LaidOnce
import Derived.LaidHandle
import Derived.SevenTiedAt
namespace Go.Proofs.YtldomhanfhfonaaGreatDoor.coverPairs
open Go.Sc Go.ChangeShapes Go.WideShapes Go.ChangeAt Go.RowKit
set_option linter.unusedVariables false
set_option maxRecDepth 100000

theorem own : ownKnob Tryz.prog.godebug = none := by kernel_rfl
theorem laidOut : laidOutB Tryz.prog = true := by kernel_rfl
theorem et : Tryz.prog.globalNamed "errors.errorType" = some 1 := by kernel_rfl
theorem rt : (Tryz.prog.cutTypes.find? (·.1 == "internal/reflectlite.rtype")).map (·.2) = some 150 := by kernel_rfl
theorem oneRow : ((List.range 210).filter fun t => Tryz.prog.rowNamed t [101, 114, 114, 111, 114]) = [29] := by kernel_rfl
theorem typesSize : Tryz.prog.types.size = 210 := by kernel_rfl
theorem handle_of_laid {W : World} (h : laidMetH Tryz.prog Rows.coverPairsRow.laid W) : W.cell? ⟨1, 0, none⟩ = some (.iface 150 (.agg #[.pointer (some ⟨5, 29, none⟩)])) := by
  have h' : laidMet Tryz.prog (Rows.coverPairsRow.laid.filter fun x => x.2.handleName?.isNone) W ∧ handlesMet Tryz.prog [("errors.errorType", Rows.laid_errors_errorType)] W := h
  obtain ⟨name, u, ty, e1, e2, e3, e4, e5⟩ := h'.2 _ (List.mem_singleton.2 rfl)
  have en : name = [101, 114, 114, 111, 114] := (Option.some.inj e1).symm
  subst en
  obtain rfl := Option.some.inj (rt.symm.trans e2)
  have hm : ty ∈ (List.range 210).filter fun t => Tryz.prog.rowNamed t [101, 114, 114, 111, 114] := List.mem_filter.2 ⟨List.mem_range.2 (by rw [← typesSize]; exact e3), e4⟩
  rw [oneRow] at hm
  obtain rfl := List.mem_singleton.1 hm
  have hh : typeHandle Tryz.prog 29 = .pointer (some ⟨5, 29, none⟩) := by kernel_rfl
  rw [hh] at e5
  simpa using World.var?_cell et e5 0
noncomputable def laidWorld (os : Os) : World :=
  let w0 := World.laidAll Tryz.prog os (Rows.coverPairsRow.laid.filter fun x => x.2.handleName?.isNone)
  { w0 with heap := (w0.heap.modify 1 fun
      | .cells _ t frozen => .cells #[.iface 150 (.agg #[.pointer (some ⟨5, 29, none⟩)])] t frozen
      | o => o) }
theorem laidWorld_met (os : Os) (args : Array Value) : laidMetH Tryz.prog Rows.coverPairsRow.laid ((laidWorld os).forCall (fun _ _ => 0) ⟨#[], args, []⟩).memory :=
  laidMetH_of_parts (laidMet_of_run' 8 (by kernel_rfl) (by kernel_rfl)) (by kernel_rfl)
section
variable [Inhabited Mx]
theorem nameB : NameBodies E Tryz.prog where
  t := {
    trim := c_strings_Trim
    rb := c_strings_trimRightByte
    lb := c_strings_trimLeftByte
    mkSet := c_strings_makeASCIISet
    ra := c_strings_trimRightASCII
    la := c_strings_trimLeftASCII
    has := c_pstrings_asciiSet_contains }
  name := c_expr_Name
  contains := c_slices_Contains_Lstring_string
  index := c_slices_Index_Lstring_string
theorem runeB : RuneBodies E Tryz.prog where
  ib := ixB
  ir := c_strings_IndexRune_ScV11
  cr := c_strings_ContainsRune
  vr := c_unicode_utf8_ValidRune
theorem readB : ReadBodies E Tryz.prog where
  n := nameB
  r := runeB
  blanks := c_pexpr_reader_blanks
  fail := c_pexpr_reader_fail
  take := c_pexpr_reader_take
  word := c_pexpr_reader_word
theorem parseB : ParseBodies E Tryz.prog where
  d := readB
  several := c_pexpr_reader_several
  or := c_pexpr_reader_or
  and := c_pexpr_reader_and
  one := c_pexpr_reader_one
  parse := c_expr_Parse
theorem refReadB : RefReadBodies E Tryz.prog where
  r := runeB
  name := c_ref_NameCheck
  skip := c_pref_parser_skip
  next := c_pref_parser_next
  fail := c_pref_parser_fail
  word := c_pref_parser_word
  row := c_pref_parser_row
  whole := c_pref_parser_whole
  whole1 := c_pref_parser_whole_c1
  piece := c_pref_parser_piece
  bare := c_ref_Bare
  parse := c_ref_ExprParse
  fine := rfl
theorem lreadB : LReadBodies E Tryz.prog where
  p := parseB
  rr := refReadB
  read := c_law_read
theorem evalB : EvalBodies0 E Tryz.prog where
  eval := c_expr_Eval
  eval1 := c_expr_Eval_c1
  eval2 := c_expr_Eval_c2
  conA := c_slices_ContainsFunc_expr_And_expr_Expr
  conO := c_slices_ContainsFunc_expr_Or_expr_Expr
  ixA := c_slices_IndexFunc_expr_And_expr_Expr
  ixO := c_slices_IndexFunc_expr_Or_expr_Expr
theorem sortedB : SortedBodies E Tryz.prog where
  walk := c_expr_walk
  sorted := c_expr_sorted
  sorted1 := c_expr_sorted_c1
  names := c_expr_Names
  names1 := c_expr_Names_c1
  edges := c_expr_Edges
  edges1 := c_expr_Edges_c1
  sortN := sortNB
  sortC := fun hl hb => sortCB hl hb
  compN := compNB
  compC := fun hl hb => compCB hl hb
theorem coverB : CoverBodies E Tryz.prog where
  ev := evalB
  s := sortedB
  index := c_slices_Index_Lstring_string
  pairs := c_cover_Pairs
  pairs1 := c_cover_Pairs_c1
  pairs2 := c_cover_Pairs_c1_c1
theorem tellB (e : Int) : FX E Tryz.prog 53 [Er e] (Z e) :=
  FX.tell (g := 4) (X := 33) (fn := Tryz.f53) Tryz.func53 (by kernel_rfl) (by kernel_rfl) rfl rfl tell_nil (fun z w h => tell_hit z w h) e
theorem tellAtB (e p : Int) : FX E Tryz.prog 53 [At e p] (Z e) :=
  FX.tellAt (g := 4) (T := 92) (fn := Tryz.f53) Tryz.func53 (by kernel_rfl) (by kernel_rfl) rfl rfl (fun z p w hg hp => tell_at z p w hg hp) e p
theorem placeB : PlaceBodies E Tryz.prog where
  place := c_plain_Place
  tell := tellB
  tellAt := tellAtB
  noUnwrap := HasM.of (by kernel_rfl)
theorem refSaysB : RefSaysBodies E Tryz.prog where
  eval := c_pref_Expr_Eval
  names := c_pref_Expr_Names
  edges := c_pref_Expr_Edges
  named := c_pref_Expr_named
  named1 := c_pref_Expr_named_c1
  con := conB
theorem refPairsB : RefPairsBodies E Tryz.prog where
  r := refSaysB
  index := c_ref_index
  pairs := c_ref_Pairs
  pairs1 := c_ref_Pairs_c1
  pairs2 := c_ref_Pairs_c1_c1
theorem bodies : PairsBodies E Tryz.prog where
  rd := lreadB
  c := coverB
  r := refPairsB
  p := placeB
  at_ := c_law_at
  rbare := c_ref_Bare
  bare := c_law_bare
theorem walk {W : World} (x0 : Str) {v0 : Value} (r0 : VRel E (Cx.start W) (S x0) v0) (hg : E.met W) : Calls Tryz.prog 3 #[v0] W fun e w' => e = .returned (.bool true) ∧ Below W.heap.size W w' :=
  calls_law (args := [S x0]) (vs := [v0]) Tryz.func3 ((b_law_CoverPairs (S x0) ⟨[], 0⟩ _).mpr (CoverPairs_body bodies x0 0)) (by simp only [LRel]; exact ⟨v0, _, rfl, r0, rfl⟩) hg
theorem met {W : World} (h : laidMetH Tryz.prog Rows.coverPairsRow.laid W) (hmx : W.cell? ⟨2, 0, none⟩ = some (.int .i64 (default : Mx).v)) : E.met W := fun g cs e => by
  by_cases hg0 : g = 5
  · subst hg0
    have e2 : some ([.val (.int .i64 0), .val (.int .i64 (-1))] : List AV) = some cs := e
    injection e2 with e2
    subst e2
    exact ⟨by simp [AV.closedL, AV.closed], laid_struct2 (a := 0) (b := (-1)) h (.tail _ (.tail _ (.head _))) (show Tryz.prog.globalNamed "signalbox/signalboxref.Fine" = some 0 by kernel_rfl) (show (Tryz.prog.globals[0]?).map (·.type) = some 44 by kernel_rfl) Tryz.underlying44 (by kernel_rfl) (by kernel_rfl) rfl rfl (by kernel_rfl) (by kernel_rfl)⟩
  by_cases hg1 : g = 4
  · subst hg1
    have e2 : some ([.val (.iface 150 (.agg #[.pointer (some ⟨5, 29, none⟩)]))] : List AV) = some cs := e
    injection e2 with e2
    subst e2
    have hc := handle_of_laid h
    refine ⟨by simp [AV.closedL, AV.closed], ?_⟩
    simp only [CRel, VRel, and_true]
    exact ⟨.inl (cell_spot hc).2, _, hc, rfl⟩
  by_cases hg2 : g = 6
  · subst hg2
    have e2 : some ([.val (.int .i64 (default : Mx).v)] : List AV) = some cs := e
    injection e2 with e2
    subst e2
    refine ⟨by simp [AV.closedL, AV.closed], ?_⟩
    simp only [CRel, VRel, and_true]
    exact ⟨.inl (cell_spot hmx).2, _, hmx, rfl⟩
  have e2 : (if g = 5 then some ([.val (.int .i64 0), .val (.int .i64 (-1))] : List AV) else if g = 4 then some ([.val (.iface 150 (.agg #[.pointer (some ⟨5, 29, none⟩)]))] : List AV) else if g = 6 then some ([.val (.int .i64 (default : Mx).v)] : List AV) else none) = some cs := e
  rw [if_neg hg0, if_neg hg1, if_neg hg2] at e2
  cases e2
end
theorem lifted (os : Os) (started : os.Started) (H : Type) (enc : TypeId × Value → H) :
    ReturnsInHanded {} Tryz.checked os 3 .any (fun w args => (Rows.coverPairsSpec.pre enc Tryz.prog Tryz.f3 [] false w args ∧ laidMetH Tryz.prog Rows.coverPairsRow.laid w) ∧ sizedMet enc Tryz.prog Tryz.f3 (OpenSpec.ofChange Rows.coverPairsSpec) false w args)
      (Rows.coverPairsSpec.post enc Tryz.prog Tryz.f3 false true false false) := by
  refine handed_shaped (C := Tryz.checked) (X := fun w => laidMetH Tryz.prog Rows.coverPairsRow.laid w) (fun _ _ hh h => h.of_heap hh) own started (by kernel_rfl) Tryz.func3
    (ChangeSpec.witness_at (enc := enc) (C := Tryz.checked) (os := os) (X := fun w _ => laidMetH Tryz.prog Rows.coverPairsRow.laid w) false (laidWorld os) #[.string ⟨#[]⟩] 8 rfl (by kernel_rfl) (by kernel_rfl) (by kernel_rfl) (by kernel_rfl) (by kernel_rfl) (laidWorld_met os _)) ?_
  intro W base args ds gs before hsh hL hval0 hW hwt
  obtain ⟨mx, hmx⟩ := cell_of_shapedOpen_int (g := 2) (k := .i64) (zero := #[.int .i64 0]) hsh (of_decide_eq_true (by kernel_rfl)) (by kernel_rfl) rfl (by kernel_rfl) (by kernel_rfl) Tryz.underlying3
  letI : Inhabited Mx := ⟨⟨mx⟩⟩
  replace hmx : W.cell? ⟨2, 0, none⟩ = some (.int .i64 (default : Mx).v) := hmx
  have hval : ∀ (j : Nat) t v, Tryz.f3.params[j]? = some t → args[j]? = some v → Value.okWide Tryz.prog W .any base t v := hval0
  have hW' := hW
  obtain ⟨p, q, hA0, hV, rfl, hfz, hnd⟩ := hW
  have hA : DataW.TrodAll enc Tryz.prog W 0 (fun _ => true) true Tryz.f3.params.toList args.toList ds p := hA0
  rw [Tryz.params3] at hA hval
  obtain ⟨v0, vs0, d0, ds0, p0, q0, ha0, rfl, rfl, h0, r0⟩ := trodAll_cons hA
  obtain ⟨rfl, rfl, rfl⟩ := trodAll_nil r0
  obtain rfl : args = #[v0] := by cases args; simp_all
  obtain ⟨rfl, rfl⟩ := trodVars_none hV
  have k0 := h0
  have lt0 : ∀ x ∈ p0, x.block < W.heap.size := by obtain ⟨m, hm⟩ := k0; exact DataW.trod_lt m _ _ _ hm
  obtain ⟨x0, g0, e0⟩ := (Dec.str Tryz.underlying9 : Dec enc Tryz.prog W E 9 _ _).arg_str (by first | exact Tryz.underlying9 | kernel_rfl) (hval 0 9 v0 rfl rfl) h0 (Sized.of_each hwt (j := 0) rfl rfl)
  clear hA0 hval0
  refine (walk x0 e0 (met hL hmx)).mono fun e W' ⟨he, bel⟩ => ?_
  subst he
  exact ⟨_, rfl, _, _, _, [], _, [], hW', trodAll_mk1 (shut_bool Tryz.underlying4 _), (trodAll_cons_mk (Below.trod laidOut (by kernel_rfl) (of_decide_eq_true (by kernel_rfl)) k0 bel lt0) trodAll_mk0), rfl, bel.frame _, fun h => by cases h⟩

theorem over : Rows.coverPairsRow.holds Tryz.pinned (OpenSpec.ofChange Rows.coverPairsSpec) :=
  OpenClaim.holds_of_wide 3 Tryz.f3 rfl rfl rfl rfl rfl rfl rfl ⟨rfl, rfl, rfl, rfl, rfl⟩ rfl rfl rfl rfl rfl (by kernel_rfl) Tryz.func3 (by kernel_rfl)
    (of_decide_eq_true (by kernel_rfl)) (by unfold Func.isWrapper; first | (rw [if_pos (by decide +kernel)]; kernel_rfl) | (rw [if_neg (by decide +kernel)]; exact ⟨rfl, rfl⟩))
    (fun os started H enc _ => lifted os started H enc)
theorem card : Rows.CoverPairsCardSaid :=
  Claim7.holds_tied_plain_at .later [] [.data, .handle, .data, .pinned] true (true, "ff42638bce05adb3327dabd49b0453187a3029d89eb2c81dcff62c6ea0918ca4") true over (fun _ h => by cases h) (by kernel_rfl) (fun _ h => by cases h) coverPairs_row_tie rfl ⟨rfl, rfl⟩ (by kernel_rfl) rfl
    (fun f fn hf hfn => by
      obtain rfl : f = 3 := Option.some.inj ((show Tryz.prog.funcNamed "signalbox/signalboxlaw.CoverPairs" = some 3 by kernel_rfl).symm.trans hf) |>.symm
      obtain rfl : fn = Tryz.f3 := (Option.some.inj (Tryz.func3.symm.trans hfn)).symm
      exact ⟨by kernel_rfl, fun j t ht => by
        rw [Tryz.params3] at ht
        have hm : t ∈ [9] := by simpa using Array.mem_of_getElem? ht
        have hall : ([9].all fun u => !Tryz.prog.wantsStandIn u) = true := by kernel_rfl
        exact (show Tryz.prog.wantsStandIn t = false by simpa using List.all_eq_true.1 hall t hm)⟩)
    (by kernel_rfl)
end Go.Proofs.YtldomhanfhfonaaGreatDoor.coverPairs
namespace Go.Proofs.YtldomhanfhfonaaGreatDoor
theorem coverPairs_holds : Rows.CoverPairsCardSaid := coverPairs.card
#print axioms coverPairs_holds
end Go.Proofs.YtldomhanfhfonaaGreatDoor
