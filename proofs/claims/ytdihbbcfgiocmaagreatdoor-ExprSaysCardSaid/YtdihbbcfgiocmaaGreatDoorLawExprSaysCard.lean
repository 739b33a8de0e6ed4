/-
  ExprSays: what an expression says, of names that are, and were, its names, edges and size are the document's: the row, and the card, out of the contracts.
-/
import Derived.Test.YtdihbbcfgiocmaaGreatDoorCards
import Derived.Test.YtdihbbcfgiocmaaGreatDoorCore10
import Derived.Test.YtdihbbcfgiocmaaGreatDoorTie
import Derived.WalkKit
import Derived.ProofKit
import Derived.OpenShut
import Derived.ShutString
import Derived.ChangeOld
import Derived.Below
import Derived.SizedLaws
import Derived.Lay
import Derived.LaidOnce
import Derived.LaidHandle
import Derived.SevenTiedAt
namespace Go.Proofs.YtdihbbcfgiocmaaGreatDoor.exprSays
open Go.Sc Go.ChangeShapes Go.WideShapes Go.ChangeAt Go.RowKit
set_option linter.unusedVariables false
set_option maxRecDepth 100000

theorem own : ownKnob Tryz.prog.godebug = none := by kernel_rfl
theorem laidOut : laidOutB Tryz.prog = true := by kernel_rfl
section
variable [Inhabited Mx]
theorem nameB : NameBodies E Tryz.prog where
  t := {
    trim := c_strings_Trim
    rb := c_strings_trimRightByte
    lb := c_strings_trimLeftByte
    mkSet := c_strings_makeASCIISet
    ra := c_strings_trimRightASCII
    la := c_strings_trimLeftASCII
    has := c_pstrings_asciiSet_contains }
  name := c_expr_Name
  contains := c_slices_Contains_Lstring_string
  index := c_slices_Index_Lstring_string
theorem runeB : RuneBodies E Tryz.prog where
  ib := ixB
  ir := c_strings_IndexRune_ScV11
  cr := c_strings_ContainsRune
  vr := c_unicode_utf8_ValidRune
theorem readB : ReadBodies E Tryz.prog where
  n := nameB
  r := runeB
  blanks := c_pexpr_reader_blanks
  fail := c_pexpr_reader_fail
  take := c_pexpr_reader_take
  word := c_pexpr_reader_word
theorem parseB : ParseBodies E Tryz.prog where
  d := readB
  several := c_pexpr_reader_several
  or := c_pexpr_reader_or
  and := c_pexpr_reader_and
  one := c_pexpr_reader_one
  parse := c_expr_Parse
theorem refReadB : RefReadBodies E Tryz.prog where
  r := runeB
  name := c_ref_NameCheck
  skip := c_pref_parser_skip
  next := c_pref_parser_next
  fail := c_pref_parser_fail
  word := c_pref_parser_word
  row := c_pref_parser_row
  whole := c_pref_parser_whole
  whole1 := c_pref_parser_whole_c1
  piece := c_pref_parser_piece
  bare := c_ref_Bare
  parse := c_ref_ExprParse
  fine := rfl
theorem evalB : EvalBodies0 E Tryz.prog where
  eval := c_expr_Eval
  eval1 := c_expr_Eval_c1
  eval2 := c_expr_Eval_c2
  conA := c_slices_ContainsFunc_expr_And_expr_Expr
  conO := c_slices_ContainsFunc_expr_Or_expr_Expr
  ixA := c_slices_IndexFunc_expr_And_expr_Expr
  ixO := c_slices_IndexFunc_expr_Or_expr_Expr
theorem sizeB : SizeBodies E Tryz.prog where
  size := c_expr_Size
  size1 := c_expr_Size_c1
  walk := c_expr_walk
theorem sortedB : SortedBodies E Tryz.prog where
  walk := c_expr_walk
  sorted := c_expr_sorted
  sorted1 := c_expr_sorted_c1
  names := c_expr_Names
  names1 := c_expr_Names_c1
  edges := c_expr_Edges
  edges1 := c_expr_Edges_c1
  sortN := sortNB
  sortC := fun hl hb => sortCB hl hb
  compN := compNB
  compC := fun hl hb => compCB hl hb
theorem refSaysB : RefSaysBodies E Tryz.prog where
  eval := c_pref_Expr_Eval
  size := c_pref_Expr_Size
  names := c_pref_Expr_Names
  edges := c_pref_Expr_Edges
  named := c_pref_Expr_named
  named1 := c_pref_Expr_named_c1
  con := conB
theorem bodies : SaysBodies E Tryz.prog where
  p := parseB
  rr := refReadB
  read := c_law_read
  ev := evalB
  s := sortedB
  z := sizeB
  r := refSaysB
  among := c_law_ExprSays_c1
  among1 := c_law_ExprSays_c1_c1
  same := c_law_sameTexts
theorem walk {W : World} (x0 : Str) (x1 : List Str) (x2 : List Str) {v0 : Value} {v1 : Value} {v2 : Value} (r0 : VRel E (Cx.start W) (S x0) v0) (r1 : VRel E (Cx.start W) (LS x1) v1) (r2 : VRel E (Cx.start W) (LS x2) v2) (hg : E.met W) : Calls Tryz.prog 3 #[v0, v1, v2] W fun e w' => e = .returned (.bool true) ∧ Below W.heap.size W w' :=
  calls_law (args := [S x0, LS x1, LS x2]) (vs := [v0, v1, v2]) Tryz.func3 ((b_law_ExprSays (S x0) (LS x1) (LS x2) ⟨[], 0⟩ _).mpr (ExprSays_body bodies x0 x1 x2 0)) (by simp only [LRel]; exact ⟨v0, _, rfl, r0, ⟨v1, _, rfl, r1, ⟨v2, _, rfl, r2, rfl⟩⟩⟩) hg
theorem met {W : World} (h : laidMetH Tryz.prog Rows.exprSaysRow.laid W) (hmx : W.cell? ⟨1, 0, none⟩ = some (.int .i64 (default : Mx).v)) : E.met W := fun g cs e => by
  by_cases hg0 : g = 5
  · subst hg0
    have e2 : some ([.val (.int .i64 0), .val (.int .i64 (-1))] : List AV) = some cs := e
    injection e2 with e2
    subst e2
    exact ⟨by simp [AV.closedL, AV.closed], laid_struct2 (a := 0) (b := (-1)) h (.tail _ (.head _)) (show Tryz.prog.globalNamed "signalbox/signalboxref.Fine" = some 0 by kernel_rfl) (show (Tryz.prog.globals[0]?).map (·.type) = some 40 by kernel_rfl) Tryz.underlying40 (by kernel_rfl) (by kernel_rfl) rfl rfl (by kernel_rfl) (by kernel_rfl)⟩
  by_cases hg1 : g = 6
  · subst hg1
    have e2 : some ([.val (.int .i64 (default : Mx).v)] : List AV) = some cs := e
    injection e2 with e2
    subst e2
    refine ⟨by simp [AV.closedL, AV.closed], ?_⟩
    simp only [CRel, VRel, and_true]
    exact ⟨.inl (cell_spot hmx).2, _, hmx, rfl⟩
  have e2 : (if g = 5 then some ([.val (.int .i64 0), .val (.int .i64 (-1))] : List AV) else if g = 6 then some ([.val (.int .i64 (default : Mx).v)] : List AV) else none) = some cs := e
  rw [if_neg hg0, if_neg hg1] at e2
  cases e2
end
theorem lifted (os : Os) (started : os.Started) (H : Type) (enc : TypeId × Value → H) :
    ReturnsInHanded {} Tryz.checked os 3 .any (fun w args => (Rows.exprSaysSpec.pre enc Tryz.prog Tryz.f3 [] false w args ∧ laidMetH Tryz.prog Rows.exprSaysRow.laid w) ∧ sizedMet enc Tryz.prog Tryz.f3 (OpenSpec.ofChange Rows.exprSaysSpec) false w args)
      (Rows.exprSaysSpec.post enc Tryz.prog Tryz.f3 false true false false) := by
  refine handed_shaped (C := Tryz.checked) (X := fun w => laidMetH Tryz.prog Rows.exprSaysRow.laid w) (fun _ _ hh h => h.of_heap hh) own started (by kernel_rfl) Tryz.func3
    (ChangeSpec.witness_shaped (enc := enc) (C := Tryz.checked) (os := os) (X := fun w _ => laidMetH Tryz.prog Rows.exprSaysRow.laid w) false (World.laidAll Tryz.prog os Rows.exprSaysRow.laid) #[.string ⟨#[]⟩, .slice none 0 0, .slice none 0 0] 8 (World.laidAll_os _ _ _)
      (World.shaped_of_ZipB (by kernel_rfl) (by kernel_rfl)) (by kernel_rfl) (by kernel_rfl) (by kernel_rfl)
      (by rw [MakeChecks.laidMetH_plain _ _ _ (by kernel_rfl)]; exact laidMet_laidAll _ (by kernel_rfl) (by kernel_rfl))) ?_
  intro W base args ds gs before hsh hL hval0 hW hwt
  obtain ⟨mx, hmx⟩ := cell_of_shapedOpen_int (g := 1) (k := .i64) (zero := #[.int .i64 0]) hsh (of_decide_eq_true (by kernel_rfl)) (by kernel_rfl) rfl (by kernel_rfl) (by kernel_rfl) Tryz.underlying3
  letI : Inhabited Mx := ⟨⟨mx⟩⟩
  replace hmx : W.cell? ⟨1, 0, none⟩ = some (.int .i64 (default : Mx).v) := hmx
  have hval : ∀ (j : Nat) t v, Tryz.f3.params[j]? = some t → args[j]? = some v → Value.okWide Tryz.prog W .any base t v := hval0
  have hW' := hW
  obtain ⟨p, q, hA0, hV, rfl, hfz, hnd⟩ := hW
  have hA : DataW.TrodAll enc Tryz.prog W 0 (fun _ => true) true Tryz.f3.params.toList args.toList ds p := hA0
  rw [Tryz.params3] at hA hval
  obtain ⟨v0, vs0, d0, ds0, p0, q0, ha0, rfl, rfl, h0, r0⟩ := trodAll_cons hA
  obtain ⟨v1, vs1, d1, ds1, p1, q1, ha1, rfl, rfl, h1, r1⟩ := trodAll_cons r0
  obtain ⟨v2, vs2, d2, ds2, p2, q2, ha2, rfl, rfl, h2, r2⟩ := trodAll_cons r1
  obtain ⟨rfl, rfl, rfl⟩ := trodAll_nil r2
  obtain rfl : args = #[v0, v1, v2] := by cases args; simp_all
  obtain ⟨rfl, rfl⟩ := trodVars_none hV
  have k0 := h0
  have lt0 : ∀ x ∈ p0, x.block < W.heap.size := by obtain ⟨m, hm⟩ := k0; exact DataW.trod_lt m _ _ _ hm
  obtain ⟨x0, g0, e0⟩ := (Dec.str Tryz.underlying9 : Dec enc Tryz.prog W E 9 _ _).arg_str (by first | exact Tryz.underlying9 | kernel_rfl) (hval 0 9 v0 rfl rfl) h0 (Sized.of_each hwt (j := 0) rfl rfl)
  have k1 := h1
  have lt1 : ∀ x ∈ p1, x.block < W.heap.size := by obtain ⟨m, hm⟩ := k1; exact DataW.trod_lt m _ _ _ hm
  obtain ⟨x1, g1, e1⟩ := (Dec.texts Tryz.underlying9 Tryz.underlying22 (by kernel_rfl) (show 0 < Tryz.prog.bytesOf 9 by rw [show Tryz.prog.bytesOf 9 = 16 by kernel_rfl]; decide) : Dec enc Tryz.prog W E 22 _ _).arg_slice (by first | exact Tryz.underlying22 | kernel_rfl) (hval 1 22 v1 rfl rfl) h1 (Sized.of_each hwt (j := 1) rfl rfl)
  have k2 := h2
  have lt2 : ∀ x ∈ p2, x.block < W.heap.size := by obtain ⟨m, hm⟩ := k2; exact DataW.trod_lt m _ _ _ hm
  obtain ⟨x2, g2, e2⟩ := (Dec.texts Tryz.underlying9 Tryz.underlying22 (by kernel_rfl) (show 0 < Tryz.prog.bytesOf 9 by rw [show Tryz.prog.bytesOf 9 = 16 by kernel_rfl]; decide) : Dec enc Tryz.prog W E 22 _ _).arg_slice (by first | exact Tryz.underlying22 | kernel_rfl) (hval 2 22 v2 rfl rfl) h2 (Sized.of_each hwt (j := 2) rfl rfl)
  clear hA0 hval0
  refine (walk x0 x1 x2 e0 e1 e2 (met hL hmx)).mono fun e W' ⟨he, bel⟩ => ?_
  subst he
  exact ⟨_, rfl, _, _, _, [], _, [], hW', trodAll_mk1 (shut_bool Tryz.underlying4 _), (trodAll_cons_mk (Below.trod laidOut (by kernel_rfl) (of_decide_eq_true (by kernel_rfl)) k0 bel lt0) (trodAll_cons_mk (Below.trod laidOut (by kernel_rfl) (of_decide_eq_true (by kernel_rfl)) k1 bel lt1) (trodAll_cons_mk (Below.trod laidOut (by kernel_rfl) (of_decide_eq_true (by kernel_rfl)) k2 bel lt2) trodAll_mk0))), rfl, bel.frame _, fun h => by cases h⟩

theorem over : Rows.exprSaysRow.holds Tryz.pinned (OpenSpec.ofChange Rows.exprSaysSpec) :=
  OpenClaim.holds_of_wide 3 Tryz.f3 rfl rfl rfl rfl rfl rfl rfl ⟨rfl, rfl, rfl, rfl, rfl⟩ rfl rfl rfl rfl rfl (by kernel_rfl) Tryz.func3 (by kernel_rfl)
    (of_decide_eq_true (by kernel_rfl)) (by unfold Func.isWrapper; first | (rw [if_pos (by decide +kernel)]; kernel_rfl) | (rw [if_neg (by decide +kernel)]; exact ⟨rfl, rfl⟩))
    (fun os started H enc _ => lifted os started H enc)
theorem card : Rows.ExprSaysCardSaid :=
  Claim7.holds_tied_plain_at .later [] [.data, .data, .pinned] true (true, "c7f41551671e9e32b9f25cc1701cbb0887a08550809a1885743c297760c87a04") true over (fun _ h => by cases h) (by kernel_rfl) (fun _ h => by cases h) exprSays_row_tie rfl ⟨rfl, rfl⟩ (by kernel_rfl) rfl
    (fun f fn hf hfn => by
      obtain rfl : f = 3 := Option.some.inj ((show Tryz.prog.funcNamed "signalbox/signalboxlaw.ExprSays" = some 3 by kernel_rfl).symm.trans hf) |>.symm
      obtain rfl : fn = Tryz.f3 := (Option.some.inj (Tryz.func3.symm.trans hfn)).symm
      exact ⟨by kernel_rfl, fun j t ht => by
        rw [Tryz.params3] at ht
        have hm : t ∈ [9, 22, 22] := by simpa using Array.mem_of_getElem? ht
        have hall : ([9, 22, 22].all fun u => !Tryz.prog.wantsStandIn u) = true := by kernel_rfl
        exact (show Tryz.prog.wantsStandIn t = false by simpa using List.all_eq_true.1 hall t hm)⟩)
    (by kernel_rfl)
end Go.Proofs.YtdihbbcfgiocmaaGreatDoor.exprSays
namespace Go.Proofs.YtdihbbcfgiocmaaGreatDoor
theorem exprSays_holds : Rows.ExprSaysCardSaid := exprSays.card
#print axioms exprSays_holds
end Go.Proofs.YtdihbbcfgiocmaaGreatDoor
