/-
  ExprTidies: an expression made tidy is the document's: the row, and the card, out of the contracts.
-/
import Derived.Test.YtmeppifnagiamaaDoorCards
import Derived.Test.YtmeppifnagiamaaDoorCore13
import Derived.Test.YtmeppifnagiamaaDoorTie
import Derived.WalkKit
import Derived.ProofKit
import Derived.OpenShut
import Derived.ShutString
import Derived.ChangeOld
import Derived.Below
import Derived.SizedLaws
import Derived.Lay
import Derived.LaidOnce
import Derived.LaidHandle
import Derived.SevenTiedAt
namespace Go.Proofs.YtmeppifnagiamaaDoor.exprTidies
open Go.Sc Go.ChangeShapes Go.WideShapes Go.ChangeAt Go.RowKit
set_option linter.unusedVariables false
set_option maxRecDepth 100000
theorem nameB : NameBodies E Tryd.prog where
  t := {
    trim := c_strings_Trim
    rb := c_strings_trimRightByte
    lb := c_strings_trimLeftByte
    mkSet := c_strings_makeASCIISet
    ra := c_strings_trimRightASCII
    la := c_strings_trimLeftASCII
    has := c_pstrings_asciiSet_contains }
  name := c_expr_Name
  contains := c_slices_Contains_Lstring_string
  index := c_slices_Index_Lstring_string
theorem runeB : RuneBodies E Tryd.prog where
  ib := ixB
  ir := c_strings_IndexRune_ScV11
  cr := c_strings_ContainsRune
  vr := c_unicode_utf8_ValidRune
theorem readB : ReadBodies E Tryd.prog where
  n := nameB
  r := runeB
  blanks := c_pexpr_reader_blanks
  fail := c_pexpr_reader_fail
  take := c_pexpr_reader_take
  word := c_pexpr_reader_word
theorem parseB : ParseBodies E Tryd.prog where
  d := readB
  several := c_pexpr_reader_several
  or := c_pexpr_reader_or
  and := c_pexpr_reader_and
  one := c_pexpr_reader_one
  parse := c_expr_Parse
theorem writeB : WriteBodies E Tryd.prog where
  join := fun l sep h1 h2 => joinB l sep (by omega) (by omega)
  write := c_expr_write
  join2 := c_expr_join
  text := c_expr_Text
  tOr := c_expr_Or_Text
  tAnd := c_expr_And_Text
  tNot := c_expr_Not_Text
  tConst := c_expr_Const_Text
  tRise := c_expr_Rise_Text
  tFall := c_expr_Fall_Text
  tBit := c_expr_Bit_Text
  mOr := fun v w => by kernel_rfl
  mAnd := fun v w => by kernel_rfl
  mNot := fun v w => by kernel_rfl
  mConst := fun v w => by kernel_rfl
  mRise := fun v w => by kernel_rfl
  mFall := fun v w => by kernel_rfl
  mBit := fun v w => by kernel_rfl
theorem refReadB : RefReadBodies E Tryd.prog where
  r := runeB
  name := c_ref_NameCheck
  skip := c_pref_parser_skip
  next := c_pref_parser_next
  fail := c_pref_parser_fail
  word := c_pref_parser_word
  row := c_pref_parser_row
  whole := c_pref_parser_whole
  whole1 := c_pref_parser_whole_c1
  piece := c_pref_parser_piece
  bare := c_ref_Bare
  parse := c_ref_ExprParse
  fine := rfl
theorem refTextB : RefTextBodies E Tryd.prog where
  join := fun l sep h1 h2 => joinB l sep (by omega) (by omega)
  text := c_pref_Expr_Text
theorem exprB : ExprBodies E Tryd.prog where
  p := parseB
  r := refReadB
  w := writeB
  t := refTextB
theorem tidyB : TidyBodies E Tryd.prog where
  n := nameB
  w := writeB
  tidy := c_expr_Tidy
  parts := c_expr_parts
  parts1 := c_expr_parts_c1
  con := c_slices_ContainsFunc_Lexpr_Expr_expr_Expr
  ix := c_slices_IndexFunc_Lexpr_Expr_expr_Expr
theorem refTidyB : RefTidyBodies E Tryd.prog where
  t := refTextB
  tidy := c_pref_Expr_Tidy
  other := c_pref_Expr_other
theorem bodies : TidiesBodies E Tryd.prog where
  e := exprB
  t := tidyB
  rt := refTidyB
  read := c_law_read

theorem own : ownKnob Tryd.prog.godebug = none := by kernel_rfl
theorem laidOut : laidOutB Tryd.prog = true := by kernel_rfl
theorem walk {W : World} (x0 : Str) {v0 : Value} (r0 : VRel E (Cx.start W) (S x0) v0) (hg : E.met W) : Calls Tryd.prog 3 #[v0] W fun e w' => e = .returned (.bool true) ∧ Below W.heap.size W w' :=
  calls_law (args := [S x0]) (vs := [v0]) Tryd.func3 ((b_law_ExprTidies (S x0) ⟨[], 0⟩ _).mpr (ExprTidies_body bodies x0 0)) (by simp only [LRel]; exact ⟨v0, _, rfl, r0, rfl⟩) hg
theorem met {W : World} (h : laidMetH Tryd.prog Rows.exprTidiesRow.laid W) : E.met W := fun g cs e => by
  by_cases hg0 : g = 5
  · subst hg0
    have e2 : some ([.val (.int .i64 0), .val (.int .i64 (-1))] : List AV) = some cs := e
    injection e2 with e2
    subst e2
    exact ⟨by simp [AV.closedL, AV.closed], laid_struct2 (a := 0) (b := (-1)) h (.tail _ (.head _)) (show Tryd.prog.globalNamed "signalbox/signalboxref.Fine" = some 0 by kernel_rfl) (show (Tryd.prog.globals[0]?).map (·.type) = some 34 by kernel_rfl) Tryd.underlying34 (by kernel_rfl) (by kernel_rfl) rfl rfl (by kernel_rfl) (by kernel_rfl)⟩
  have e2 : (if g = 5 then some ([.val (.int .i64 0), .val (.int .i64 (-1))] : List AV) else none) = some cs := e
  rw [if_neg hg0] at e2
  cases e2
theorem lifted (os : Os) (started : os.Started) (H : Type) (enc : TypeId × Value → H) :
    ReturnsInHanded {} Tryd.checked os 3 .any (fun w args => (Rows.exprTidiesSpec.pre enc Tryd.prog Tryd.f3 [] false w args ∧ laidMetH Tryd.prog Rows.exprTidiesRow.laid w) ∧ sizedMet enc Tryd.prog Tryd.f3 (OpenSpec.ofChange Rows.exprTidiesSpec) false w args)
      (Rows.exprTidiesSpec.post enc Tryd.prog Tryd.f3 false true false false) := by
  refine returnsInHanded_of_change_and (C := Tryd.checked) (X := fun w _ => laidMetH Tryd.prog Rows.exprTidiesRow.laid w) (fun _ _ _ hh h => h.of_heap hh) own started (by kernel_rfl) Tryd.func3
    (ChangeSpec.witness_shaped (enc := enc) (C := Tryd.checked) (os := os) (X := fun w _ => laidMetH Tryd.prog Rows.exprTidiesRow.laid w) false (World.laidAll Tryd.prog os Rows.exprTidiesRow.laid) #[.string ⟨#[]⟩] 8 (World.laidAll_os _ _ _)
      (World.shaped_of_ZipB (by kernel_rfl) (by kernel_rfl)) (by kernel_rfl) (by kernel_rfl) (by kernel_rfl)
      (by rw [MakeChecks.laidMetH_plain _ _ _ (by kernel_rfl)]; exact laidMet_laidAll _ (by kernel_rfl) (by kernel_rfl))) ?_
  intro W base args ds gs before hval0 hW _ hwt hL _
  have hval : ∀ (j : Nat) t v, Tryd.f3.params[j]? = some t → args[j]? = some v → Value.okWide Tryd.prog W .any base t v := hval0
  have hW' := hW
  obtain ⟨p, q, hA0, hV, rfl, hfz, hnd⟩ := hW
  have hA : DataW.TrodAll enc Tryd.prog W 0 (fun _ => true) true Tryd.f3.params.toList args.toList ds p := hA0
  rw [Tryd.params3] at hA hval
  obtain ⟨v0, vs0, d0, ds0, p0, q0, ha0, rfl, rfl, h0, r0⟩ := trodAll_cons hA
  obtain ⟨rfl, rfl, rfl⟩ := trodAll_nil r0
  obtain rfl : args = #[v0] := by cases args; simp_all
  obtain ⟨rfl, rfl⟩ := trodVars_none hV
  have k0 := h0
  have lt0 : ∀ x ∈ p0, x.block < W.heap.size := by obtain ⟨m, hm⟩ := k0; exact DataW.trod_lt m _ _ _ hm
  obtain ⟨x0, g0, e0⟩ := (Dec.str Tryd.underlying9 : Dec enc Tryd.prog W E 9 _ _).arg_str (by first | exact Tryd.underlying9 | kernel_rfl) (hval 0 9 v0 rfl rfl) h0 (Sized.of_each hwt (j := 0) rfl rfl)
  clear hA0 hval0
  refine (walk x0 e0 (met hL)).mono fun e W' ⟨he, bel⟩ => ?_
  subst he
  exact ⟨_, rfl, _, _, _, [], _, [], hW', trodAll_mk1 (shut_bool Tryd.underlying4 _), (trodAll_cons_mk (Below.trod laidOut (by kernel_rfl) (of_decide_eq_true (by kernel_rfl)) k0 bel lt0) trodAll_mk0), rfl, bel.frame _, fun h => by cases h⟩

theorem over : Rows.exprTidiesRow.holds Tryd.pinned (OpenSpec.ofChange Rows.exprTidiesSpec) :=
  OpenClaim.holds_of_wide 3 Tryd.f3 rfl rfl rfl rfl rfl rfl rfl ⟨rfl, rfl, rfl, rfl, rfl⟩ rfl rfl rfl rfl rfl (by kernel_rfl) Tryd.func3 (by kernel_rfl)
    (of_decide_eq_true (by kernel_rfl)) (by unfold Func.isWrapper; first | (rw [if_pos (by decide +kernel)]; kernel_rfl) | (rw [if_neg (by decide +kernel)]; exact ⟨rfl, rfl⟩))
    (fun os started H enc _ => lifted os started H enc)
theorem card : Rows.ExprTidiesCardSaid :=
  Claim7.holds_tied_plain_at .later [] [.data, .data, .pinned] true (true, "18069ed8cbf5b43eedc7e0db78651212254a3dc9832be5c14fa02f689949f180") true over (fun _ h => by cases h) (by kernel_rfl) (fun _ h => by cases h) exprTidies_row_tie rfl ⟨rfl, rfl⟩ (by kernel_rfl) rfl
    (fun f fn hf hfn => by
      obtain rfl : f = 3 := Option.some.inj ((show Tryd.prog.funcNamed "signalbox/signalboxlaw.ExprTidies" = some 3 by kernel_rfl).symm.trans hf) |>.symm
      obtain rfl : fn = Tryd.f3 := (Option.some.inj (Tryd.func3.symm.trans hfn)).symm
      exact ⟨by kernel_rfl, fun j t ht => by
        rw [Tryd.params3] at ht
        have hm : t ∈ [9] := by simpa using Array.mem_of_getElem? ht
        have hall : ([9].all fun u => !Tryd.prog.wantsStandIn u) = true := by kernel_rfl
        exact (show Tryd.prog.wantsStandIn t = false by simpa using List.all_eq_true.1 hall t hm)⟩)
    (by kernel_rfl)
end Go.Proofs.YtmeppifnagiamaaDoor.exprTidies
namespace Go.Proofs.YtmeppifnagiamaaDoor
theorem exprTidies_holds : Rows.ExprTidiesCardSaid := exprTidies.card
#print axioms exprTidies_holds
end Go.Proofs.YtmeppifnagiamaaDoor
