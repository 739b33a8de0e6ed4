/-
  ExprHangs: what an expression says hangs on its names alone, and on what those were of which it asks that: the row, and the card, out of the contracts.
-/
import Derived.Test.YtjdfaaccmdajdaaDoorCards
import Derived.Test.YtjdfaaccmdajdaaDoorCore13
import Derived.Test.YtjdfaaccmdajdaaDoorTie
import Derived.WalkKit
import Derived.ProofKit
import Derived.OpenShut
import Derived.ShutString
import Derived.ChangeOld
import Derived.Below
import Derived.SizedLaws
import Derived.Lay
import Derived.LaidOnce
import Derived.LaidHandle
import Derived.SevenTiedAt
namespace Go.Proofs.YtjdfaaccmdajdaaDoor.exprHangs
open Go.Sc Go.ChangeShapes Go.WideShapes Go.ChangeAt Go.RowKit
set_option linter.unusedVariables false
set_option maxRecDepth 100000
theorem nameB : NameBodies E Tryd.prog where
  t := {
    trim := c_strings_Trim
    rb := c_strings_trimRightByte
    lb := c_strings_trimLeftByte
    mkSet := c_strings_makeASCIISet
    ra := c_strings_trimRightASCII
    la := c_strings_trimLeftASCII
    has := c_pstrings_asciiSet_contains }
  name := c_expr_Name
  contains := c_slices_Contains_Lstring_string
  index := c_slices_Index_Lstring_string
theorem runeB : RuneBodies E Tryd.prog where
  ib := ixB
  ir := c_strings_IndexRune_ScV11
  cr := c_strings_ContainsRune
  vr := c_unicode_utf8_ValidRune
theorem readB : ReadBodies E Tryd.prog where
  n := nameB
  r := runeB
  blanks := c_pexpr_reader_blanks
  fail := c_pexpr_reader_fail
  take := c_pexpr_reader_take
  word := c_pexpr_reader_word
theorem parseB : ParseBodies E Tryd.prog where
  d := readB
  several := c_pexpr_reader_several
  or := c_pexpr_reader_or
  and := c_pexpr_reader_and
  one := c_pexpr_reader_one
  parse := c_expr_Parse
theorem writeB : WriteBodies E Tryd.prog where
  join := fun l sep h1 h2 => joinB l sep (by omega) (by omega)
  write := c_expr_write
  join2 := c_expr_join
  text := c_expr_Text
  tOr := c_expr_Or_Text
  tAnd := c_expr_And_Text
  tNot := c_expr_Not_Text
  tConst := c_expr_Const_Text
  tRise := c_expr_Rise_Text
  tFall := c_expr_Fall_Text
  tBit := c_expr_Bit_Text
  mOr := fun v w => by kernel_rfl
  mAnd := fun v w => by kernel_rfl
  mNot := fun v w => by kernel_rfl
  mConst := fun v w => by kernel_rfl
  mRise := fun v w => by kernel_rfl
  mFall := fun v w => by kernel_rfl
  mBit := fun v w => by kernel_rfl
theorem evalB : EvalBodies E Tryd.prog where
  among := c_keep_among
  among1 := c_keep_among_c1
  eval := c_expr_Eval
  eval1 := c_expr_Eval_c1
  eval2 := c_expr_Eval_c2
  conA := c_slices_ContainsFunc_expr_And_expr_Expr
  conO := c_slices_ContainsFunc_expr_Or_expr_Expr
  ixA := c_slices_IndexFunc_expr_And_expr_Expr
  ixO := c_slices_IndexFunc_expr_Or_expr_Expr
theorem keepExprB : KeepExprBodies E Tryd.prog where
  p := parseB
  w := writeB
  e := evalB
  says := c_keep_says
theorem sortedB : SortedBodies E Tryd.prog where
  walk := c_expr_walk
  sorted := c_expr_sorted
  sorted1 := c_expr_sorted_c1
  names := c_expr_Names
  names1 := c_expr_Names_c1
  edges := c_expr_Edges
  edges1 := c_expr_Edges_c1
  sortN := sortNB
  sortC := fun hl hb => sortCB hl hb
  compN := compNB
  compC := fun hl hb => compCB hl hb
theorem bodies : HangBodies E Tryd.prog where
  k := keepExprB
  s := sortedB

theorem own : ownKnob Tryd.prog.godebug = none := by kernel_rfl
theorem laidOut : laidOutB Tryd.prog = true := by kernel_rfl
theorem walk {W : World} (x0 : Str) (x1 : List Str) (x2 : List Str) (x3 : List Str) {v0 : Value} {v1 : Value} {v2 : Value} {v3 : Value} (r0 : VRel E (Cx.start W) (S x0) v0) (r1 : VRel E (Cx.start W) (LS x1) v1) (r2 : VRel E (Cx.start W) (LS x2) v2) (r3 : VRel E (Cx.start W) (LS x3) v3) (hg : E.met W) : Calls Tryd.prog 3 #[v0, v1, v2, v3] W fun e w' => e = .returned (.bool true) ∧ Below W.heap.size W w' :=
  calls_law (args := [S x0, LS x1, LS x2, LS x3]) (vs := [v0, v1, v2, v3]) Tryd.func3 ((b_keep_ExprHangs (S x0) (LS x1) (LS x2) (LS x3) ⟨[], 0⟩ _).mpr (ExprHangs_body bodies x0 x1 x2 x3 0)) (by simp only [LRel]; exact ⟨v0, _, rfl, r0, ⟨v1, _, rfl, r1, ⟨v2, _, rfl, r2, ⟨v3, _, rfl, r3, rfl⟩⟩⟩⟩) hg
theorem lifted (os : Os) (started : os.Started) (H : Type) (enc : TypeId × Value → H) :
    ReturnsInHanded {} Tryd.checked os 3 .any (fun w args => (Rows.exprHangsSpec.pre enc Tryd.prog Tryd.f3 [] false w args ∧ laidMetH Tryd.prog Rows.exprHangsRow.laid w) ∧ sizedMet enc Tryd.prog Tryd.f3 (OpenSpec.ofChange Rows.exprHangsSpec) false w args)
      (Rows.exprHangsSpec.post enc Tryd.prog Tryd.f3 false true false false) := by
  refine returnsInHanded_of_change_and (C := Tryd.checked) (X := fun w _ => laidMetH Tryd.prog Rows.exprHangsRow.laid w) (fun _ _ _ hh h => h.of_heap hh) own started (by kernel_rfl) Tryd.func3
    (ChangeSpec.witness_shaped (enc := enc) (C := Tryd.checked) (os := os) (X := fun w _ => laidMetH Tryd.prog Rows.exprHangsRow.laid w) false (World.laidAll Tryd.prog os Rows.exprHangsRow.laid) #[.string ⟨#[]⟩, .slice none 0 0, .slice none 0 0, .slice none 0 0] 8 (World.laidAll_os _ _ _)
      (World.shaped_of_ZipB (by kernel_rfl) (by kernel_rfl)) (by kernel_rfl) (by kernel_rfl) (by kernel_rfl)
      (by rw [MakeChecks.laidMetH_plain _ _ _ (by kernel_rfl)]; exact laidMet_laidAll _ (by kernel_rfl) (by kernel_rfl))) ?_
  intro W base args ds gs before hval0 hW _ hwt hL _
  have hval : ∀ (j : Nat) t v, Tryd.f3.params[j]? = some t → args[j]? = some v → Value.okWide Tryd.prog W .any base t v := hval0
  have hW' := hW
  obtain ⟨p, q, hA0, hV, rfl, hfz, hnd⟩ := hW
  have hA : DataW.TrodAll enc Tryd.prog W 0 (fun _ => true) true Tryd.f3.params.toList args.toList ds p := hA0
  rw [Tryd.params3] at hA hval
  obtain ⟨v0, vs0, d0, ds0, p0, q0, ha0, rfl, rfl, h0, r0⟩ := trodAll_cons hA
  obtain ⟨v1, vs1, d1, ds1, p1, q1, ha1, rfl, rfl, h1, r1⟩ := trodAll_cons r0
  obtain ⟨v2, vs2, d2, ds2, p2, q2, ha2, rfl, rfl, h2, r2⟩ := trodAll_cons r1
  obtain ⟨v3, vs3, d3, ds3, p3, q3, ha3, rfl, rfl, h3, r3⟩ := trodAll_cons r2
  obtain ⟨rfl, rfl, rfl⟩ := trodAll_nil r3
  obtain rfl : args = #[v0, v1, v2, v3] := by cases args; simp_all
  obtain ⟨rfl, rfl⟩ := trodVars_none hV
  have k0 := h0
  have lt0 : ∀ x ∈ p0, x.block < W.heap.size := by obtain ⟨m, hm⟩ := k0; exact DataW.trod_lt m _ _ _ hm
  obtain ⟨x0, g0, e0⟩ := (Dec.str Tryd.underlying9 : Dec enc Tryd.prog W E 9 _ _).arg_str (by first | exact Tryd.underlying9 | kernel_rfl) (hval 0 9 v0 rfl rfl) h0 (Sized.of_each hwt (j := 0) rfl rfl)
  have k1 := h1
  have lt1 : ∀ x ∈ p1, x.block < W.heap.size := by obtain ⟨m, hm⟩ := k1; exact DataW.trod_lt m _ _ _ hm
  obtain ⟨x1, g1, e1⟩ := (Dec.texts Tryd.underlying9 Tryd.underlying22 (by kernel_rfl) (show 0 < Tryd.prog.bytesOf 9 by rw [show Tryd.prog.bytesOf 9 = 16 by kernel_rfl]; decide) : Dec enc Tryd.prog W E 22 _ _).arg_slice (by first | exact Tryd.underlying22 | kernel_rfl) (hval 1 22 v1 rfl rfl) h1 (Sized.of_each hwt (j := 1) rfl rfl)
  have k2 := h2
  have lt2 : ∀ x ∈ p2, x.block < W.heap.size := by obtain ⟨m, hm⟩ := k2; exact DataW.trod_lt m _ _ _ hm
  obtain ⟨x2, g2, e2⟩ := (Dec.texts Tryd.underlying9 Tryd.underlying22 (by kernel_rfl) (show 0 < Tryd.prog.bytesOf 9 by rw [show Tryd.prog.bytesOf 9 = 16 by kernel_rfl]; decide) : Dec enc Tryd.prog W E 22 _ _).arg_slice (by first | exact Tryd.underlying22 | kernel_rfl) (hval 2 22 v2 rfl rfl) h2 (Sized.of_each hwt (j := 2) rfl rfl)
  have k3 := h3
  have lt3 : ∀ x ∈ p3, x.block < W.heap.size := by obtain ⟨m, hm⟩ := k3; exact DataW.trod_lt m _ _ _ hm
  obtain ⟨x3, g3, e3⟩ := (Dec.texts Tryd.underlying9 Tryd.underlying22 (by kernel_rfl) (show 0 < Tryd.prog.bytesOf 9 by rw [show Tryd.prog.bytesOf 9 = 16 by kernel_rfl]; decide) : Dec enc Tryd.prog W E 22 _ _).arg_slice (by first | exact Tryd.underlying22 | kernel_rfl) (hval 3 22 v3 rfl rfl) h3 (Sized.of_each hwt (j := 3) rfl rfl)
  clear hA0 hval0
  refine (walk x0 x1 x2 x3 e0 e1 e2 e3 (fun g cs e => by cases e)).mono fun e W' ⟨he, bel⟩ => ?_
  subst he
  exact ⟨_, rfl, _, _, _, [], _, [], hW', trodAll_mk1 (shut_bool Tryd.underlying4 _), (trodAll_cons_mk (Below.trod laidOut (by kernel_rfl) (of_decide_eq_true (by kernel_rfl)) k0 bel lt0) (trodAll_cons_mk (Below.trod laidOut (by kernel_rfl) (of_decide_eq_true (by kernel_rfl)) k1 bel lt1) (trodAll_cons_mk (Below.trod laidOut (by kernel_rfl) (of_decide_eq_true (by kernel_rfl)) k2 bel lt2) (trodAll_cons_mk (Below.trod laidOut (by kernel_rfl) (of_decide_eq_true (by kernel_rfl)) k3 bel lt3) trodAll_mk0)))), rfl, bel.frame _, fun h => by cases h⟩

theorem over : Rows.exprHangsRow.holds Tryd.pinned (OpenSpec.ofChange Rows.exprHangsSpec) :=
  OpenClaim.holds_of_wide 3 Tryd.f3 rfl rfl rfl rfl rfl rfl rfl ⟨rfl, rfl, rfl, rfl, rfl⟩ rfl rfl rfl rfl rfl (by kernel_rfl) Tryd.func3 (by kernel_rfl)
    (of_decide_eq_true (by kernel_rfl)) (by unfold Func.isWrapper; first | (rw [if_pos (by decide +kernel)]; kernel_rfl) | (rw [if_neg (by decide +kernel)]; exact ⟨rfl, rfl⟩))
    (fun os started H enc _ => lifted os started H enc)
theorem card : Rows.ExprHangsCardSaid :=
  Claim7.holds_tied_plain_at .later [] [.data, .pinned] true (true, "e79057dc7c7913b113ecaeca2440990cfea0854e803f438c911ce398c1fb5c5d") true over (fun _ h => by cases h) (by kernel_rfl) (fun _ h => by cases h) exprHangs_row_tie rfl ⟨rfl, rfl⟩ (by kernel_rfl) rfl
    (fun f fn hf hfn => by
      obtain rfl : f = 3 := Option.some.inj ((show Tryd.prog.funcNamed "signalbox/signalboxkeep.ExprHangs" = some 3 by kernel_rfl).symm.trans hf) |>.symm
      obtain rfl : fn = Tryd.f3 := (Option.some.inj (Tryd.func3.symm.trans hfn)).symm
      exact ⟨by kernel_rfl, fun j t ht => by
        rw [Tryd.params3] at ht
        have hm : t ∈ [9, 22, 22, 22] := by simpa using Array.mem_of_getElem? ht
        have hall : ([9, 22, 22, 22].all fun u => !Tryd.prog.wantsStandIn u) = true := by kernel_rfl
        exact (show Tryd.prog.wantsStandIn t = false by simpa using List.all_eq_true.1 hall t hm)⟩)
    (by kernel_rfl)
end Go.Proofs.YtjdfaaccmdajdaaDoor.exprHangs
namespace Go.Proofs.YtjdfaaccmdajdaaDoor
theorem exprHangs_holds : Rows.ExprHangsCardSaid := exprHangs.card
#print axioms exprHangs_holds
end Go.Proofs.YtjdfaaccmdajdaaDoor
