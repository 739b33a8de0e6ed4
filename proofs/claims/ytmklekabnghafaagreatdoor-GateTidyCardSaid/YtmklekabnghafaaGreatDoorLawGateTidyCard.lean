/-
  GateTidy: what is made tidy says the same; and of each two that are the same both say the same: the row, and the card, out of the contracts.
-/
import Derived.Test.YtmklekabnghafaaGreatDoorCards
import Derived.Test.YtmklekabnghafaaGreatDoorCore12
import Derived.Test.YtmklekabnghafaaGreatDoorTie
import Derived.WalkKit
import Derived.ProofKit
import Derived.OpenShut
import Derived.ShutString
import Derived.ChangeOld
import Derived.Below
import Derived.SizedLaws
import Derived.Lay
import Derived.LaidOnce
import Derived.LaidHandle
import Derived.SevenTiedAt
namespace Go.Proofs.YtmklekabnghafaaGreatDoor.gateTidy
open Go.Sc Go.ChangeShapes Go.WideShapes Go.ChangeAt Go.RowKit
set_option linter.unusedVariables false
set_option maxRecDepth 100000

theorem own : ownKnob Tryz.prog.godebug = none := by kernel_rfl
theorem laidOut : laidOutB Tryz.prog = true := by kernel_rfl
theorem et : Tryz.prog.globalNamed "errors.errorType" = some 0 := by kernel_rfl
theorem rt : (Tryz.prog.cutTypes.find? (·.1 == "internal/reflectlite.rtype")).map (·.2) = some 141 := by kernel_rfl
theorem oneRow : ((List.range 220).filter fun t => Tryz.prog.rowNamed t [101, 114, 114, 111, 114]) = [26] := by kernel_rfl
theorem typesSize : Tryz.prog.types.size = 220 := by kernel_rfl
theorem handle_of_laid {W : World} (h : laidMetH Tryz.prog Rows.gateTidyRow.laid W) : W.cell? ⟨0, 0, none⟩ = some (.iface 141 (.agg #[.pointer (some ⟨4, 26, none⟩)])) := by
  have h' : laidMet Tryz.prog (Rows.gateTidyRow.laid.filter fun x => x.2.handleName?.isNone) W ∧ handlesMet Tryz.prog [("errors.errorType", Rows.laid_errors_errorType)] W := h
  obtain ⟨name, u, ty, e1, e2, e3, e4, e5⟩ := h'.2 _ (List.mem_singleton.2 rfl)
  have en : name = [101, 114, 114, 111, 114] := (Option.some.inj e1).symm
  subst en
  obtain rfl := Option.some.inj (rt.symm.trans e2)
  have hm : ty ∈ (List.range 220).filter fun t => Tryz.prog.rowNamed t [101, 114, 114, 111, 114] := List.mem_filter.2 ⟨List.mem_range.2 (by rw [← typesSize]; exact e3), e4⟩
  rw [oneRow] at hm
  obtain rfl := List.mem_singleton.1 hm
  have hh : typeHandle Tryz.prog 26 = .pointer (some ⟨4, 26, none⟩) := by kernel_rfl
  rw [hh] at e5
  simpa using World.var?_cell et e5 0
noncomputable def laidWorld (os : Os) : World :=
  let w0 := World.laidAll Tryz.prog os (Rows.gateTidyRow.laid.filter fun x => x.2.handleName?.isNone)
  { w0 with heap := (w0.heap.modify 0 fun
      | .cells _ t frozen => .cells #[.iface 141 (.agg #[.pointer (some ⟨4, 26, none⟩)])] t frozen
      | o => o) }
theorem laidWorld_met (os : Os) (args : Array Value) : laidMetH Tryz.prog Rows.gateTidyRow.laid ((laidWorld os).forCall (fun _ _ => 0) ⟨#[], args, []⟩).memory :=
  laidMetH_of_parts (laidMet_of_run' 8 (by kernel_rfl) (by kernel_rfl)) (by kernel_rfl)
section
variable [Inhabited Mx]
theorem nameB : NameBodies E Tryz.prog where
  t := {
    trim := c_strings_Trim
    rb := c_strings_trimRightByte
    lb := c_strings_trimLeftByte
    mkSet := c_strings_makeASCIISet
    ra := c_strings_trimRightASCII
    la := c_strings_trimLeftASCII
    has := c_pstrings_asciiSet_contains }
  name := c_expr_Name
  contains := c_slices_Contains_Lstring_string
  index := c_slices_Index_Lstring_string
theorem runeB : RuneBodies E Tryz.prog where
  ib := ixB
  ir := c_strings_IndexRune_ScV11
  cr := c_strings_ContainsRune
  vr := c_unicode_utf8_ValidRune
theorem readB : ReadBodies E Tryz.prog where
  n := nameB
  r := runeB
  blanks := c_pexpr_reader_blanks
  fail := c_pexpr_reader_fail
  take := c_pexpr_reader_take
  word := c_pexpr_reader_word
theorem parseB : ParseBodies E Tryz.prog where
  d := readB
  several := c_pexpr_reader_several
  or := c_pexpr_reader_or
  and := c_pexpr_reader_and
  one := c_pexpr_reader_one
  parse := c_expr_Parse
theorem writeB : WriteBodies E Tryz.prog where
  join := fun l sep h1 h2 => joinB l sep (by omega) (by omega)
  write := c_expr_write
  join2 := c_expr_join
  text := c_expr_Text
  tOr := c_expr_Or_Text
  tAnd := c_expr_And_Text
  tNot := c_expr_Not_Text
  tConst := c_expr_Const_Text
  tRise := c_expr_Rise_Text
  tFall := c_expr_Fall_Text
  tBit := c_expr_Bit_Text
  mOr := fun v w => by kernel_rfl
  mAnd := fun v w => by kernel_rfl
  mNot := fun v w => by kernel_rfl
  mConst := fun v w => by kernel_rfl
  mRise := fun v w => by kernel_rfl
  mFall := fun v w => by kernel_rfl
  mBit := fun v w => by kernel_rfl
theorem evalB : EvalBodies E Tryz.prog where
  among := c_keep_among
  among1 := c_keep_among_c1
  eval := c_expr_Eval
  eval1 := c_expr_Eval_c1
  eval2 := c_expr_Eval_c2
  conA := c_slices_ContainsFunc_expr_And_expr_Expr
  conO := c_slices_ContainsFunc_expr_Or_expr_Expr
  ixA := c_slices_IndexFunc_expr_And_expr_Expr
  ixO := c_slices_IndexFunc_expr_Or_expr_Expr
theorem solverB : SolverBodies E Tryz.prog where
  search := c_pgate_solver_search
  spread := c_pgate_solver_spread
  back := c_pgate_solver_back
  index := c_slices_Index_Lint_int
  set := c_pgate_solver_set
  is := c_pgate_solver_is
theorem gate0B : GateBodies0 E Tryz.prog where
  s := solverB
  con := c_slices_ContainsFunc_Lint_int
  ixi := c_slices_IndexFunc_Lint_int
  check := c_gate_Check
  check1 := c_gate_Check_c1
  solve := c_gate_Solve
theorem sizeB : SizeBodies E Tryz.prog where
  size := c_expr_Size
  size1 := c_expr_Size_c1
  walk := c_expr_walk
theorem sortedB : SortedBodies E Tryz.prog where
  walk := c_expr_walk
  sorted := c_expr_sorted
  sorted1 := c_expr_sorted_c1
  names := c_expr_Names
  names1 := c_expr_Names_c1
  edges := c_expr_Edges
  edges1 := c_expr_Edges_c1
  sortN := sortNB
  sortC := fun hl hb => sortCB hl hb
  compN := compNB
  compC := fun hl hb => compCB hl hb
theorem ofB : OfBodies E Tryz.prog where
  add := c_pgate_builder_add
  and := c_pgate_builder_and
  fresh := c_pgate_builder_fresh
  lit := c_pgate_builder_lit
  of := c_gate_Of
  d := sortedB
  z := sizeB
theorem tellB (e : Int) : FX E Tryz.prog 53 [Er e] (Z e) :=
  FX.tell (g := 4) (X := 39) (fn := Tryz.f23) Tryz.func23 (by kernel_rfl) (by kernel_rfl) rfl rfl tell_nil (fun z w h => tell_hit z w h) e
theorem sameB : SameBodies E Tryz.prog where
  o := ofB
  g := gate0B
  same := c_gate_Same
  tell := tellB
theorem gatedB : GatedBodies E Tryz.prog where
  s := sameB
  p := parseB
  e := evalB
  gated := c_keep_gated
theorem tidyB : TidyBodies E Tryz.prog where
  n := nameB
  w := writeB
  tidy := c_expr_Tidy
  parts := c_expr_parts
  parts1 := c_expr_parts_c1
  con := c_slices_ContainsFunc_Lexpr_Expr_expr_Expr
  ix := c_slices_IndexFunc_Lexpr_Expr_expr_Expr
theorem bodies : GTidyBodies E Tryz.prog where
  g := gatedB
  t := tidyB
theorem walk {W : World} (x0 : Str) (x1 : Str) (x2 : List Str) (x3 : List Str) {v0 : Value} {v1 : Value} {v2 : Value} {v3 : Value} (r0 : VRel E (Cx.start W) (S x0) v0) (r1 : VRel E (Cx.start W) (S x1) v1) (r2 : VRel E (Cx.start W) (LS x2) v2) (r3 : VRel E (Cx.start W) (LS x3) v3) (hg : E.met W) : Calls Tryz.prog 3 #[v0, v1, v2, v3] W fun e w' => e = .returned (.bool true) ∧ Below W.heap.size W w' :=
  calls_law (args := [S x0, S x1, LS x2, LS x3]) (vs := [v0, v1, v2, v3]) Tryz.func3 ((b_keep_GateTidy (S x0) (S x1) (LS x2) (LS x3) ⟨[], 0⟩ _).mpr (GateTidy_body bodies x0 x1 x2 x3 0)) (by simp only [LRel]; exact ⟨v0, _, rfl, r0, ⟨v1, _, rfl, r1, ⟨v2, _, rfl, r2, ⟨v3, _, rfl, r3, rfl⟩⟩⟩⟩) hg
theorem met {W : World} (h : laidMetH Tryz.prog Rows.gateTidyRow.laid W) (hmx : W.cell? ⟨1, 0, none⟩ = some (.int .i64 (default : Mx).v)) : E.met W := fun g cs e => by
  by_cases hg0 : g = 4
  · subst hg0
    have e2 : some ([.val (.iface 141 (.agg #[.pointer (some ⟨4, 26, none⟩)]))] : List AV) = some cs := e
    injection e2 with e2
    subst e2
    have hc := handle_of_laid h
    refine ⟨by simp [AV.closedL, AV.closed], ?_⟩
    simp only [CRel, VRel, and_true]
    exact ⟨.inl (cell_spot hc).2, _, hc, rfl⟩
  by_cases hg1 : g = 6
  · subst hg1
    have e2 : some ([.val (.int .i64 (default : Mx).v)] : List AV) = some cs := e
    injection e2 with e2
    subst e2
    refine ⟨by simp [AV.closedL, AV.closed], ?_⟩
    simp only [CRel, VRel, and_true]
    exact ⟨.inl (cell_spot hmx).2, _, hmx, rfl⟩
  have e2 : (if g = 4 then some ([.val (.iface 141 (.agg #[.pointer (some ⟨4, 26, none⟩)]))] : List AV) else if g = 6 then some ([.val (.int .i64 (default : Mx).v)] : List AV) else none) = some cs := e
  rw [if_neg hg0, if_neg hg1] at e2
  cases e2
end
theorem lifted (os : Os) (started : os.Started) (H : Type) (enc : TypeId × Value → H) :
    ReturnsInHanded {} Tryz.checked os 3 .any (fun w args => (Rows.gateTidySpec.pre enc Tryz.prog Tryz.f3 [] false w args ∧ laidMetH Tryz.prog Rows.gateTidyRow.laid w) ∧ sizedMet enc Tryz.prog Tryz.f3 (OpenSpec.ofChange Rows.gateTidySpec) false w args)
      (Rows.gateTidySpec.post enc Tryz.prog Tryz.f3 false true false false) := by
  refine handed_shaped (C := Tryz.checked) (X := fun w => laidMetH Tryz.prog Rows.gateTidyRow.laid w) (fun _ _ hh h => h.of_heap hh) own started (by kernel_rfl) Tryz.func3
    (ChangeSpec.witness_at (enc := enc) (C := Tryz.checked) (os := os) (X := fun w _ => laidMetH Tryz.prog Rows.gateTidyRow.laid w) false (laidWorld os) #[.string ⟨#[]⟩, .string ⟨#[]⟩, .slice none 0 0, .slice none 0 0] 8 rfl (by kernel_rfl) (by kernel_rfl) (by kernel_rfl) (by kernel_rfl) (by kernel_rfl) (laidWorld_met os _)) ?_
  intro W base args ds gs before hsh hL hval0 hW hwt
  obtain ⟨mx, hmx⟩ := cell_of_shapedOpen_int (g := 1) (k := .i64) (zero := #[.int .i64 0]) hsh (of_decide_eq_true (by kernel_rfl)) (by kernel_rfl) rfl (by kernel_rfl) (by kernel_rfl) Tryz.underlying3
  letI : Inhabited Mx := ⟨⟨mx⟩⟩
  replace hmx : W.cell? ⟨1, 0, none⟩ = some (.int .i64 (default : Mx).v) := hmx
  have hval : ∀ (j : Nat) t v, Tryz.f3.params[j]? = some t → args[j]? = some v → Value.okWide Tryz.prog W .any base t v := hval0
  have hW' := hW
  obtain ⟨p, q, hA0, hV, rfl, hfz, hnd⟩ := hW
  have hA : DataW.TrodAll enc Tryz.prog W 0 (fun _ => true) true Tryz.f3.params.toList args.toList ds p := hA0
  rw [Tryz.params3] at hA hval
  obtain ⟨v0, vs0, d0, ds0, p0, q0, ha0, rfl, rfl, h0, r0⟩ := trodAll_cons hA
  obtain ⟨v1, vs1, d1, ds1, p1, q1, ha1, rfl, rfl, h1, r1⟩ := trodAll_cons r0
  obtain ⟨v2, vs2, d2, ds2, p2, q2, ha2, rfl, rfl, h2, r2⟩ := trodAll_cons r1
  obtain ⟨v3, vs3, d3, ds3, p3, q3, ha3, rfl, rfl, h3, r3⟩ := trodAll_cons r2
  obtain ⟨rfl, rfl, rfl⟩ := trodAll_nil r3
  obtain rfl : args = #[v0, v1, v2, v3] := by cases args; simp_all
  obtain ⟨rfl, rfl⟩ := trodVars_none hV
  have k0 := h0
  have lt0 : ∀ x ∈ p0, x.block < W.heap.size := by obtain ⟨m, hm⟩ := k0; exact DataW.trod_lt m _ _ _ hm
  obtain ⟨x0, g0, e0⟩ := (Dec.str Tryz.underlying9 : Dec enc Tryz.prog W E 9 _ _).arg_str (by first | exact Tryz.underlying9 | kernel_rfl) (hval 0 9 v0 rfl rfl) h0 (Sized.of_each hwt (j := 0) rfl rfl)
  have k1 := h1
  have lt1 : ∀ x ∈ p1, x.block < W.heap.size := by obtain ⟨m, hm⟩ := k1; exact DataW.trod_lt m _ _ _ hm
  obtain ⟨x1, g1, e1⟩ := (Dec.str Tryz.underlying9 : Dec enc Tryz.prog W E 9 _ _).arg_str (by first | exact Tryz.underlying9 | kernel_rfl) (hval 1 9 v1 rfl rfl) h1 (Sized.of_each hwt (j := 1) rfl rfl)
  have k2 := h2
  have lt2 : ∀ x ∈ p2, x.block < W.heap.size := by obtain ⟨m, hm⟩ := k2; exact DataW.trod_lt m _ _ _ hm
  obtain ⟨x2, g2, e2⟩ := (Dec.texts Tryz.underlying9 Tryz.underlying22 (by kernel_rfl) (show 0 < Tryz.prog.bytesOf 9 by rw [show Tryz.prog.bytesOf 9 = 16 by kernel_rfl]; decide) : Dec enc Tryz.prog W E 22 _ _).arg_slice (by first | exact Tryz.underlying22 | kernel_rfl) (hval 2 22 v2 rfl rfl) h2 (Sized.of_each hwt (j := 2) rfl rfl)
  have k3 := h3
  have lt3 : ∀ x ∈ p3, x.block < W.heap.size := by obtain ⟨m, hm⟩ := k3; exact DataW.trod_lt m _ _ _ hm
  obtain ⟨x3, g3, e3⟩ := (Dec.texts Tryz.underlying9 Tryz.underlying22 (by kernel_rfl) (show 0 < Tryz.prog.bytesOf 9 by rw [show Tryz.prog.bytesOf 9 = 16 by kernel_rfl]; decide) : Dec enc Tryz.prog W E 22 _ _).arg_slice (by first | exact Tryz.underlying22 | kernel_rfl) (hval 3 22 v3 rfl rfl) h3 (Sized.of_each hwt (j := 3) rfl rfl)
  clear hA0 hval0
  refine (walk x0 x1 x2 x3 e0 e1 e2 e3 (met hL hmx)).mono fun e W' ⟨he, bel⟩ => ?_
  subst he
  exact ⟨_, rfl, _, _, _, [], _, [], hW', trodAll_mk1 (shut_bool Tryz.underlying4 _), (trodAll_cons_mk (Below.trod laidOut (by kernel_rfl) (of_decide_eq_true (by kernel_rfl)) k0 bel lt0) (trodAll_cons_mk (Below.trod laidOut (by kernel_rfl) (of_decide_eq_true (by kernel_rfl)) k1 bel lt1) (trodAll_cons_mk (Below.trod laidOut (by kernel_rfl) (of_decide_eq_true (by kernel_rfl)) k2 bel lt2) (trodAll_cons_mk (Below.trod laidOut (by kernel_rfl) (of_decide_eq_true (by kernel_rfl)) k3 bel lt3) trodAll_mk0)))), rfl, bel.frame _, fun h => by cases h⟩

theorem over : Rows.gateTidyRow.holds Tryz.pinned (OpenSpec.ofChange Rows.gateTidySpec) :=
  OpenClaim.holds_of_wide 3 Tryz.f3 rfl rfl rfl rfl rfl rfl rfl ⟨rfl, rfl, rfl, rfl, rfl⟩ rfl rfl rfl rfl rfl (by kernel_rfl) Tryz.func3 (by kernel_rfl)
    (of_decide_eq_true (by kernel_rfl)) (by unfold Func.isWrapper; first | (rw [if_pos (by decide +kernel)]; kernel_rfl) | (rw [if_neg (by decide +kernel)]; exact ⟨rfl, rfl⟩))
    (fun os started H enc _ => lifted os started H enc)
theorem card : Rows.GateTidyCardSaid :=
  Claim7.holds_tied_plain_at .later [] [.data, .handle, .pinned] true (true, "9a5ede06529d2f00e73581ce8818476cfeccfa225d9a57a4a5d1719e548e09f1") true over (fun _ h => by cases h) (by kernel_rfl) (fun _ h => by cases h) gateTidy_row_tie rfl ⟨rfl, rfl⟩ (by kernel_rfl) rfl
    (fun f fn hf hfn => by
      obtain rfl : f = 3 := Option.some.inj ((show Tryz.prog.funcNamed "signalbox/signalboxkeep.GateTidy" = some 3 by kernel_rfl).symm.trans hf) |>.symm
      obtain rfl : fn = Tryz.f3 := (Option.some.inj (Tryz.func3.symm.trans hfn)).symm
      exact ⟨by kernel_rfl, fun j t ht => by
        rw [Tryz.params3] at ht
        have hm : t ∈ [9, 9, 22, 22] := by simpa using Array.mem_of_getElem? ht
        have hall : ([9, 9, 22, 22].all fun u => !Tryz.prog.wantsStandIn u) = true := by kernel_rfl
        exact (show Tryz.prog.wantsStandIn t = false by simpa using List.all_eq_true.1 hall t hm)⟩)
    (by kernel_rfl)
end Go.Proofs.YtmklekabnghafaaGreatDoor.gateTidy
namespace Go.Proofs.YtmklekabnghafaaGreatDoor
theorem gateTidy_holds : Rows.GateTidyCardSaid := gateTidy.card
#print axioms gateTidy_holds
end Go.Proofs.YtmklekabnghafaaGreatDoor
