/- ERRORS OF PACKAGE api; short names of the nodes' lemmas. CALLS THAT WRITE ONE BLOCK OF THE CALLER's, told by a pointer (readers of texts). CONTRACTS: slices of texts; strings.Trim at letters of one byte. CONTRACTS: which texts may be names: expr.Name, and the reference's NameCheck. EXPRESSIONS, AND HOW TEXTS ARE READ AS EXPRESSIONS: plain. (of the seat YtbogoilcfokihaaDoor) -/
import Derived.Test.YtbogoilcfokihaaDoorCore4
namespace Go.Sc
open Go
set_option linter.unusedVariables false

/-- an error of package api: a number; none is nil -/
def Er (e : Int) : AV := if e = 0 then nilE else .ifc 1 (Z e)
theorem Er_flat (e : Int) : (Er e).flat := by unfold Er; split <;> simp [AV.flat]
theorem Er_closed (e : Int) : (Er e).closed := by unfold Er; split <;> simp [AV.closed]
theorem Er_zero : Er 0 = nilE := rfl
theorem Er_ne {e : Int} (h : e ≠ 0) : Er e = .ifc 1 (Z e) := if_neg h
def At (e p : Int) : AV := .ifc 2 (.ptrF [Z e, Z p] 0)
theorem At_closed (e p : Int) : (At e p).closed := by simp [At, AV.closed, AV.closedL]
def atN (a : Int) (n : Nat) : Nat := ((a % 18446744073709551616) % (n : Int)).toNat
theorem atN_lt {a : Int} {n : Nat} (h : 0 < n) : atN a n < n := by
  unfold atN
  have h1 := Int.emod_nonneg (a % 18446744073709551616) (show (n : Int) ≠ 0 by omega)
  have h2 := Int.emod_lt_of_pos (a % 18446744073709551616) (show (0 : Int) < n by omega)
  omega
theorem wrap_u64 (a : Int) : IntKind.u64.wrap a = a % 18446744073709551616 := by
  simp [IntKind.wrap, IntKind.bits, IntKind.signed]
/-! ### maps -/
theorem wMapN.L {H : AH} {K : Kt} (h : K (.mapL H.bs.length H.ctr) ⟨H.bs ++ [.map H.ctr [] []], H.ctr + 1⟩) : wMapN H K := ⟨H.bs.length, .inl rfl, by simpa [AH.put] using h⟩
theorem maps_at {H : AH} {b g : Nat} {ks vs : List AV} (hb : H.bs[b]? = some (.map g ks vs)) : H.maps b g = some (ks, vs) := by simp [AH.maps, hb]
theorem insertA_new {d : TypeDesc} {k v : AV} {b g : Nat} {ks vs : List AV} {H : AH} (hb : H.bs[b]? = some (.map g ks vs)) (hd : keyIs d k = true) (hf : findK k ks 0 = some none) : insertA d (.mapL b g) k v H = some ⟨H.bs.set b (.map g (ks ++ [k]) (vs ++ [v])), H.ctr⟩ := by
  simp [insertA, hd, maps_at hb, hf]
theorem lookupA_L {d : TypeDesc} {z k : AV} {ok : Bool} {b g : Nat} {ks vs : List AV} {H : AH} (hb : H.bs[b]? = some (.map g ks vs)) (hd : keyIs d k = true) : lookupA d z ok (.mapL b g) k H = mapGet z ok k ks vs := by
  simp [lookupA, hd, maps_at hb]
def LB (l : List Bool) : AV := Lm (fun b => Bo b) l
theorem LB_closed (l : List Bool) : (LB l).closed := by simp [LB, Lm, AV.closed, closed_B]
theorem LB_scalar (l : List Bool) : (LB l).scalar = true := rfl
theorem retPack_two (a : List AV) (e : AV) : retPack [some (.agg a), some e] = some (.tup [.agg a, e]) := rfl
theorem put_two (a b a' b' : AV) : putL [a, b] 0 [a', b'] = some [a', b'] := rfl
theorem ret_one (a : List AV) : retPack [some (.agg a)] = some (.agg a) := rfl
/-- the first place of one in a list, or -1 -/
def idx {α : Type} [DecidableEq α] (l : List α) (x : α) : Int := if x ∈ l then (l.idxOf x : Nat) else -1
theorem idx_app {α : Type} [DecidableEq α] {pre rest : List α} {x : α} (h : x ∉ pre) : idx (pre ++ x :: rest) x = pre.length := by
  simp [idx, List.idxOf_append, h]
theorem idx_neg {α : Type} [DecidableEq α] {l : List α} {x : α} : idx l x < 0 ↔ x ∉ l := by
  unfold idx; split <;> simp_all <;> omega

theorem Y0 : type_of% @wGet_some := @wGet_some
theorem Y1 : type_of% @wPut_some := @wPut_some
theorem Y2 : type_of% @wDo_some := @wDo_some
theorem Y3 : type_of% @wBool_some := @wBool_some
theorem Y4 : type_of% @wAgg_some := @wAgg_some
theorem Y5 : type_of% @wIf_true := @wIf_true
theorem Y6 : type_of% @wIf_false := @wIf_false
theorem Y7 : type_of% @wGuard_ff := @wGuard_ff
theorem Y8 : type_of% @wGuard_tt := @wGuard_tt
theorem Y9 : type_of% @wGuard_ft := @wGuard_ft
theorem Ya : type_of% @wGuard_tf := @wGuard_tf
theorem Yb : type_of% @wGuard_undef := @wGuard_undef
theorem Yc : type_of% @pickA_t := @pickA_t
theorem Yd : type_of% @pickA_f := @pickA_f
theorem Ye : type_of% @unA_not := @unA_not
theorem Yf : type_of% @faddr_L := @faddr_L
theorem Yg : type_of% @faddr_F := @faddr_F
theorem Yh : type_of% @extractA_tup := @extractA_tup
theorem Yi : type_of% @lenA_N := @lenA_N
theorem Yj : type_of% @lenA_F := @lenA_F
theorem Yk : type_of% @lenA_L := @lenA_L
theorem Yl : type_of% @lenA_T := @lenA_T
theorem Ym : type_of% @lenA_nil := @lenA_nil
theorem Yn : type_of% @lenS_S := @lenS_S
theorem Yo : type_of% @load1_L := @load1_L
theorem Yp : type_of% @load1_F := @load1_F
theorem Yq : type_of% @loadN_L := @loadN_L
theorem Yr : type_of% @loadN_F := @loadN_F
theorem Ys : type_of% @blkCells_self := @blkCells_self
theorem Yt : type_of% @blkDo_self := @blkDo_self
theorem Yu : type_of% @binA_lss := @binA_lss
theorem Yv : type_of% @binA_leq := @binA_leq
theorem Yw : type_of% @binA_gtr := @binA_gtr
theorem Yx : type_of% @binA_geq := @binA_geq
theorem Yy : type_of% @binA_eql := @binA_eql
theorem Yz : type_of% @binA_neq := @binA_neq
theorem Y10 : type_of% @binA_seq := @binA_seq
theorem Y11 : type_of% @binA_sne := @binA_sne
theorem Y12 : type_of% @bnd_none := @bnd_none
theorem Y13 : type_of% @bnd_some := @bnd_some
theorem Y14 : type_of% @eqA_bool := @eqA_bool
theorem Y15 : type_of% @eqA_ifc := @eqA_ifc
theorem Y16 : type_of% @eqA_nilE := @eqA_nilE
theorem Y17 : type_of% @eqA_pF := @eqA_pF
theorem Y18 : type_of% @eqA_pL := @eqA_pL
theorem Y19 : type_of% @eqA_pN := @eqA_pN
theorem Y1a : type_of% @eqA_slF := @eqA_slF
theorem Y1b : type_of% @eqA_slL := @eqA_slL
theorem Y1c : type_of% @eqA_slT := @eqA_slT
theorem Y1d : type_of% @eqA_slZ := @eqA_slZ
theorem Y1e : type_of% @nilA_F := @nilA_F
theorem Y1f : type_of% @nilA_L := @nilA_L
theorem Y1g : type_of% @nilA_fn := @nilA_fn
theorem Y1h : type_of% @convA_int := @convA_int
theorem Y1i : type_of% @convA_str := @convA_str
theorem Y1j : type_of% @sub_two := @sub_two
theorem Y1k : type_of% @sub_three := @sub_three
theorem Y1l : type_of% @sub_four := @sub_four
theorem Y1n : type_of% @List.nil_append := @List.nil_append
theorem Y1o : type_of% @List.cons_append := @List.cons_append
theorem Y1p : type_of% @List.length_nil := @List.length_nil
theorem Y1q : type_of% @List.length_cons := @List.length_cons
theorem Y1r : type_of% @Nat.zero_add := @Nat.zero_add
theorem Y1s : type_of% @Nat.add_zero := @Nat.add_zero
theorem Y1t : type_of% @Nat.mul_one := @Nat.mul_one
theorem Y1w : type_of% @List.getElem?_cons_zero := @List.getElem?_cons_zero
theorem Y1x : type_of% @List.getElem?_cons_succ := @List.getElem?_cons_succ
theorem Y1y : type_of% @List.set_cons_zero := @List.set_cons_zero
theorem Y1z : type_of% @List.set_cons_succ := @List.set_cons_succ
theorem Y20 : type_of% @Option.map_some := @Option.map_some
theorem Y21 : type_of% @Option.bind_some := @Option.bind_some
theorem Y22 : type_of% @Bool.bne_false := @Bool.bne_false
theorem Y23 : type_of% @Bool.bne_true := @Bool.bne_true
theorem Y24 : type_of% @Bool.not_true := @Bool.not_true
theorem Y25 : type_of% @Bool.not_false := @Bool.not_false
theorem Y26 : type_of% @decide_true := @decide_true
theorem Y27 : type_of% @decide_false := @decide_false
theorem Y28 : type_of% @if_true := @if_true
theorem Y29 : type_of% @Bool.false_eq_true := @Bool.false_eq_true
theorem Y2a : type_of% @if_false := @if_false
theorem Y2b : type_of% @Int.toNat_natCast := @Int.toNat_natCast
theorem nd0 : ((((((type_of% @Y0) ∧ (type_of% @Y1)) ∧ ((type_of% @Y2) ∧ (type_of% @Y3))) ∧ (((type_of% @Y4) ∧ (type_of% @Y5)) ∧ ((type_of% @Y6) ∧ (type_of% @Y7)))) ∧ ((((type_of% @Y8) ∧ (type_of% @Y9)) ∧ ((type_of% @Ya) ∧ (type_of% @Yb))) ∧ (((type_of% @Yc) ∧ (type_of% @Yd)) ∧ ((type_of% @Ye) ∧ ((type_of% @Yf) ∧ (type_of% @Yg)))))) ∧ (((((type_of% @Yh) ∧ (type_of% @Yi)) ∧ ((type_of% @Yj) ∧ (type_of% @Yk))) ∧ (((type_of% @Yl) ∧ (type_of% @Ym)) ∧ ((type_of% @Yn) ∧ (type_of% @Yo)))) ∧ ((((type_of% @Yp) ∧ (type_of% @Yq)) ∧ ((type_of% @Yr) ∧ (type_of% @Ys))) ∧ (((type_of% @Yt) ∧ (type_of% @Yu)) ∧ ((type_of% @Yv) ∧ ((type_of% @Yw) ∧ (type_of% @Yx))))))) ∧ ((((((type_of% @Yy) ∧ (type_of% @Yz)) ∧ ((type_of% @Y10) ∧ (type_of% @Y11))) ∧ (((type_of% @Y12) ∧ (type_of% @Y13)) ∧ ((type_of% @Y14) ∧ (type_of% @Y15)))) ∧ ((((type_of% @Y16) ∧ (type_of% @Y17)) ∧ ((type_of% @Y18) ∧ (type_of% @Y19))) ∧ (((type_of% @Y1a) ∧ (type_of% @Y1b)) ∧ ((type_of% @Y1c) ∧ ((type_of% @Y1d) ∧ (type_of% @Y1e)))))) ∧ (((((type_of% @Y1f) ∧ (type_of% @Y1g)) ∧ ((type_of% @Y1h) ∧ (type_of% @Y1i))) ∧ (((type_of% @Y1j) ∧ (type_of% @Y1k)) ∧ ((type_of% @Y1l) ∧ ((type_of% @Y1r) ∧ (type_of% @Y1s))))) ∧ ((((type_of% @Y1t) ∧ (type_of% @Y22)) ∧ ((type_of% @Y23) ∧ (type_of% @Y24))) ∧ (((type_of% @Y25) ∧ (type_of% @Y26)) ∧ ((type_of% @Y27) ∧ ((type_of% @Y29) ∧ (type_of% @Y2b))))))) := ⟨⟨⟨⟨⟨⟨@Y0, @Y1⟩, ⟨@Y2, @Y3⟩⟩, ⟨⟨@Y4, @Y5⟩, ⟨@Y6, @Y7⟩⟩⟩, ⟨⟨⟨@Y8, @Y9⟩, ⟨@Ya, @Yb⟩⟩, ⟨⟨@Yc, @Yd⟩, ⟨@Ye, ⟨@Yf, @Yg⟩⟩⟩⟩⟩, ⟨⟨⟨⟨@Yh, @Yi⟩, ⟨@Yj, @Yk⟩⟩, ⟨⟨@Yl, @Ym⟩, ⟨@Yn, @Yo⟩⟩⟩, ⟨⟨⟨@Yp, @Yq⟩, ⟨@Yr, @Ys⟩⟩, ⟨⟨@Yt, @Yu⟩, ⟨@Yv, ⟨@Yw, @Yx⟩⟩⟩⟩⟩⟩, ⟨⟨⟨⟨⟨@Yy, @Yz⟩, ⟨@Y10, @Y11⟩⟩, ⟨⟨@Y12, @Y13⟩, ⟨@Y14, @Y15⟩⟩⟩, ⟨⟨⟨@Y16, @Y17⟩, ⟨@Y18, @Y19⟩⟩, ⟨⟨@Y1a, @Y1b⟩, ⟨@Y1c, ⟨@Y1d, @Y1e⟩⟩⟩⟩⟩, ⟨⟨⟨⟨@Y1f, @Y1g⟩, ⟨@Y1h, @Y1i⟩⟩, ⟨⟨@Y1j, @Y1k⟩, ⟨@Y1l, ⟨@Y1r, @Y1s⟩⟩⟩⟩, ⟨⟨⟨@Y1t, @Y22⟩, ⟨@Y23, @Y24⟩⟩, ⟨⟨@Y25, @Y26⟩, ⟨@Y27, ⟨@Y29, @Y2b⟩⟩⟩⟩⟩⟩⟩
end Go.Sc
namespace Go.Sc
open Go
set_option linter.unusedVariables false
set_option linter.unusedSimpArgs false

def S1 : Nat → Bool := fun i => decide (i ≠ 0)
structure PC (E : Env) (P : Program) (k sz : Nat) (cs : List AV) (args : Nat → Nat → List AV) (R0 : AV → List AV → Prop) : Prop where
  ok : ∀ n g, ACalls E P k (args 0 g) ⟨[.cells g sz cs], n⟩ fun r H' => ∃ cs', R0 r cs' ∧ H'.bs = [.cells g sz cs']
  ca : ∀ f g, AV.renL f (args 0 g) = args (f 0) g
  cc : AV.closedL cs
  cr : ∀ r cs', R0 r cs' → r.closed ∧ AV.closedL cs'
section
variable {E : Env} {P : Program} {k sz : Nat} {cs : List AV} {args : Nat → Nat → List AV} {R0 : AV → List AV → Prop}
theorem PC.calls (h : PC E P k sz cs args R0) {H : AH} {b g : Nat} (hb : H.bs[b]? = some (.cells g sz cs)) : ACalls E P k (args b g) H fun r H' => ∃ cs' n, R0 r cs' ∧ H' = ⟨H.bs.set b (.cells g sz cs'), n⟩ := by
  have hr : rmap [b] H.bs.length 0 = b := rfl
  have hcells : ∀ cs', AV.closedL cs' → (Blk.cells g sz cs').ren (rmap [b] H.bs.length) = .cells g sz cs' := fun cs' hc => by simp only [Blk.ren, AV.renL_closed _ hc]
  have := ACalls.frame (mv := [b]) (B := [.cells g sz cs]) (args0 := args 0 g) (args := args b g) (H := H) (R0 := fun r B' => ∃ cs', R0 r cs' ∧ B' = [.cells g sz cs'])
    (fun n => (h.ok n g).mono fun r H' ⟨cs', h1, h2⟩ => ⟨r, H', .refl _ _, ⟨cs', h1, h2⟩, by rw [h2]; rfl⟩) (by simp) rfl
    (fun i b' x h1 h2 => by
      cases i with
      | zero => simp at h1 h2; subst h1 h2; rw [hcells _ h.cc]; exact hb
      | succ i => simp at h1) (by rw [h.ca, hr])
  refine this.mono fun r H' ⟨r0, B', n, ⟨cs', h1, h2⟩, _, h3, h4⟩ => ⟨r, H', .refl _ _, cs', n, ?_, ?_⟩
  · rw [h3, AV.ren_closed _ (h.cr _ _ h1).1]; exact h1
  · rw [h4, h2, List.map_cons, List.map_nil, hcells _ (h.cr _ _ h1).2]; rfl
theorem PC.of (ca : ∀ f g, AV.renL f (args 0 g) = args (f 0) g) (cc : AV.closedL cs) (cr : ∀ r cs', R0 r cs' → r.closed ∧ AV.closedL cs')
    (h : ∀ n g (R : Kt), (∀ x r cs' rest n', Fk ⟨.cells g sz cs' :: rest, n'⟩ S1 x r → R0 r cs' → R x ⟨.cells g sz cs' :: rest, n'⟩) → ACalls E P k (args 0 g) ⟨[.cells g sz cs], n⟩ R) : PC E P k sz cs args R0 where
  ok := fun n g => (h n g (fun x H => ∃ r cs' rest n', H = ⟨.cells g sz cs' :: rest, n'⟩ ∧ Fk ⟨.cells g sz cs' :: rest, n'⟩ S1 x r ∧ R0 r cs') fun x r cs' rest n' h1 h2 => ⟨r, cs', rest, n', rfl, h1, h2⟩).mono (by
    rintro x H ⟨r, cs', rest, n', rfl, h1, h2⟩
    refine ⟨r, ⟨[.cells g sz cs'], n'⟩, ?_, cs', h2, rfl⟩
    exact ghost_kill (H := ⟨.cells g sz cs' :: rest, n'⟩) (H' := ⟨[.cells g sz cs'], n'⟩) (S := S1) rfl (.keep rfl (KB.same _) (.cut fun j x _ => .inl (by simp [S1]))) (.cons h1 .nil))
  ca := ca
  cc := cc
  cr := cr
theorem wCall.pc {H : AH} {b g : Nat} {args' : List AV} {K : Kt} (h : PC E P k sz cs args R0) (hb : H.bs[b]? = some (.cells g sz cs)) (ha : args' = args b g) (hK : ∀ r cs' n, R0 r cs' → K r ⟨H.bs.set b (.cells g sz cs'), n⟩) : wCall E P k args' H K :=
  ⟨_, ha ▸ h.calls hb, fun r _ ⟨cs', n, h1, h2⟩ => h2 ▸ hK r cs' n h1⟩
theorem wCallV.pc {H : AH} {b g : Nat} {fs as cc : List AV} {K : Kt} (h : PC E P k sz cs args R0) (hb : H.bs[b]? = some (.cells g sz cs)) (ha : fs ++ as ++ cc = args b g) (hK : ∀ r cs' n, R0 r cs' → K r ⟨H.bs.set b (.cells g sz cs'), n⟩) : wCallV E P (.fn k fs cc) as H K :=
  ⟨k, fs, cc, rfl, _, ha ▸ h.calls hb, fun r _ ⟨cs', n, h1, h2⟩ => h2 ▸ hK r cs' n h1⟩
end
end Go.Sc
namespace Go.Sc.F
open Go Go.Sc
set_option linter.unusedVariables false

/-- signalbox/signalboxlaw.ExprNames -/
def law_ExprNames (E : Env) (P : Program) (a0 : AV) (H : AH) (R : Kt) : Prop :=
  wGet (lenS a0) H fun t4 H =>
  wGet (binA .gtr t4 (.val (.int .i64 50))) H fun t5 H =>
  wGuard t5 false H (fun k => k a0 H) fun t7 H =>
  wGuard t5 false H (fun k => wCall E P 1 [t7] H k) fun t8 H =>
  wGuard t5 false H (fun k => k a0 H) fun t9 H =>
  wGuard t5 false H (fun k => wCall E P 2 [t9] H k) fun t10 H =>
  wGuard t5 false H (fun k => wBool (eqA .bool t8 t10) H false k) fun t11 H =>
  wGet (pickA t5 (.val (.bool true)) t11) H fun t12 H =>
  R t12 H

/-- signalbox/expr.Name -/
def expr_Name (E : Env) (P : Program) (a0 : AV) (H : AH) (R : Kt) : Prop :=
  wGet (binA .neq a0 (.val (.string ⟨#[]⟩))) H fun t4 H =>
  wGuard t4 true H (fun k => k a0 H) fun t6 H =>
  wGuard t4 true H (fun k => wGet (lenS t6) H k) fun t7 H =>
  wGuard t4 true H (fun k => wGet (binA .leq t7 (.val (.int .i64 8))) H k) fun t8 H =>
  wGet (pickA t4 t8 (.val (.bool false))) H fun t9 H =>
  wGuard t9 true H (fun k => k a0 H) fun t11 H =>
  wGuard t9 true H (fun k => wGet (idxStr t11 (.val (.int .i64 0))) H k) fun t12 H =>
  wGuard t9 true H (fun k => wGet (binA .geq t12 (.val (.int .u8 97))) H k) fun t13 H =>
  wGet (pickA t9 t13 (.val (.bool false))) H fun t14 H =>
  wGuard t14 true H (fun k => k a0 H) fun t16 H =>
  wGuard t14 true H (fun k => wGet (idxStr t16 (.val (.int .i64 0))) H k) fun t17 H =>
  wGuard t14 true H (fun k => wGet (binA .leq t17 (.val (.int .u8 122))) H k) fun t18 H =>
  wGet (pickA t14 t18 (.val (.bool false))) H fun t19 H =>
  wGuard t19 true H (fun k => k a0 H) fun t21 H =>
  wGuard t19 true H (fun k => wCall E P 4 [t21, (.val (.string ⟨#[97, 98, 99, 100, 101, 102, 103, 104, 105, 106, 107, 108, 109, 110, 111, 112, 113, 114, 115, 116, 117, 118, 119, 120, 121, 122, 48, 49, 50, 51, 52, 53, 54, 55, 56, 57, 95]⟩))] H k) fun t22 H =>
  wGuard t19 true H (fun k => wGet (binA .eql t22 (.val (.string ⟨#[]⟩))) H k) fun t23 H =>
  wGet (pickA t19 t23 (.val (.bool false))) H fun t24 H =>
  wGuard t24 true H (fun k => wNewS 1 9 (fillA (List.replicate 9 [(.val (.string ⟨#[]⟩))]).flatten [(0, 1, (.val (.string ⟨#[105, 110, 112, 117, 116]⟩))), (1, 1, (.val (.string ⟨#[99, 111, 105, 108]⟩))), (2, 1, (.val (.string ⟨#[116, 105, 109, 101, 114]⟩))), (3, 1, (.val (.string ⟨#[99, 111, 117, 110, 116, 101, 114]⟩))), (4, 1, (.val (.string ⟨#[115, 101, 116]⟩))), (5, 1, (.val (.string ⟨#[114, 101, 115, 101, 116]⟩))), (6, 1, (.val (.string ⟨#[114, 117, 110]⟩))), (7, 1, (.val (.string ⟨#[99, 111, 117, 110, 116]⟩))), (8, 1, (.val (.string ⟨#[122, 101, 114, 111]⟩)))]) H k) fun t26 H =>
  wGuard t24 true H (fun k => k a0 H) fun t27 H =>
  wGuard t24 true H (fun k => wCall E P 5 [t26, t27] H k) fun t28 H =>
  wGuard t24 true H (fun k => wGet (unA .not t28) H k) fun t29 H =>
  wGet (pickA t24 t29 (.val (.bool false))) H fun t30 H =>
  R t30 H

/-- signalbox/signalboxref.NameCheck -/
def ref_NameCheck (E : Env) (P : Program) (a0 : AV) (H : AH) (R : Kt) : Prop :=
  wGet (lenS a0) H fun t7 H =>
  wLoop 1 (fun I1 => I1 (.val (.int .i64 0)) H) fun I1 t8 H =>
    wGet (binA .lss t8 t7) H fun t9 H =>
    wIf t9 (
      wGet (idxStr a0 t8) H fun t13 H =>
      wGet (binA .geq t13 (.val (.int .u8 97))) H fun t15 H =>
      wGuard t15 true H (fun k => k t13 H) fun t17 H =>
      wGuard t15 true H (fun k => wGet (binA .leq t17 (.val (.int .u8 122))) H k) fun t18 H =>
      wGet (pickA t15 t18 (.val (.bool false))) H fun t19 H =>
      wGet (unA .not t19) H fun t21 H =>
      wGuard t21 true H (fun k => k t8 H) fun t23 H =>
      wGuard t21 true H (fun k => wGet (binA .eql t23 (.val (.int .i64 0))) H k) fun t24 H =>
      wGuard t21 true H (fun k => k t24 H) fun t25 H =>
      wGuard t25 false H (fun k => k t13 H) fun t26 H =>
      wGuard t25 false H (fun k => wGet (binA .geq t26 (.val (.int .u8 48))) H k) fun t27 H =>
      wGuard t25 false H (fun k => k t27 H) fun t28 H =>
      wGuard t28 true H (fun k => k t13 H) fun t29 H =>
      wGuard t28 true H (fun k => wGet (binA .leq t29 (.val (.int .u8 57))) H k) fun t30 H =>
      wGuard t25 false H (fun k => wGet (pickA t28 t30 (.val (.bool false))) H k) fun t31 H =>
      wGuard t25 false H (fun k => k t31 H) fun t32 H =>
      wGuard t32 false H (fun k => k t13 H) fun t33 H =>
      wGuard t32 false H (fun k => wGet (binA .eql t33 (.val (.int .u8 95))) H k) fun t34 H =>
      wGuard t25 false H (fun k => wGet (pickA t32 (.val (.bool true)) t34) H k) fun t35 H =>
      wGuard t25 false H (fun k => wGet (unA .not t35) H k) fun t36 H =>
      wGuard t21 true H (fun k => wGet (pickA t25 (.val (.bool true)) t36) H k) fun t37 H =>
      wGet (pickA t21 t37 (.val (.bool false))) H fun t38 H =>
      wIf t38 (
        R (.val (.bool false)) H) (
        wGet (binA .add t8 (.val (.int .i64 1))) H fun t39 H =>
        I1 t39 H)) (
      wJoin 1 (fun J2 =>
        wGet (binA .eql a0 (.val (.string ⟨#[]⟩))) H fun t42 H =>
        wIf t42 (
          J2 t42 H) (
          wGet (binA .eql a0 (.val (.string ⟨#[105, 110, 112, 117, 116]⟩))) H fun t43 H =>
          wIf t43 (
            J2 t43 H) (
            wGet (binA .eql a0 (.val (.string ⟨#[99, 111, 105, 108]⟩))) H fun t44 H =>
            wIf t44 (
              J2 t44 H) (
              wGet (binA .eql a0 (.val (.string ⟨#[116, 105, 109, 101, 114]⟩))) H fun t45 H =>
              wIf t45 (
                J2 t45 H) (
                wGet (binA .eql a0 (.val (.string ⟨#[99, 111, 117, 110, 116, 101, 114]⟩))) H fun t46 H =>
                wIf t46 (
                  J2 t46 H) (
                  wGet (binA .eql a0 (.val (.string ⟨#[115, 101, 116]⟩))) H fun t47 H =>
                  wIf t47 (
                    J2 t47 H) (
                    wGet (binA .eql a0 (.val (.string ⟨#[114, 101, 115, 101, 116]⟩))) H fun t48 H =>
                    wIf t48 (
                      J2 t48 H) (
                      wGet (binA .eql a0 (.val (.string ⟨#[114, 117, 110]⟩))) H fun t49 H =>
                      wIf t49 (
                        J2 t49 H) (
                        wGet (binA .eql a0 (.val (.string ⟨#[99, 111, 117, 110, 116]⟩))) H fun t50 H =>
                        wIf t50 (
                          J2 t50 H) (
                          wGet (binA .eql a0 (.val (.string ⟨#[122, 101, 114, 111]⟩))) H fun t51 H =>
                          J2 t51 H)))))))))) fun t41 H =>
        wIf t41 (
          R (.val (.bool false)) H) (
          wGet (lenS a0) H fun t53 H =>
          wGet (binA .leq t53 (.val (.int .i64 8))) H fun t54 H =>
          R t54 H))

/-- strings.Trim -/
def strings_Trim (E : Env) (P : Program) (a0 a1 : AV) (H : AH) (R : Kt) : Prop :=
  wGet (binA .eql a0 (.val (.string ⟨#[]⟩))) H fun t8 H =>
  wGuard t8 false H (fun k => k a1 H) fun t10 H =>
  wGuard t8 false H (fun k => wGet (binA .eql t10 (.val (.string ⟨#[]⟩))) H k) fun t11 H =>
  wGet (pickA t8 (.val (.bool true)) t11) H fun t12 H =>
  wIf t12 (
    R a0 H) (
    wGet (lenS a1) H fun t15 H =>
    wGet (binA .eql t15 (.val (.int .i64 1))) H fun t16 H =>
    wGuard t16 true H (fun k => k a1 H) fun t18 H =>
    wGuard t16 true H (fun k => wGet (idxStr t18 (.val (.int .i64 0))) H k) fun t19 H =>
    wGuard t16 true H (fun k => wGet (binA .lss t19 (.val (.int .u8 128))) H k) fun t20 H =>
    wGet (pickA t16 t20 (.val (.bool false))) H fun t21 H =>
    wIf t21 (
      wGet (idxStr a1 (.val (.int .i64 0))) H fun t24 H =>
      wGet (idxStr a1 (.val (.int .i64 0))) H fun t27 H =>
      wCall E P 6 [a0, t24] H fun t25 H =>
      wCall E P 7 [t25, t27] H fun t28 H =>
      R t28 H) (
      wCall E P 8 [a1] H fun t31 H =>
      wGet (extractA t31 0) H fun t32 H =>
      wGet (extractA t31 1) H fun t33 H =>
      wNew 256 (some (List.replicate 256 (.val (.bool false)))) H fun t5 H =>
      wPut (storeN 256 t5 t32 H) fun _u H =>
      wIf t33 (
        wCall E P 9 [a0, t5] H fun t36 H =>
        wCall E P 10 [t36, t5] H fun t37 H =>
        R t37 H) (
        wCall E P 11 [a0, a1] H fun t40 H =>
        wCall E P 12 [t40, a1] H fun t42 H =>
        R t42 H)))

/-- slices.Contains[[]string,string] -/
def slices_Contains_Lstring_string (E : Env) (P : Program) (a0 a1 : AV) (H : AH) (R : Kt) : Prop :=
  wCall E P 13 [a0, a1] H fun t7 H =>
  wGet (binA .geq t7 (.val (.int .i64 0))) H fun t8 H =>
  R t8 H

/-- strings.trimLeftByte -/
def strings_trimLeftByte (E : Env) (P : Program) (a0 a1 : AV) (H : AH) (R : Kt) : Prop :=
  wLoop 1 (fun I1 => I1 a0 H) fun I1 t0 H =>
    wGet (lenS t0) H fun t6 H =>
    wGet (binA .gtr t6 (.val (.int .i64 0))) H fun t7 H =>
    wGuard t7 true H (fun k => k t0 H) fun t9 H =>
    wGuard t7 true H (fun k => wGet (idxStr t9 (.val (.int .i64 0))) H k) fun t10 H =>
    wGuard t7 true H (fun k => k a1 H) fun t11 H =>
    wGuard t7 true H (fun k => wGet (binA .eql t10 t11) H k) fun t12 H =>
    wGet (pickA t7 t12 (.val (.bool false))) H fun t13 H =>
    wIf t13 (
      wGet (sliceS t0 (some (.val (.int .i64 1))) none) H fun t15 H =>
      I1 t15 H) (
      R t0 H)

/-- strings.trimRightByte -/
def strings_trimRightByte (E : Env) (P : Program) (a0 a1 : AV) (H : AH) (R : Kt) : Prop :=
  wLoop 1 (fun I1 => I1 a0 H) fun I1 t0 H =>
    wGet (lenS t0) H fun t6 H =>
    wGet (binA .gtr t6 (.val (.int .i64 0))) H fun t7 H =>
    wGuard t7 true H (fun k => k t0 H) fun t9 H =>
    wGuard t7 true H (fun k => k t0 H) fun t10 H =>
    wGuard t7 true H (fun k => wGet (lenS t10) H k) fun t11 H =>
    wGuard t7 true H (fun k => wGet (binA .sub t11 (.val (.int .i64 1))) H k) fun t12 H =>
    wGuard t7 true H (fun k => wGet (idxStr t9 t12) H k) fun t13 H =>
    wGuard t7 true H (fun k => k a1 H) fun t14 H =>
    wGuard t7 true H (fun k => wGet (binA .eql t13 t14) H k) fun t15 H =>
    wGet (pickA t7 t15 (.val (.bool false))) H fun t16 H =>
    wIf t16 (
      wGet (lenS t0) H fun t19 H =>
      wGet (binA .sub t19 (.val (.int .i64 1))) H fun t20 H =>
      wGet (sliceS t0 none (some t20)) H fun t21 H =>
      I1 t21 H) (
      R t0 H)

/-- strings.makeASCIISet -/
def strings_makeASCIISet (E : Env) (P : Program) (a0 : AV) (H : AH) (R : Kt) : Prop :=
  wNew 256 (some (List.replicate 256 (.val (.bool false)))) H fun t2 H =>
  wLoop 1 (fun I1 => I1 (.val (.int .i64 0)) H) fun I1 t4 H =>
    wGet (lenS a0) H fun t8 H =>
    wGet (binA .lss t4 t8) H fun t9 H =>
    wIf t9 (
      wGet (idxStr a0 t4) H fun t14 H =>
      wGet (binA .geq t14 (.val (.int .u8 128))) H fun t16 H =>
      wIf t16 (
        wGet (loadN 256 t2 H) H fun t17 H =>
        wPut (storeN 256 t2 t17 H) fun _u H =>
        wGet (retPack [loadN 256 t2 H, some (.val (.bool false))]) H R) (
        wGet (iaddrArr 1 256 t2 t14) H fun t19 H =>
        wPut (store1 t19 (.val (.bool true)) H) fun _u H =>
        wGet (binA .add t4 (.val (.int .i64 1))) H fun t11 H =>
        I1 t11 H)) (
      wGet (loadN 256 t2 H) H fun t20 H =>
      wPut (storeN 256 t2 t20 H) fun _u H =>
      wGet (retPack [loadN 256 t2 H, some (.val (.bool true))]) H R)

/-- strings.trimLeftASCII -/
def strings_trimLeftASCII (E : Env) (P : Program) (a0 a1 : AV) (H : AH) (R : Kt) : Prop :=
  wJoin 1 (fun J1 =>
    wLoop 1 (fun I2 => I2 a0 H) fun I2 t0 H =>
      wGet (lenS t0) H fun t6 H =>
      wGet (binA .gtr t6 (.val (.int .i64 0))) H fun t7 H =>
      wIf t7 (
        wGet (idxStr t0 (.val (.int .i64 0))) H fun t10 H =>
        wCall E P 14 [a1, t10] H fun t11 H =>
        wGet (unA .not t11) H fun t12 H =>
        wIf t12 (
          J1 t0 H) (
          wGet (sliceS t0 (some (.val (.int .i64 1))) none) H fun t14 H =>
          I2 t14 H)) (
        J1 t0 H)) fun t0_1 H =>
    R t0_1 H

/-- strings.trimRightASCII -/
def strings_trimRightASCII (E : Env) (P : Program) (a0 a1 : AV) (H : AH) (R : Kt) : Prop :=
  wJoin 1 (fun J1 =>
    wLoop 1 (fun I2 => I2 a0 H) fun I2 t0 H =>
      wGet (lenS t0) H fun t6 H =>
      wGet (binA .gtr t6 (.val (.int .i64 0))) H fun t7 H =>
      wIf t7 (
        wGet (lenS t0) H fun t11 H =>
        wGet (binA .sub t11 (.val (.int .i64 1))) H fun t12 H =>
        wGet (idxStr t0 t12) H fun t13 H =>
        wCall E P 14 [a1, t13] H fun t14 H =>
        wGet (unA .not t14) H fun t15 H =>
        wIf t15 (
          J1 t0 H) (
          wGet (lenS t0) H fun t18 H =>
          wGet (binA .sub t18 (.val (.int .i64 1))) H fun t19 H =>
          wGet (sliceS t0 none (some t19)) H fun t20 H =>
          I2 t20 H)) (
        J1 t0 H)) fun t0_1 H =>
    R t0_1 H

/-- strings.trimLeftUnicode -/
def strings_trimLeftUnicode (E : Env) (P : Program) (a0 a1 : AV) (H : AH) (R : Kt) : Prop :=
  wJoin 1 (fun J1 =>
    wLoop 1 (fun I2 => I2 a0 H) fun I2 t0 H =>
      wGet (lenS t0) H fun t8 H =>
      wGet (binA .gtr t8 (.val (.int .i64 0))) H fun t9 H =>
      wIf t9 (
        wCall E P 15 [t0] H fun t12 H =>
        wGet (extractA t12 0) H fun t13 H =>
        wGet (extractA t12 1) H fun t14 H =>
        wCall E P 16 [a1, t13] H fun t17 H =>
        wGet (unA .not t17) H fun t18 H =>
        wIf t18 (
          J1 t0 H) (
          wGet (sliceS t0 (some t14) none) H fun t21 H =>
          I2 t21 H)) (
        J1 t0 H)) fun t0_1 H =>
    R t0_1 H

/-- strings.trimRightUnicode -/
def strings_trimRightUnicode (E : Env) (P : Program) (a0 a1 : AV) (H : AH) (R : Kt) : Prop :=
  wJoin 1 (fun J1 =>
    wLoop 1 (fun I2 => I2 a0 H) fun I2 t0 H =>
      wGet (lenS t0) H fun t8 H =>
      wGet (binA .gtr t8 (.val (.int .i64 0))) H fun t9 H =>
      wIf t9 (
        wGet (lenS t0) H fun t12 H =>
        wGet (binA .sub t12 (.val (.int .i64 1))) H fun t13 H =>
        wGet (idxStr t0 t13) H fun t14 H =>
        wGet (convA (.int .i32) t14) H fun t15 H =>
        wJoin 2 (fun J3 =>
          wGet (binA .geq t15 (.val (.int .i32 128))) H fun t17 H =>
          wIf t17 (
            wCall E P 17 [t0] H fun t20 H =>
            wGet (extractA t20 0) H fun t21 H =>
            wGet (extractA t20 1) H fun t22 H =>
            J3 t21 t22 H) (
            J3 t15 (.val (.int .i64 1)) H)) fun t5 t6 H =>
          wCall E P 16 [a1, t5] H fun t25 H =>
          wGet (unA .not t25) H fun t26 H =>
          wIf t26 (
            J1 t0 H) (
            wGet (lenS t0) H fun t29 H =>
            wGet (binA .sub t29 t6) H fun t31 H =>
            wGet (sliceS t0 none (some t31)) H fun t32 H =>
            I2 t32 H)) (
        J1 t0 H)) fun t0_1 H =>
    R t0_1 H

/-- slices.Index[[]string,string] -/
def slices_Index_Lstring_string (E : Env) (P : Program) (a0 a1 : AV) (H : AH) (R : Kt) : Prop :=
  wGet (lenA a0) H fun t7 H =>
  wLoop 1 (fun I1 => I1 (.val (.int .i64 0)) H) fun I1 t8 H =>
    wGet (binA .lss t8 t7) H fun t9 H =>
    wIf t9 (
      wGet (iaddr 1 a0 t8) H fun t14 H =>
      wGet (load1 t14 H) H fun t15 H =>
      wGet (binA .eql a1 t15) H fun t16 H =>
      wIf t16 (
        R t8 H) (
        wGet (binA .add t8 (.val (.int .i64 1))) H fun t18 H =>
        I1 t18 H)) (
      R (.val (.int .i64 (-1))) H)

/-- (*strings.asciiSet).contains -/
def pstrings_asciiSet_contains (E : Env) (P : Program) (a0 a1 : AV) (H : AH) (R : Kt) : Prop :=
  wGet (nilA a0) H fun t7 H =>
  wGet (iaddrArr 1 256 t7 a1) H fun t8 H =>
  wGet (load1 t8 H) H fun t9 H =>
  R t9 H

/-- unicode/utf8.DecodeRuneInString -/
def unicode_utf8_DecodeRuneInString (E : Env) (P : Program) (a0 : AV) (H : AH) (R : Kt) : Prop :=
  wGet (binA .neq a0 (.val (.string ⟨#[]⟩))) H fun t5 H =>
  wGuard t5 true H (fun k => k a0 H) fun t7 H =>
  wGuard t5 true H (fun k => wGet (idxStr t7 (.val (.int .i64 0))) H k) fun t8 H =>
  wGuard t5 true H (fun k => wGet (binA .lss t8 (.val (.int .u8 128))) H k) fun t9 H =>
  wGet (pickA t5 t9 (.val (.bool false))) H fun t10 H =>
  wIf t10 (
    wGet (idxStr a0 (.val (.int .i64 0))) H fun t12 H =>
    wGet (convA (.int .i32) t12) H fun t13 H =>
    R (.tup [t13, (.val (.int .i64 1))]) H) (
    wCall E P 18 [a0] H fun t16 H =>
    wGet (extractA t16 0) H fun t17 H =>
    wGet (extractA t16 1) H fun t18 H =>
    R (.tup [t17, t18]) H)

/-- strings.ContainsRune -/
def strings_ContainsRune (E : Env) (P : Program) (a0 a1 : AV) (H : AH) (R : Kt) : Prop :=
  wCall E P 19 [a0, a1] H fun t7 H =>
  wGet (binA .geq t7 (.val (.int .i64 0))) H fun t8 H =>
  R t8 H

/-- unicode/utf8.DecodeLastRuneInString -/
def unicode_utf8_DecodeLastRuneInString (E : Env) (P : Program) (a0 : AV) (H : AH) (R : Kt) : Prop :=
  wGet (lenS a0) H fun t8 H =>
  wGet (binA .eql t8 (.val (.int .i64 0))) H fun t10 H =>
  wIf t10 (
    R (.tup [(.val (.int .i32 65533)), (.val (.int .i64 0))]) H) (
    wGet (binA .sub t8 (.val (.int .i64 1))) H fun t12 H =>
    wGet (idxStr a0 t12) H fun t15 H =>
    wGet (convA (.int .i32) t15) H fun t16 H =>
    wGet (binA .lss t16 (.val (.int .i32 128))) H fun t18 H =>
    wIf t18 (
      R (.tup [t16, (.val (.int .i64 1))]) H) (
      wGet (binA .sub t8 (.val (.int .i64 4))) H fun t21 H =>
      wGet (minA true t21 (.val (.int .i64 0))) H fun t22 H =>
      wJoin 1 (fun J1 =>
        wGet (binA .sub t12 (.val (.int .i64 1))) H fun t24 H =>
        wLoop 1 (fun I2 => I2 t24 H) fun I2 t5 H =>
          wGet (binA .geq t5 t22) H fun t27 H =>
          wIf t27 (
            wGet (idxStr a0 t5) H fun t32 H =>
            wCall E P 20 [t32] H fun t33 H =>
            wIf t33 (
              J1 t5 H) (
              wGet (binA .sub t5 (.val (.int .i64 1))) H fun t29 H =>
              I2 t29 H)) (
            J1 t5 H)) fun t5_1 H =>
        wJoin 1 (fun J3 =>
          wGet (binA .lss t5_1 (.val (.int .i64 0))) H fun t35 H =>
          wIf t35 (
            J3 (.val (.int .i64 0)) H) (
            J3 t5_1 H)) fun t5_2 H =>
          wGet (sliceS a0 (some t5_2) (some t8)) H fun t40 H =>
          wCall E P 15 [t40] H fun t41 H =>
          wGet (extractA t41 0) H fun t42 H =>
          wGet (extractA t41 1) H fun t43 H =>
          wGet (binA .add t5_2 t43) H fun t46 H =>
          wGet (binA .neq t46 t8) H fun t48 H =>
          wIf t48 (
            R (.tup [(.val (.int .i32 65533)), (.val (.int .i64 1))]) H) (
            R (.tup [t42, t43]) H)))

/-- unicode/utf8.decodeRuneInStringSlow -/
def unicode_utf8_decodeRuneInStringSlow (E : Env) (P : Program) (a0 : AV) (H : AH) (R : Kt) : Prop :=
  wGet (lenS a0) H fun t14 H =>
  wGet (binA .lss t14 (.val (.int .i64 1))) H fun t16 H =>
  wIf t16 (
    R (.tup [(.val (.int .i32 65533)), (.val (.int .i64 0))]) H) (
    wGet (idxStr a0 (.val (.int .i64 0))) H fun t18 H =>
    wGet (iaddrArr 1 256 (gptr E 1) t18) H fun t20 H =>
    wGet (load1 t20 H) H fun t21 H =>
    wGet (binA .geq t21 (.val (.int .u8 240))) H fun t23 H =>
    wIf t23 (
      wGet (convA (.int .i32) t21) H fun t25 H =>
      wGet (binA .shl t25 (.val (.int .u64 31))) H fun t26 H =>
      wGet (binA .shr t26 (.val (.int .u64 31))) H fun t27 H =>
      wGet (idxStr a0 (.val (.int .i64 0))) H fun t29 H =>
      wGet (convA (.int .i32) t29) H fun t30 H =>
      wGet (binA .andNot t30 t27) H fun t32 H =>
      wGet (binA .and (.val (.int .i32 65533)) t27) H fun t34 H =>
      wGet (binA .or t32 t34) H fun t35 H =>
      R (.tup [t35, (.val (.int .i64 1))]) H) (
      wGet (binA .and t21 (.val (.int .u8 7))) H fun t37 H =>
      wGet (convA (.int .i64) t37) H fun t38 H =>
      wGet (binA .shr t21 (.val (.int .u64 4))) H fun t40 H =>
      wGet (iaddrArr 2 16 (gptr E 2) t40) H fun t41 H =>
      wGet (loadN 2 t41 H) H fun t42 H =>
      wNew 2 (some [(.val (.int .u8 0)), (.val (.int .u8 0))]) H fun t9 H =>
      wPut (storeN 2 t9 t42 H) fun _u H =>
      wGet (binA .lss t14 t38) H fun t45 H =>
      wIf t45 (
        R (.tup [(.val (.int .i32 65533)), (.val (.int .i64 1))]) H) (
        wGet (idxStr a0 (.val (.int .i64 1))) H fun t47 H =>
        wGet (faddr 0 t9) H fun t49 H =>
        wGet (load1 t49 H) H fun t50 H =>
        wGet (binA .lss t47 t50) H fun t51 H =>
        wGuard t51 false H (fun k => wGet (faddr 1 t9) H k) fun t53 H =>
        wGuard t51 false H (fun k => wGet (load1 t53 H) H k) fun t54 H =>
        wGuard t51 false H (fun k => k t47 H) fun t55 H =>
        wGuard t51 false H (fun k => wGet (binA .lss t54 t55) H k) fun t56 H =>
        wGet (pickA t51 (.val (.bool true)) t56) H fun t57 H =>
        wIf t57 (
          R (.tup [(.val (.int .i32 65533)), (.val (.int .i64 1))]) H) (
          wGet (binA .leq t38 (.val (.int .i64 2))) H fun t59 H =>
          wIf t59 (
            wGet (binA .and t18 (.val (.int .u8 31))) H fun t61 H =>
            wGet (convA (.int .i32) t61) H fun t62 H =>
            wGet (binA .shl t62 (.val (.int .u64 6))) H fun t63 H =>
            wGet (binA .and t47 (.val (.int .u8 63))) H fun t65 H =>
            wGet (convA (.int .i32) t65) H fun t66 H =>
            wGet (binA .or t63 t66) H fun t67 H =>
            R (.tup [t67, (.val (.int .i64 2))]) H) (
            wGet (idxStr a0 (.val (.int .i64 2))) H fun t69 H =>
            wGet (binA .lss t69 (.val (.int .u8 128))) H fun t71 H =>
            wGuard t71 false H (fun k => k t69 H) fun t73 H =>
            wGuard t71 false H (fun k => wGet (binA .lss (.val (.int .u8 191)) t73) H k) fun t74 H =>
            wGet (pickA t71 (.val (.bool true)) t74) H fun t75 H =>
            wIf t75 (
              R (.tup [(.val (.int .i32 65533)), (.val (.int .i64 1))]) H) (
              wGet (binA .leq t38 (.val (.int .i64 3))) H fun t77 H =>
              wIf t77 (
                wGet (binA .and t18 (.val (.int .u8 15))) H fun t79 H =>
                wGet (convA (.int .i32) t79) H fun t80 H =>
                wGet (binA .shl t80 (.val (.int .u64 12))) H fun t81 H =>
                wGet (binA .and t47 (.val (.int .u8 63))) H fun t83 H =>
                wGet (convA (.int .i32) t83) H fun t84 H =>
                wGet (binA .shl t84 (.val (.int .u64 6))) H fun t85 H =>
                wGet (binA .or t81 t85) H fun t86 H =>
                wGet (binA .and t69 (.val (.int .u8 63))) H fun t88 H =>
                wGet (convA (.int .i32) t88) H fun t89 H =>
                wGet (binA .or t86 t89) H fun t90 H =>
                R (.tup [t90, (.val (.int .i64 3))]) H) (
                wGet (idxStr a0 (.val (.int .i64 3))) H fun t92 H =>
                wGet (binA .lss t92 (.val (.int .u8 128))) H fun t94 H =>
                wGuard t94 false H (fun k => k t92 H) fun t96 H =>
                wGuard t94 false H (fun k => wGet (binA .lss (.val (.int .u8 191)) t96) H k) fun t97 H =>
                wGet (pickA t94 (.val (.bool true)) t97) H fun t98 H =>
                wIf t98 (
                  R (.tup [(.val (.int .i32 65533)), (.val (.int .i64 1))]) H) (
                  wGet (binA .and t18 (.val (.int .u8 7))) H fun t100 H =>
                  wGet (convA (.int .i32) t100) H fun t101 H =>
                  wGet (binA .shl t101 (.val (.int .u64 18))) H fun t102 H =>
                  wGet (binA .and t47 (.val (.int .u8 63))) H fun t104 H =>
                  wGet (convA (.int .i32) t104) H fun t105 H =>
                  wGet (binA .shl t105 (.val (.int .u64 12))) H fun t106 H =>
                  wGet (binA .or t102 t106) H fun t107 H =>
                  wGet (binA .and t69 (.val (.int .u8 63))) H fun t109 H =>
                  wGet (convA (.int .i32) t109) H fun t110 H =>
                  wGet (binA .shl t110 (.val (.int .u64 6))) H fun t111 H =>
                  wGet (binA .or t107 t111) H fun t112 H =>
                  wGet (binA .and t92 (.val (.int .u8 63))) H fun t114 H =>
                  wGet (convA (.int .i32) t114) H fun t115 H =>
                  wGet (binA .or t112 t115) H fun t116 H =>
                  R (.tup [t116, (.val (.int .i64 4))]) H))))))))

/-- strings.IndexRune -/
def strings_IndexRune (E : Env) (P : Program) (a0 a1 : AV) (H : AH) (R : Kt) : Prop :=
  wGet (binA .leq (.val (.int .i32 0)) a1) H fun t162 H =>
  wGuard t162 true H (fun k => k a1 H) fun t164 H =>
  wGuard t162 true H (fun k => wGet (binA .lss t164 (.val (.int .i32 128))) H k) fun t165 H =>
  wGet (pickA t162 t165 (.val (.bool false))) H fun t166 H =>
  wIf t166 (
    wGet (convA (.int .u8) a1) H fun t169 H =>
    wCall E P 21 [a0, t169] H fun t170 H =>
    R t170 H) (
    wGet (binA .eql a1 (.val (.int .i32 65533))) H fun t173 H =>
    wIf t173 (
      False) (
      wCall E P 22 [a1] H fun t185 H =>
      wGet (unA .not t185) H fun t186 H =>
      wIf t186 (
        R (.val (.int .i64 (-1))) H) (
        False)))

/-- unicode/utf8.RuneStart -/
def unicode_utf8_RuneStart (E : Env) (P : Program) (a0 : AV) (H : AH) (R : Kt) : Prop :=
  wGet (binA .and a0 (.val (.int .u8 192))) H fun t4 H =>
  wGet (binA .neq t4 (.val (.int .u8 128))) H fun t5 H =>
  R t5 H

/-- strings.IndexByte -/
def strings_IndexByte (E : Env) (P : Program) (a0 a1 : AV) (H : AH) (R : Kt) : Prop :=
  wCall E P 23 [a0, a1] H fun t7 H =>
  R t7 H

/-- unicode/utf8.ValidRune -/
def unicode_utf8_ValidRune (E : Env) (P : Program) (a0 : AV) (H : AH) (R : Kt) : Prop :=
  wGet (binA .leq (.val (.int .i32 0)) a0) H fun t5 H =>
  wGuard t5 true H (fun k => k a0 H) fun t7 H =>
  wGuard t5 true H (fun k => wGet (binA .lss t7 (.val (.int .i32 55296))) H k) fun t8 H =>
  wGet (pickA t5 t8 (.val (.bool false))) H fun t9 H =>
  wIf t9 (
    R (.val (.bool true)) H) (
    wGet (binA .lss (.val (.int .i32 57343)) a0) H fun t12 H =>
    wGuard t12 true H (fun k => k a0 H) fun t14 H =>
    wGuard t12 true H (fun k => wGet (binA .leq t14 (.val (.int .i32 1114111))) H k) fun t15 H =>
    wGet (pickA t12 t15 (.val (.bool false))) H fun t16 H =>
    wIf t16 (
      R (.val (.bool true)) H) (
      R (.val (.bool false)) H))

/-- internal/bytealg.Cutover -/
def internal_bytealg_Cutover (E : Env) (P : Program) (a0 : AV) (H : AH) (R : Kt) : Prop :=
  wGet (binA .add a0 (.val (.int .i64 16))) H fun t4 H =>
  wGet (binA .quo t4 (.val (.int .i64 8))) H fun t5 H =>
  R t5 H

/-- internal/stringslite.IndexByte -/
def internal_stringslite_IndexByte (E : Env) (P : Program) (a0 a1 : AV) (H : AH) (R : Kt) : Prop :=
  wCall E P 25 [a0, a1] H fun t7 H =>
  R t7 H

end Go.Sc.F
namespace Go.Sc
open Go
set_option linter.unusedSimpArgs false
set_option linter.unusedVariables false

section
variable {E : Env} {P : Program}
theorem IndexS_spec (hB : Body2 E P 13 F.slices_Index_Lstring_string) (l : List Str) (s : Str) (hl : l.length < 1099511627776) : FX E P 13 [Lm S l, S s] (Z (idx l s)) := by
  refine FX.of' ⟨closed_S l, trivial, trivial⟩ trivial fun n R hR => hB _ _ _ _ ?_
  unfold F.slices_Index_Lstring_string
  simp only [nd0, Y1n, Y1o, Y1p, Y1q, Y1w, Y1x, Y1y, Y1z, Y20, Y21, Y28, Y2a, AV.cells?, Nat.reduceAdd, Nat.reduceMul]
  refine wLoop.one (fun m t H => ∃ pre rest, l = pre ++ rest ∧ m = rest.length ∧ t = Z pre.length ∧ s ∉ pre) l.length (gh1.mk ⟨[], l, rfl, rfl, rfl, by simp⟩) ?_
  rintro m t H ⟨pre, rest, rfl, rfl, rfl, hs⟩
  simp only [nd0, Y1n, Y1o, Y1p, Y1q, Y1w, Y1x, Y1y, Y1z, Y20, Y21, Y28, Y2a, AV.cells?, Nat.reduceAdd, Nat.reduceMul]
  cases rest with
  | nil =>
    simp only [nd0, Y1n, Y1o, Y1p, Y1q, Y1w, Y1x, Y1y, Y1z, Y20, Y21, Y28, Y2a, AV.cells?, Nat.reduceAdd, Nat.reduceMul, List.append_nil, Int.lt_irrefl]
    exact hR _ _ (by rw [idx, if_neg (by simpa using hs)])
  | cons x rest =>
    have h1 : ((pre.length : Int) < ((pre ++ x :: rest).length : Int)) := by simp; omega
    simp only [nd0, Y1n, Y1o, Y1p, Y1q, Y1w, Y1x, Y1y, Y1z, Y20, Y21, Y28, Y2a, AV.cells?, Nat.reduceAdd, Nat.reduceMul, h1]
    rw [iaddr_Nn (by simp)]
    simp only [nd0, Y1n, Y1o, Y1p, Y1q, Y1w, Y1x, Y1y, Y1z, Y20, Y21, Y28, Y2a, AV.cells?, Nat.reduceAdd, Nat.reduceMul, at_mid]
    by_cases hx : s = x
    · subst hx
      simp only [nd0, Y1n, Y1o, Y1p, Y1q, Y1w, Y1x, Y1y, Y1z, Y20, Y21, Y28, Y2a, AV.cells?, Nat.reduceAdd, Nat.reduceMul]
      exact hR _ _ (by rw [idx_app hs])
    · have : ¬ (s = x) := hx
      simp only [nd0, Y1n, Y1o, Y1p, Y1q, Y1w, Y1x, Y1y, Y1z, Y20, Y21, Y28, Y2a, AV.cells?, Nat.reduceAdd, Nat.reduceMul, this]
      rw [binA_succ (by simp at hl; omega)]
      simp only [nd0, Y1n, Y1o, Y1p, Y1q, Y1w, Y1x, Y1y, Y1z, Y20, Y21, Y28, Y2a, AV.cells?, Nat.reduceAdd, Nat.reduceMul]
      exact back1.mk rest.length (by simp) ⟨pre ++ [x], rest, by simp, rfl, by simp, by simp [hs, hx]⟩
theorem ContainsS_spec (hI : ∀ (l : List Str) s, l.length < 1099511627776 → FX E P 13 [Lm S l, S s] (Z (idx l s))) (hB : Body2 E P 5 F.slices_Contains_Lstring_string) (l : List Str) (s : Str) (hl : l.length < 1099511627776) : FX E P 5 [Lm S l, S s] (Bo (decide (s ∈ l))) := by
  refine FX.of' ⟨closed_S l, trivial, trivial⟩ trivial fun n R hR => hB _ _ _ _ ?_
  unfold F.slices_Contains_Lstring_string
  refine wCall.fx (hI l s hl) fun n => ?_
  simp only [nd0, Y1n, Y1o, Y1p, Y1q, Y1w, Y1x, Y1y, Y1z, Y20, Y21, Y28, Y2a, AV.cells?, Nat.reduceAdd, Nat.reduceMul]
  refine hR _ _ ?_
  have : decide ((0 : Int) ≤ idx l s) = decide (s ∈ l) := decide_eq_decide.2 (by rw [← Int.not_lt, idx_neg, Classical.not_not])
  rw [this]

/-! ### Trim -/
/-- without the letters of 'p' at its end -/
def trimR (p : UInt8 → Bool) (s : Str) : Str := (s.reverse.dropWhile p).reverse
def trimL (p : UInt8 → Bool) (s : Str) : Str := s.dropWhile p
theorem trimR_snoc {p : UInt8 → Bool} {s : Str} {c : UInt8} : trimR p (s ++ [c]) = if p c then trimR p s else s ++ [c] := by
  simp only [trimR, List.reverse_append, List.reverse_cons, List.reverse_nil, List.nil_append, List.singleton_append, List.dropWhile_cons]
  split <;> simp
theorem snoc_of {s : Str} (h : s ≠ []) : ∃ t c, s = t ++ [c] := ⟨s.dropLast, s.getLast h, (List.dropLast_concat_getLast h).symm⟩
theorem idxS_last {t : Str} {c : UInt8} : idxStr (S (t ++ [c])) (Z t.length) = some (By c) := by
  rw [idxS (by simp)]; simp
theorem idxS_zero {s : Str} {c : UInt8} : idxStr (S (c :: s)) (Z 0) = some (By c) := by
  have := idxS (s := c :: s) (i := 0) (by simp)
  simpa using this
theorem sliceS_tail {s : Str} {c : UInt8} : sliceS (S (c :: s)) (some (Z 1)) none = some (S s) := by
  rw [sliceS_S (l := 1) (h := (c :: s).length) rfl rfl (by omega) (by simp; omega) (by simp)]
  have : ((c :: s).take ((c :: s).length : Int).toNat) = c :: s := by rw [Int.toNat_natCast, List.take_length]
  rw [this]; simp
theorem sliceS_init {s : Str} {c : UInt8} : sliceS (S (s ++ [c])) none (some (Z s.length)) = some (S s) := by
  rw [sliceS_S (l := 0) (h := s.length) rfl rfl (by omega) (by omega) (by simp; omega)]
  simp
theorem by_eq {a b : UInt8} : decide (((a.toNat : Nat) : Int) = ((b.toNat : Nat) : Int)) = decide (a = b) := decide_eq_decide.2 ⟨fun h => UInt8.toNat_inj.1 (by omega), fun h => by rw [h]⟩

theorem trimLB_spec (hB : Body2 E P 7 F.strings_trimLeftByte) (s : Str) (c : UInt8) : FX E P 7 [S s, By c] (S (trimL (· = c) s)) := by
  refine FX.of' (by simp [AV.closed, AV.closedL]) trivial fun n R hR => hB _ _ _ _ ?_
  unfold F.strings_trimLeftByte
  refine wLoop.one (fun m t H => ∃ r, t = S r ∧ m = r.length ∧ trimL (· = c) r = trimL (· = c) s) s.length (gh1.mk ⟨s, rfl, rfl, rfl⟩) ?_
  rintro m t H ⟨r, rfl, rfl, hr⟩
  simp only [nd0, Y1n, Y1o, Y1p, Y1q, Y1w, Y1x, Y1y, Y1z, Y20, Y21, Y28, Y2a, AV.cells?, Nat.reduceAdd, Nat.reduceMul]
  cases r with
  | nil =>
    simp only [nd0, Y1n, Y1o, Y1p, Y1q, Y1w, Y1x, Y1y, Y1z, Y20, Y21, Y28, Y2a, AV.cells?, Nat.reduceAdd, Nat.reduceMul, show ¬ ((0 : Int) < ((0 : Nat) : Int)) by simp]
    exact hR _ _ (by rw [← hr]; rfl)
  | cons d r =>
    have h1 : ((0 : Int) < ((r.length + 1 : Nat) : Int)) := by omega
    simp only [nd0, Y1n, Y1o, Y1p, Y1q, Y1w, Y1x, Y1y, Y1z, Y20, Y21, Y28, Y2a, AV.cells?, Nat.reduceAdd, Nat.reduceMul, h1]
    rw [idxS_zero]
    simp only [nd0, Y1n, Y1o, Y1p, Y1q, Y1w, Y1x, Y1y, Y1z, Y20, Y21, Y28, Y2a, AV.cells?, Nat.reduceAdd, Nat.reduceMul, by_eq]
    by_cases hd : d = c
    · subst hd
      simp only [nd0, Y1n, Y1o, Y1p, Y1q, Y1w, Y1x, Y1y, Y1z, Y20, Y21, Y28, Y2a, AV.cells?, Nat.reduceAdd, Nat.reduceMul]
      rw [sliceS_tail]
      simp only [nd0, Y1n, Y1o, Y1p, Y1q, Y1w, Y1x, Y1y, Y1z, Y20, Y21, Y28, Y2a, AV.cells?, Nat.reduceAdd, Nat.reduceMul]
      exact back1.mk r.length (by simp) ⟨r, rfl, rfl, by rw [← hr]; simp [trimL]⟩
    · simp only [nd0, Y1n, Y1o, Y1p, Y1q, Y1w, Y1x, Y1y, Y1z, Y20, Y21, Y28, Y2a, AV.cells?, Nat.reduceAdd, Nat.reduceMul, hd]
      exact hR _ _ (by rw [← hr]; simp [trimL, hd])
theorem trimRB_spec (hB : Body2 E P 6 F.strings_trimRightByte) (s : Str) (c : UInt8) (hs : s.length < 1099511627776) : FX E P 6 [S s, By c] (S (trimR (· = c) s)) := by
  refine FX.of' (by simp [AV.closed, AV.closedL]) trivial fun n R hR => hB _ _ _ _ ?_
  unfold F.strings_trimRightByte
  refine wLoop.one (fun m t H => ∃ r, t = S r ∧ m = r.length ∧ r.length ≤ s.length ∧ trimR (· = c) r = trimR (· = c) s) s.length (gh1.mk ⟨s, rfl, rfl, Nat.le_refl _, rfl⟩) ?_
  rintro m t H ⟨r, rfl, rfl, hle, hr⟩
  simp only [nd0, Y1n, Y1o, Y1p, Y1q, Y1w, Y1x, Y1y, Y1z, Y20, Y21, Y28, Y2a, AV.cells?, Nat.reduceAdd, Nat.reduceMul]
  by_cases h0 : r = []
  · subst h0
    simp only [nd0, Y1n, Y1o, Y1p, Y1q, Y1w, Y1x, Y1y, Y1z, Y20, Y21, Y28, Y2a, AV.cells?, Nat.reduceAdd, Nat.reduceMul, show ¬ ((0 : Int) < ((0 : Nat) : Int)) by simp]
    exact hR _ _ (by rw [← hr]; rfl)
  · obtain ⟨t, d, rfl⟩ := snoc_of h0
    simp only [List.length_append, List.length_singleton] at hle
    have h1 : ((0 : Int) < ((t.length + 1 : Nat) : Int)) := by omega
    have h2 : ((t.length + 1 : Nat) : Int) - 1 = (t.length : Int) := by omega
    simp only [nd0, Y1n, Y1o, Y1p, Y1q, Y1w, Y1x, Y1y, Y1z, Y20, Y21, Y28, Y2a, AV.cells?, Nat.reduceAdd, Nat.reduceMul, len_snoc, h1]
    rw [binA_sub (by omega), h2]
    simp only [nd0, Y1n, Y1o, Y1p, Y1q, Y1w, Y1x, Y1y, Y1z, Y20, Y21, Y28, Y2a, AV.cells?, Nat.reduceAdd, Nat.reduceMul]
    rw [idxS_last]
    simp only [nd0, Y1n, Y1o, Y1p, Y1q, Y1w, Y1x, Y1y, Y1z, Y20, Y21, Y28, Y2a, AV.cells?, Nat.reduceAdd, Nat.reduceMul, by_eq]
    by_cases hd : d = c
    · subst hd
      simp only [nd0, Y1n, Y1o, Y1p, Y1q, Y1w, Y1x, Y1y, Y1z, Y20, Y21, Y28, Y2a, AV.cells?, Nat.reduceAdd, Nat.reduceMul]
      rw [sliceS_init]
      simp only [nd0, Y1n, Y1o, Y1p, Y1q, Y1w, Y1x, Y1y, Y1z, Y20, Y21, Y28, Y2a, AV.cells?, Nat.reduceAdd, Nat.reduceMul]
      exact back1.mk t.length (by simp) ⟨t, rfl, rfl, by omega, by rw [← hr, trimR_snoc]; simp⟩
    · simp only [nd0, Y1n, Y1o, Y1p, Y1q, Y1w, Y1x, Y1y, Y1z, Y20, Y21, Y28, Y2a, AV.cells?, Nat.reduceAdd, Nat.reduceMul, hd]
      exact hR _ _ (by rw [← hr, trimR_snoc]; simp [hd])

/-- cells of a set of letters -/
def tbl (p : UInt8 → Bool) : List AV := (List.range 256).map fun i => Bo (p (UInt8.ofNat i))
theorem tbl_len (p : UInt8 → Bool) : (tbl p).length = 256 := by simp [tbl]
theorem tbl_get (p : UInt8 → Bool) (c : UInt8) : (tbl p)[c.toNat]? = some (Bo (p c)) := by
  have := c.toNat_lt
  simp only [tbl, List.getElem?_map]
  rw [List.getElem?_range (by omega)]
  simp
theorem tbl_none : tbl (fun _ => false) = List.replicate 256 (Bo false) := by
  unfold tbl
  rw [List.map_const']
  simp
theorem tbl_set (p : UInt8 → Bool) (c : UInt8) : (tbl p).set c.toNat (Bo true) = tbl (fun d => p d || decide (d = c)) := by
  apply List.ext_getElem?
  intro i
  have hc := c.toNat_lt
  rw [List.getElem?_set]
  by_cases hi : i < 256
  · have h1 : (UInt8.ofNat i).toNat = i := by simp; omega
    by_cases h : c.toNat = i
    · subst h
      rw [if_pos rfl, if_pos (by rw [tbl_len]; omega), tbl_get]; simp
    · rw [if_neg h]
      have h2 : ¬ UInt8.ofNat i = c := fun e => h (by rw [← e, h1])
      have g1 := tbl_get p (UInt8.ofNat i)
      have g2 := tbl_get (fun d => p d || decide (d = c)) (UInt8.ofNat i)
      rw [h1] at g1 g2
      rw [g1, g2]; simp [h2]
  · have : ¬ c.toNat = i := by omega
    rw [if_neg this, List.getElem?_eq_none (by rw [tbl_len]; omega), List.getElem?_eq_none (by rw [tbl_len]; omega)]
theorem tbl_scalar (p : UInt8 → Bool) : (tbl p).all AV.scalar = true := by
  rw [List.all_eq_true]
  intro x hx
  obtain ⟨i, _, rfl⟩ := List.mem_map.1 hx
  rfl
theorem tbl_closed (p : UInt8 → Bool) : AV.closedL (tbl p) := closed_map (f := fun i => Bo (p (UInt8.ofNat i))) (fun _ => by trivial) _
theorem sub_all {cs : List AV} {n : Nat} (h : cs.length = n) : subL cs 0 n = some cs := by
  subst h; simp [subL]
theorem put_all {cs xs : List AV} (h : xs.length = cs.length) : putL cs 0 xs = some xs := by
  simp [putL, h]

theorem asciiHas_spec (hB : Body2 E P 14 F.pstrings_asciiSet_contains) (p : UInt8 → Bool) (c : UInt8) : FX E P 14 [.ptrF (tbl p) 0, By c] (Bo (p c)) := by
  refine FX.of' ⟨by simpa [AV.closed] using tbl_closed p, trivial, trivial⟩ trivial fun n R hR => hB _ _ _ _ ?_
  unfold F.pstrings_asciiSet_contains
  have := c.toNat_lt
  simp only [nd0, Y1n, Y1o, Y1p, Y1q, Y1w, Y1x, Y1y, Y1z, Y20, Y21, Y28, Y2a, AV.cells?, Nat.reduceAdd, Nat.reduceMul]
  rw [iaddrArr_F (by omega)]
  simp only [nd0, Y1n, Y1o, Y1p, Y1q, Y1w, Y1x, Y1y, Y1z, Y20, Y21, Y28, Y2a, AV.cells?, Nat.reduceAdd, Nat.reduceMul, tbl_get]
  exact hR _ _ rfl
/-- letters of one byte -/
def ascii (s : Str) : Prop := ∀ c ∈ s, c < 128
theorem makeSet_spec (hB : Body1 E P 8 F.strings_makeASCIISet) (s : Str) (hs : ascii s) (hl : s.length < 1099511627776) : FX E P 8 [S s] (.tup [.agg (tbl fun c => decide (c ∈ s)), Bo true]) := by
  refine FX.of' (by simp [AV.closed, AV.closedL]) (by simp [AV.closed, AV.closedL]; exact tbl_closed _) fun n R hR => hB _ _ _ ?_
  unfold F.strings_makeASCIISet
  rw [← tbl_none]
  refine wNew.L rfl ?_
  refine wLoop.one (fun m t H => ∃ pre rest, s = pre ++ rest ∧ t = Z pre.length ∧ m = rest.length ∧ H = ⟨[.cells n 256 (tbl fun c => decide (c ∈ pre))], n + 1⟩) s.length (gh1.mk ⟨[], s, rfl, rfl, rfl, by simp⟩) ?_
  rintro m t H ⟨pre, rest, rfl, rfl, rfl, rfl⟩
  simp only [nd0, Y1n, Y1o, Y1p, Y1q, Y1w, Y1x, Y1y, Y1z, Y20, Y21, Y28, Y2a, AV.cells?, Nat.reduceAdd, Nat.reduceMul]
  cases rest with
  | nil =>
    simp only [nd0, Y1n, Y1o, Y1p, Y1q, Y1w, Y1x, Y1y, Y1z, Y20, Y21, Y28, Y2a, AV.cells?, Nat.reduceAdd, Nat.reduceMul, List.append_nil, Int.lt_irrefl]
    rw [sub_all (tbl_len _)]
    simp only [nd0, Y1n, Y1o, Y1p, Y1q, Y1w, Y1x, Y1y, Y1z, Y20, Y21, Y28, Y2a, AV.cells?, Nat.reduceAdd, Nat.reduceMul]
    rw [storeN_L (tbl_len _) (tbl_scalar _)]
    simp only [nd0, Y1n, Y1o, Y1p, Y1q, Y1w, Y1x, Y1y, Y1z, Y20, Y21, Y28, Y2a, AV.cells?, Nat.reduceAdd, Nat.reduceMul]
    rw [put_all rfl]
    simp only [nd0, Y1n, Y1o, Y1p, Y1q, Y1w, Y1x, Y1y, Y1z, Y20, Y21, Y28, Y2a, AV.cells?, Nat.reduceAdd, Nat.reduceMul]
    rw [sub_all (tbl_len _)]
    simp only [nd0, Y1n, Y1o, Y1p, Y1q, Y1w, Y1x, Y1y, Y1z, Y20, Y21, Y28, Y2a, AV.cells?, Nat.reduceAdd, Nat.reduceMul, retPack, allSome]
    exact hR _ _ (by simp)
  | cons c rest =>
    have h1 : ((pre.length : Int) < ((pre ++ c :: rest).length : Int)) := by simp; omega
    simp only [nd0, Y1n, Y1o, Y1p, Y1q, Y1w, Y1x, Y1y, Y1z, Y20, Y21, Y28, Y2a, AV.cells?, Nat.reduceAdd, Nat.reduceMul, h1]
    rw [idxS (by simp)]
    have hc : c < 128 := hs c (by simp)
    have hc2 : ¬ ((128 : Int) ≤ (c.toNat : Int)) := by
      have : c.toNat < 128 := hc
      omega
    have hc3 := c.toNat_lt
    have hg : (pre ++ c :: rest)[pre.length]'(by simp) = c := by simp
    simp only [nd0, Y1n, Y1o, Y1p, Y1q, Y1w, Y1x, Y1y, Y1z, Y20, Y21, Y28, Y2a, AV.cells?, Nat.reduceAdd, Nat.reduceMul, hg, hc2]
    rw [iaddrArr_L (by omega)]
    simp only [nd0, Y1n, Y1o, Y1p, Y1q, Y1w, Y1x, Y1y, Y1z, Y20, Y21, Y28, Y2a, AV.cells?, Nat.reduceAdd, Nat.reduceMul]
    rw [store1_L rfl]
    simp only [nd0, Y1n, Y1o, Y1p, Y1q, Y1w, Y1x, Y1y, Y1z, Y20, Y21, Y28, Y2a, AV.cells?, Nat.reduceAdd, Nat.reduceMul, tbl_len]
    rw [if_pos (by omega), tbl_set]
    simp only [nd0, Y1n, Y1o, Y1p, Y1q, Y1w, Y1x, Y1y, Y1z, Y20, Y21, Y28, Y2a, AV.cells?, Nat.reduceAdd, Nat.reduceMul]
    rw [binA_succ (by simp at hl; omega)]
    simp only [nd0, Y1n, Y1o, Y1p, Y1q, Y1w, Y1x, Y1y, Y1z, Y20, Y21, Y28, Y2a, AV.cells?, Nat.reduceAdd, Nat.reduceMul]
    refine back1.mk rest.length (by simp) ⟨pre ++ [c], rest, by simp, by simp, rfl, ?_⟩
    simp

theorem trimLA_spec (hB : Body2 E P 10 F.strings_trimLeftASCII) (hc : ∀ p c, FX E P 14 [.ptrF (tbl p) 0, By c] (Bo (p c))) (s : Str) (p : UInt8 → Bool) : FX E P 10 [S s, .ptrF (tbl p) 0] (S (trimL p s)) := by
  refine FX.of' ⟨trivial, by simpa [AV.closed] using tbl_closed p, trivial⟩ trivial fun n R hR => hB _ _ _ _ ?_
  unfold F.strings_trimLeftASCII
  refine wJoin.one (fun t H => t = S (trimL p s)) ?_ (fun t H h => hR _ _ h)
  refine wLoop.one (fun m t H => ∃ r, t = S r ∧ m = r.length ∧ trimL p r = trimL p s) s.length (gh1.mk ⟨s, rfl, rfl, rfl⟩) ?_
  rintro m t H ⟨r, rfl, rfl, hr⟩
  simp only [nd0, Y1n, Y1o, Y1p, Y1q, Y1w, Y1x, Y1y, Y1z, Y20, Y21, Y28, Y2a, AV.cells?, Nat.reduceAdd, Nat.reduceMul]
  cases r with
  | nil =>
    simp only [nd0, Y1n, Y1o, Y1p, Y1q, Y1w, Y1x, Y1y, Y1z, Y20, Y21, Y28, Y2a, AV.cells?, Nat.reduceAdd, Nat.reduceMul, show ¬ ((0 : Int) < ((0 : Nat) : Int)) by simp]
    exact gh1.mk (by rw [← hr]; rfl)
  | cons d r =>
    have h1 : ((0 : Int) < ((r.length + 1 : Nat) : Int)) := by omega
    simp only [nd0, Y1n, Y1o, Y1p, Y1q, Y1w, Y1x, Y1y, Y1z, Y20, Y21, Y28, Y2a, AV.cells?, Nat.reduceAdd, Nat.reduceMul, h1]
    rw [idxS_zero]
    simp only [nd0, Y1n, Y1o, Y1p, Y1q, Y1w, Y1x, Y1y, Y1z, Y20, Y21, Y28, Y2a, AV.cells?, Nat.reduceAdd, Nat.reduceMul]
    refine wCall.fx (hc p d) fun n => ?_
    by_cases hd : p d = true
    · simp only [nd0, Y1n, Y1o, Y1p, Y1q, Y1w, Y1x, Y1y, Y1z, Y20, Y21, Y28, Y2a, AV.cells?, Nat.reduceAdd, Nat.reduceMul, hd]
      rw [sliceS_tail]
      simp only [nd0, Y1n, Y1o, Y1p, Y1q, Y1w, Y1x, Y1y, Y1z, Y20, Y21, Y28, Y2a, AV.cells?, Nat.reduceAdd, Nat.reduceMul]
      exact back1.mk r.length (by simp) ⟨r, rfl, rfl, by rw [← hr]; simp [trimL, hd]⟩
    · simp only [nd0, Y1n, Y1o, Y1p, Y1q, Y1w, Y1x, Y1y, Y1z, Y20, Y21, Y28, Y2a, AV.cells?, Nat.reduceAdd, Nat.reduceMul, hd]
      exact gh1.mk (by rw [← hr]; simp [trimL, hd])
theorem trimRA_spec (hB : Body2 E P 9 F.strings_trimRightASCII) (hc : ∀ p c, FX E P 14 [.ptrF (tbl p) 0, By c] (Bo (p c))) (s : Str) (p : UInt8 → Bool) (hs : s.length < 1099511627776) : FX E P 9 [S s, .ptrF (tbl p) 0] (S (trimR p s)) := by
  refine FX.of' ⟨trivial, by simpa [AV.closed] using tbl_closed p, trivial⟩ trivial fun n R hR => hB _ _ _ _ ?_
  unfold F.strings_trimRightASCII
  refine wJoin.one (fun t H => t = S (trimR p s)) ?_ (fun t H h => hR _ _ h)
  refine wLoop.one (fun m t H => ∃ r, t = S r ∧ m = r.length ∧ r.length ≤ s.length ∧ trimR p r = trimR p s) s.length (gh1.mk ⟨s, rfl, rfl, Nat.le_refl _, rfl⟩) ?_
  rintro m t H ⟨r, rfl, rfl, hle, hr⟩
  simp only [nd0, Y1n, Y1o, Y1p, Y1q, Y1w, Y1x, Y1y, Y1z, Y20, Y21, Y28, Y2a, AV.cells?, Nat.reduceAdd, Nat.reduceMul]
  by_cases h0 : r = []
  · subst h0
    simp only [nd0, Y1n, Y1o, Y1p, Y1q, Y1w, Y1x, Y1y, Y1z, Y20, Y21, Y28, Y2a, AV.cells?, Nat.reduceAdd, Nat.reduceMul, show ¬ ((0 : Int) < ((0 : Nat) : Int)) by simp]
    exact gh1.mk (by rw [← hr]; rfl)
  · obtain ⟨t, d, rfl⟩ := snoc_of h0
    simp only [List.length_append, List.length_singleton] at hle
    have h1 : ((0 : Int) < ((t.length + 1 : Nat) : Int)) := by omega
    have h2 : ((t.length + 1 : Nat) : Int) - 1 = (t.length : Int) := by omega
    simp only [nd0, Y1n, Y1o, Y1p, Y1q, Y1w, Y1x, Y1y, Y1z, Y20, Y21, Y28, Y2a, AV.cells?, Nat.reduceAdd, Nat.reduceMul, len_snoc, h1]
    rw [binA_sub (by omega), h2]
    simp only [nd0, Y1n, Y1o, Y1p, Y1q, Y1w, Y1x, Y1y, Y1z, Y20, Y21, Y28, Y2a, AV.cells?, Nat.reduceAdd, Nat.reduceMul]
    rw [idxS_last]
    simp only [nd0, Y1n, Y1o, Y1p, Y1q, Y1w, Y1x, Y1y, Y1z, Y20, Y21, Y28, Y2a, AV.cells?, Nat.reduceAdd, Nat.reduceMul]
    refine wCall.fx (hc p d) fun n => ?_
    by_cases hd : p d = true
    · simp only [nd0, Y1n, Y1o, Y1p, Y1q, Y1w, Y1x, Y1y, Y1z, Y20, Y21, Y28, Y2a, AV.cells?, Nat.reduceAdd, Nat.reduceMul, hd]
      rw [sliceS_init]
      simp only [nd0, Y1n, Y1o, Y1p, Y1q, Y1w, Y1x, Y1y, Y1z, Y20, Y21, Y28, Y2a, AV.cells?, Nat.reduceAdd, Nat.reduceMul]
      exact back1.mk t.length (by simp) ⟨t, rfl, rfl, by omega, by rw [← hr, trimR_snoc]; simp [hd]⟩
    · simp only [nd0, Y1n, Y1o, Y1p, Y1q, Y1w, Y1x, Y1y, Y1z, Y20, Y21, Y28, Y2a, AV.cells?, Nat.reduceAdd, Nat.reduceMul, hd]
      exact gh1.mk (by rw [← hr, trimR_snoc]; simp [hd])
end
/-- what 'Trim' leaves -/
def trim (cut s : Str) : Str := trimL (fun c => decide (c ∈ cut)) (trimR (fun c => decide (c ∈ cut)) s)
theorem trimR_length (p : UInt8 → Bool) (s : Str) : (trimR p s).length ≤ s.length := by
  have := List.Sublist.length_le (List.dropWhile_sublist p (l := s.reverse))
  simpa [trimR] using this
section
variable {E : Env} {P : Program}
structure TrimBodies (E : Env) (P : Program) : Prop where
  trim : Body2 E P 4 F.strings_Trim
  rb : Body2 E P 6 F.strings_trimRightByte
  lb : Body2 E P 7 F.strings_trimLeftByte
  mkSet : Body1 E P 8 F.strings_makeASCIISet
  ra : Body2 E P 9 F.strings_trimRightASCII
  la : Body2 E P 10 F.strings_trimLeftASCII
  has : Body2 E P 14 F.pstrings_asciiSet_contains
theorem Trim_spec (B : TrimBodies E P) (s cut : Str) (hc : ascii cut) (hs : s.length < 1099511627776) (hl : cut.length < 1099511627776) : FX E P 4 [S s, S cut] (S (trim cut s)) := by
  refine FX.of' (by simp [AV.closed, AV.closedL]) trivial fun n R hR => B.trim _ _ _ _ ?_
  unfold F.strings_Trim
  by_cases h1 : s = []
  · subst h1
    simp only [nd0, Y1n, Y1o, Y1p, Y1q, Y1w, Y1x, Y1y, Y1z, Y20, Y21, Y28, Y2a, AV.cells?, Nat.reduceAdd, Nat.reduceMul, show (AV.val (.string ⟨#[]⟩)) = S [] from rfl]
    exact hR _ _ rfl
  by_cases h2 : cut = []
  · subst h2
    simp only [nd0, Y1n, Y1o, Y1p, Y1q, Y1w, Y1x, Y1y, Y1z, Y20, Y21, Y28, Y2a, AV.cells?, Nat.reduceAdd, Nat.reduceMul, show (AV.val (.string ⟨#[]⟩)) = S [] from rfl, h1]
    exact hR _ _ (by
      have : ∀ l : Str, List.dropWhile (fun _ => false) l = l := fun l => by cases l <;> rfl
      simp [trim, trimL, trimR, this])
  simp only [nd0, Y1n, Y1o, Y1p, Y1q, Y1w, Y1x, Y1y, Y1z, Y20, Y21, Y28, Y2a, AV.cells?, Nat.reduceAdd, Nat.reduceMul, show (AV.val (.string ⟨#[]⟩)) = S [] from rfl, h1, h2]
  by_cases h3 : cut.length = 1
  · obtain ⟨c, rfl⟩ := List.length_eq_one_iff.1 h3
    have hc' : c < 128 := hc c (by simp)
    have hc2 : ((c.toNat : Int) < 128) := by
      have : c.toNat < 128 := hc'
      omega
    simp only [nd0, Y1n, Y1o, Y1p, Y1q, Y1w, Y1x, Y1y, Y1z, Y20, Y21, Y28, Y2a, AV.cells?, Nat.reduceAdd, Nat.reduceMul, show (((0 + 1 : Nat) : Int) = 1) from rfl, show (((1 : Nat) : Int) = 1) from rfl]
    rw [idxS_zero]
    simp only [nd0, Y1n, Y1o, Y1p, Y1q, Y1w, Y1x, Y1y, Y1z, Y20, Y21, Y28, Y2a, AV.cells?, Nat.reduceAdd, Nat.reduceMul, hc2]
    refine wCall.fx (trimRB_spec B.rb s c hs) fun n => ?_
    refine wCall.fx (trimLB_spec B.lb _ c) fun n => ?_
    exact hR _ _ (by simp [trim])
  · have : ¬ ((cut.length : Int) = 1) := by omega
    simp only [nd0, Y1n, Y1o, Y1p, Y1q, Y1w, Y1x, Y1y, Y1z, Y20, Y21, Y28, Y2a, AV.cells?, Nat.reduceAdd, Nat.reduceMul, this]
    refine wCall.fx (makeSet_spec B.mkSet cut hc hl) fun n => ?_
    simp only [nd0, Y1n, Y1o, Y1p, Y1q, Y1w, Y1x, Y1y, Y1z, Y20, Y21, Y28, Y2a, AV.cells?, Nat.reduceAdd, Nat.reduceMul]
    refine wNew.L rfl ?_
    simp only [nd0, Y1n, Y1o, Y1p, Y1q, Y1w, Y1x, Y1y, Y1z, Y20, Y21, Y28, Y2a, AV.cells?, Nat.reduceAdd, Nat.reduceMul]
    rw [storeN_L (tbl_len _) (tbl_scalar _)]
    simp only [nd0, Y1n, Y1o, Y1p, Y1q, Y1w, Y1x, Y1y, Y1z, Y20, Y21, Y28, Y2a, AV.cells?, Nat.reduceAdd, Nat.reduceMul]
    rw [put_all (by rw [tbl_len, List.length_replicate])]
    simp only [nd0, Y1n, Y1o, Y1p, Y1q, Y1w, Y1x, Y1y, Y1z, Y20, Y21, Y28, Y2a, AV.cells?, Nat.reduceAdd, Nat.reduceMul]
    have hf : ∀ n m g : Nat, FkL ⟨[.cells g 256 (tbl fun c => decide (c ∈ cut))], m⟩ S0 [.ptrL 0 0 g] [.ptrF (tbl fun c => decide (c ∈ cut)) 0] := fun n m g =>
      .cons (.ptrF 256 rfl rfl (by rw [List.drop_zero, List.take_of_length_le (by rw [tbl_len]; omega)]; exact .same _)) .nil
    refine wCall.bo (trimRA_spec B.ra (asciiHas_spec B.has) s (fun c => decide (c ∈ cut)) hs) trivial (.cons (.same _) (hf 0 _ _)) fun n1 => ?_
    refine wCall.bo (trimLA_spec B.la (asciiHas_spec B.has) _ (fun c => decide (c ∈ cut))) trivial (.cons (.same _) (hf 0 _ _)) fun n1 => ?_
    exact hR _ _ rfl
end
end Go.Sc
namespace Go.Sc
open Go
set_option linter.unusedSimpArgs false
set_option linter.unusedVariables false

def low (c : UInt8) : Bool := decide ((97 : Int) ≤ c.toNat) && decide ((c.toNat : Int) ≤ 122)
def dig (c : UInt8) : Bool := decide ((48 : Int) ≤ c.toNat) && decide ((c.toNat : Int) ≤ 57)
def nch (c : UInt8) : Bool := low c || dig c || decide ((c.toNat : Int) = 95)
def letters : Str := [97, 98, 99, 100, 101, 102, 103, 104, 105, 106, 107, 108, 109, 110, 111, 112, 113, 114, 115, 116, 117, 118, 119, 120, 121, 122, 48, 49, 50, 51, 52, 53, 54, 55, 56, 57, 95]
def words9 : List Str := [[105, 110, 112, 117, 116], [99, 111, 105, 108], [116, 105, 109, 101, 114], [99, 111, 117, 110, 116, 101, 114], [115, 101, 116], [114, 101, 115, 101, 116], [114, 117, 110], [99, 111, 117, 110, 116], [122, 101, 114, 111]]
/-- may a text be a name? -/
def nameOk : Str → Bool
  | [] => false
  | c :: r => low c && r.all nch && decide ((c :: r).length ≤ 8) && !decide ((c :: r) ∈ words9)

theorem mem_letters (c : UInt8) : decide (c ∈ letters) = nch c := by
  have : ∀ i : Fin 256, decide (UInt8.ofNat i.val ∈ letters) = nch (UInt8.ofNat i.val) := by decide +kernel
  have h := this ⟨c.toNat, c.toNat_lt⟩
  simpa using h
theorem dropWhile_nil {p : UInt8 → Bool} {s : Str} : s.dropWhile p = [] ↔ s.all p = true := by
  induction s with
  | nil => simp
  | cons c s ih =>
    simp only [List.dropWhile_cons, List.all_cons, Bool.and_eq_true]
    split
    · rename_i h; simp [h, ih]
    · rename_i h; simp [h]
theorem trim_nil {cut s : Str} : trim cut s = [] ↔ s.all (fun c => decide (c ∈ cut)) = true := by
  unfold trim trimL
  rw [dropWhile_nil]
  have : trimR (fun c => decide (c ∈ cut)) s = [] ∨ ∃ t c, trimR (fun c => decide (c ∈ cut)) s = t ++ [c] ∧ c ∉ cut ∧ c ∈ s := by
    unfold trimR
    cases h : s.reverse.dropWhile (fun c => decide (c ∈ cut)) with
    | nil => exact .inl rfl
    | cons c t =>
      refine .inr ⟨t.reverse, c, by simp, ?_, ?_⟩
      · have := List.head?_dropWhile_not (fun c => decide (c ∈ cut)) s.reverse
        rw [h] at this
        simpa using this
      · have := (List.dropWhile_sublist (fun c => decide (c ∈ cut)) (l := s.reverse)).subset (by rw [h]; exact List.mem_cons_self : c ∈ s.reverse.dropWhile _)
        simpa using this
  rcases this with h | ⟨t, c, h, hc, hs⟩
  · rw [h]
    simp only [List.all_nil, true_iff]
    have : s.reverse.dropWhile (fun c => decide (c ∈ cut)) = [] := by
      unfold trimR at h
      simpa using h
    rw [dropWhile_nil] at this
    simpa using this
  · rw [h]
    constructor
    · intro h2
      simp [hc] at h2
    · intro h2
      rw [List.all_eq_true] at h2
      have := h2 c hs
      simp [hc] at this

section
variable {E : Env} {P : Program}
structure NameBodies (E : Env) (P : Program) : Prop where
  t : TrimBodies E P
  name : Body1 E P 1 F.expr_Name
  contains : Body2 E P 5 F.slices_Contains_Lstring_string
  index : Body2 E P 13 F.slices_Index_Lstring_string
theorem Name_spec (B : NameBodies E P) (s : Str) : FX E P 1 [S s] (Bo (nameOk s)) := by
  refine FX.of' (by simp [AV.closed, AV.closedL]) trivial fun n R hR => B.name _ _ _ ?_
  unfold F.expr_Name
  cases s with
  | nil =>
    simp only [nd0, Y1n, Y1o, Y1p, Y1q, Y1w, Y1x, Y1y, Y1z, Y20, Y21, Y28, Y2a, AV.cells?, Nat.reduceAdd, Nat.reduceMul, show (AV.val (.string ⟨#[]⟩)) = S [] from rfl]
    exact hR _ _ rfl
  | cons c r =>
    simp only [nd0, Y1n, Y1o, Y1p, Y1q, Y1w, Y1x, Y1y, Y1z, Y20, Y21, Y28, Y2a, AV.cells?, Nat.reduceAdd, Nat.reduceMul, show (AV.val (.string ⟨#[]⟩)) = S [] from rfl, show ¬ (c :: r = []) by simp]
    by_cases h1 : r.length + 1 ≤ 8
    case neg =>
      have : ¬ (((r.length + 1 : Nat) : Int) ≤ 8) := by omega
      simp only [nd0, Y1n, Y1o, Y1p, Y1q, Y1w, Y1x, Y1y, Y1z, Y20, Y21, Y28, Y2a, AV.cells?, Nat.reduceAdd, Nat.reduceMul, this]
      exact hR _ _ (by simp [nameOk, h1])
    have h1' : (((r.length + 1 : Nat) : Int) ≤ 8) := by omega
    simp only [nd0, Y1n, Y1o, Y1p, Y1q, Y1w, Y1x, Y1y, Y1z, Y20, Y21, Y28, Y2a, AV.cells?, Nat.reduceAdd, Nat.reduceMul, h1']
    rw [idxS_zero]
    simp only [nd0, Y1n, Y1o, Y1p, Y1q, Y1w, Y1x, Y1y, Y1z, Y20, Y21, Y28, Y2a, AV.cells?, Nat.reduceAdd, Nat.reduceMul]
    by_cases h2 : (97 : Int) ≤ c.toNat
    case neg =>
      simp only [nd0, Y1n, Y1o, Y1p, Y1q, Y1w, Y1x, Y1y, Y1z, Y20, Y21, Y28, Y2a, AV.cells?, Nat.reduceAdd, Nat.reduceMul, h2]
      exact hR _ _ (by simp [nameOk, low, h2])
    simp only [nd0, Y1n, Y1o, Y1p, Y1q, Y1w, Y1x, Y1y, Y1z, Y20, Y21, Y28, Y2a, AV.cells?, Nat.reduceAdd, Nat.reduceMul, h2]
    rw [idxS_zero]
    simp only [nd0, Y1n, Y1o, Y1p, Y1q, Y1w, Y1x, Y1y, Y1z, Y20, Y21, Y28, Y2a, AV.cells?, Nat.reduceAdd, Nat.reduceMul]
    by_cases h3 : (c.toNat : Int) ≤ 122
    case neg =>
      simp only [nd0, Y1n, Y1o, Y1p, Y1q, Y1w, Y1x, Y1y, Y1z, Y20, Y21, Y28, Y2a, AV.cells?, Nat.reduceAdd, Nat.reduceMul, h3]
      exact hR _ _ (by simp [nameOk, low, h3])
    simp only [nd0, Y1n, Y1o, Y1p, Y1q, Y1w, Y1x, Y1y, Y1z, Y20, Y21, Y28, Y2a, AV.cells?, Nat.reduceAdd, Nat.reduceMul, h3]
    have hlow : low c = true := by simp [low]; omega
    refine wCall.fx (Trim_spec B.t (c :: r) letters (by unfold ascii; decide) (by simp; omega) (by decide)) fun n => ?_
    simp only [nd0, Y1n, Y1o, Y1p, Y1q, Y1w, Y1x, Y1y, Y1z, Y20, Y21, Y28, Y2a, AV.cells?, Nat.reduceAdd, Nat.reduceMul, show (AV.val (.string ⟨#[]⟩)) = S [] from rfl, trim_nil]
    by_cases h4 : (c :: r).all (fun c => decide (c ∈ letters)) = true
    case neg =>
      simp only [nd0, Y1n, Y1o, Y1p, Y1q, Y1w, Y1x, Y1y, Y1z, Y20, Y21, Y28, Y2a, AV.cells?, Nat.reduceAdd, Nat.reduceMul, h4]
      refine hR _ _ ?_
      simp only [mem_letters] at h4
      have : ¬ (r.all nch = true) := fun h => h4 (by rw [List.all_cons]; simp [nch, hlow]; simpa [nch] using h)
      simp [nameOk, this]
    simp only [nd0, Y1n, Y1o, Y1p, Y1q, Y1w, Y1x, Y1y, Y1z, Y20, Y21, Y28, Y2a, AV.cells?, Nat.reduceAdd, Nat.reduceMul, h4]
    have hr : r.all nch = true := by
      simp only [mem_letters] at h4
      rw [List.all_cons] at h4
      simp at h4
      simpa using h4.2
    refine wNewS.F' (l := words9.map fun s => S s) rfl rfl ?_
    refine wCall.fx (ContainsS_spec (IndexS_spec B.index) B.contains words9 (c :: r) (by decide)) fun n => ?_
    simp only [nd0, Y1n, Y1o, Y1p, Y1q, Y1w, Y1x, Y1y, Y1z, Y20, Y21, Y28, Y2a, AV.cells?, Nat.reduceAdd, Nat.reduceMul]
    exact hR _ _ (by simp [nameOk, hlow, hr, h1])

theorem NameCheck_spec (hB : Body1 E P 2 F.ref_NameCheck) (s : Str) (hs : s.length < 4611686018427387904) : FX E P 2 [S s] (Bo (nameOk s)) := by
  refine FX.of' (by simp [AV.closed, AV.closedL]) trivial fun n R hR => hB _ _ _ ?_
  unfold F.ref_NameCheck
  simp only [nd0, Y1n, Y1o, Y1p, Y1q, Y1w, Y1x, Y1y, Y1z, Y20, Y21, Y28, Y2a, AV.cells?, Nat.reduceAdd, Nat.reduceMul]
  refine wLoop.one (fun m t H => ∃ pre rest, s = pre ++ rest ∧ t = Z pre.length ∧ m = rest.length ∧ ∀ i c, pre[i]? = some c → if i = 0 then low c = true else nch c = true) s.length (gh1.mk ⟨[], s, rfl, rfl, rfl, by simp⟩) ?_
  rintro m t H ⟨pre, rest, rfl, rfl, rfl, hp⟩
  cases rest with
  | cons c rest =>
    have h1 : ((pre.length : Int) < ((pre ++ c :: rest).length : Int)) := by simp; omega
    have hg : (pre ++ c :: rest)[pre.length]'(by simp) = c := by simp
    have hbad : ¬ (if pre.length = 0 then low c = true else nch c = true) → nameOk (pre ++ c :: rest) = false := by
      intro h
      cases pre with
      | nil => simp at h; simp [nameOk, h]
      | cons d pre =>
        simp at h
        simp [nameOk, h]
    have hgo : (if pre.length = 0 then low c = true else nch c = true) → wGet (binA .add (Z pre.length) (.val (.int .i64 1))) H fun t39 H => back1 (fun m t H => ∃ pre' rest', pre ++ c :: rest = pre' ++ rest' ∧ t = Z pre'.length ∧ m = rest'.length ∧ ∀ i c, pre'[i]? = some c → if i = 0 then low c = true else nch c = true) (rest.length + 1) t39 H := by
      intro h
      rw [binA_succ (by simp at hs; omega)]
      simp only [nd0, Y1n, Y1o, Y1p, Y1q, Y1w, Y1x, Y1y, Y1z, Y20, Y21, Y28, Y2a, AV.cells?, Nat.reduceAdd, Nat.reduceMul]
      refine back1.mk rest.length (by simp) ⟨pre ++ [c], rest, by simp, by simp, rfl, fun i d hi => ?_⟩
      by_cases hil : i < pre.length
      · rw [List.getElem?_append_left hil] at hi
        exact hp i d hi
      · have hl := lt_of_get hi
        simp at hl
        have : i = pre.length := by omega
        subst this
        simp at hi
        subst hi
        exact h
    simp only [nd0, Y1n, Y1o, Y1p, Y1q, Y1w, Y1x, Y1y, Y1z, Y20, Y21, Y28, Y2a, AV.cells?, Nat.reduceAdd, Nat.reduceMul, h1]
    rw [idxS (by simp)]
    simp only [nd0, Y1n, Y1o, Y1p, Y1q, Y1w, Y1x, Y1y, Y1z, Y20, Y21, Y28, Y2a, AV.cells?, Nat.reduceAdd, Nat.reduceMul, hg]
    by_cases hlow : low c = true
    · have h2 : (97 : Int) ≤ c.toNat := by simp [low] at hlow; omega
      have h3 : (c.toNat : Int) ≤ 122 := by simp [low] at hlow; omega
      simp only [nd0, Y1n, Y1o, Y1p, Y1q, Y1w, Y1x, Y1y, Y1z, Y20, Y21, Y28, Y2a, AV.cells?, Nat.reduceAdd, Nat.reduceMul, h2, h3]
      exact hgo (by split <;> simp [nch, hlow])
    · have hlow' : (if (decide ((97 : Int) ≤ c.toNat)) = true then (decide ((c.toNat : Int) ≤ 122)) else false) = false := by
        simp only [low, Bool.and_eq_true, decide_eq_true_eq, not_and] at hlow
        split <;> simp_all
      have hp2 : ∀ K : Kt, (∀ b, K (Bo b) H) → True := fun _ _ => trivial
      have key : ∀ K : Kt, K (Bo false) H → (wGuard (Bo (decide ((97 : Int) ≤ c.toNat))) true H (fun k => k (By c) H) fun t17 H =>
          wGuard (Bo (decide ((97 : Int) ≤ c.toNat))) true H (fun k => wGet (binA .leq t17 (.val (.int .u8 122))) H k) fun t18 H =>
          wGet (pickA (Bo (decide ((97 : Int) ≤ c.toNat))) t18 (.val (.bool false))) H K) := by
        intro K hK
        by_cases h2 : (97 : Int) ≤ c.toNat
        · have h3 : ¬ (c.toNat : Int) ≤ 122 := fun h => hlow (by simp [low]; omega)
          simp only [nd0, Y1n, Y1o, Y1p, Y1q, Y1w, Y1x, Y1y, Y1z, Y20, Y21, Y28, Y2a, AV.cells?, Nat.reduceAdd, Nat.reduceMul, h2, h3]; exact hK
        · simp only [nd0, Y1n, Y1o, Y1p, Y1q, Y1w, Y1x, Y1y, Y1z, Y20, Y21, Y28, Y2a, AV.cells?, Nat.reduceAdd, Nat.reduceMul, h2]; exact hK
      refine key _ ?_
      simp only [nd0, Y1n, Y1o, Y1p, Y1q, Y1w, Y1x, Y1y, Y1z, Y20, Y21, Y28, Y2a, AV.cells?, Nat.reduceAdd, Nat.reduceMul]
      by_cases h0 : pre.length = 0
      · have h0' : ((pre.length : Int) = 0) := by omega
        simp only [nd0, Y1n, Y1o, Y1p, Y1q, Y1w, Y1x, Y1y, Y1z, Y20, Y21, Y28, Y2a, AV.cells?, Nat.reduceAdd, Nat.reduceMul, h0']
        exact hR _ _ (by rw [hbad (by simp [h0, hlow])])
      · have h0' : ¬ ((pre.length : Int) = 0) := by omega
        simp only [nd0, Y1n, Y1o, Y1p, Y1q, Y1w, Y1x, Y1y, Y1z, Y20, Y21, Y28, Y2a, AV.cells?, Nat.reduceAdd, Nat.reduceMul, h0']
        by_cases h5 : (48 : Int) ≤ c.toNat
        · by_cases h6 : (c.toNat : Int) ≤ 57
          · simp only [nd0, Y1n, Y1o, Y1p, Y1q, Y1w, Y1x, Y1y, Y1z, Y20, Y21, Y28, Y2a, AV.cells?, Nat.reduceAdd, Nat.reduceMul, h5, h6]
            exact hgo (by simp [h0, nch, dig]; omega)
          · by_cases h7 : (c.toNat : Int) = 95
            · simp only [nd0, Y1n, Y1o, Y1p, Y1q, Y1w, Y1x, Y1y, Y1z, Y20, Y21, Y28, Y2a, AV.cells?, Nat.reduceAdd, Nat.reduceMul, h5, h6, decide_eq_true h7]
              exact hgo (by simp [h0, nch, h7])
            · simp only [nd0, Y1n, Y1o, Y1p, Y1q, Y1w, Y1x, Y1y, Y1z, Y20, Y21, Y28, Y2a, AV.cells?, Nat.reduceAdd, Nat.reduceMul, h5, h6, h7]
              exact hR _ _ (by rw [hbad (by simp [h0, nch, dig, hlow]; omega)])
        · have h7 : ¬ (c.toNat : Int) = 95 := by omega
          simp only [nd0, Y1n, Y1o, Y1p, Y1q, Y1w, Y1x, Y1y, Y1z, Y20, Y21, Y28, Y2a, AV.cells?, Nat.reduceAdd, Nat.reduceMul, h5, h7]
          exact hR _ _ (by rw [hbad (by simp [h0, nch, dig, hlow]; omega)])
  | nil =>
    simp only [List.append_nil] at *
    simp only [nd0, Y1n, Y1o, Y1p, Y1q, Y1w, Y1x, Y1y, Y1z, Y20, Y21, Y28, Y2a, AV.cells?, Nat.reduceAdd, Nat.reduceMul, Int.lt_irrefl]
    refine wJoin.one (fun t H => t = Bo (decide (pre ∈ [] :: words9))) ?_ ?_
    · have key : ∀ (H : AH) b, b = decide (pre ∈ [] :: words9) → gh1 (fun t H => t = Bo (decide (pre ∈ [] :: words9))) (Bo b) H := fun H b e => gh1.mk (by rw [e])
      repeat' (refine wIf.dec (fun h => ?_) (fun h => ?_))
      all_goals exact key _ _ (by simp [words9, *])
    · rintro t H rfl
      have hall : ∀ c r, pre = c :: r → low c = true ∧ r.all nch = true := by
        rintro c r rfl
        refine ⟨by simpa using hp 0 c rfl, ?_⟩
        rw [List.all_eq_true]
        intro d hd
        obtain ⟨i, hi, rfl⟩ := List.getElem_of_mem hd
        have := hp (i + 1) r[i] (by simp [hi])
        simpa using this
      by_cases hw : pre ∈ [] :: words9
      · simp only [nd0, Y1n, Y1o, Y1p, Y1q, Y1w, Y1x, Y1y, Y1z, Y20, Y21, Y28, Y2a, AV.cells?, Nat.reduceAdd, Nat.reduceMul, hw]
        refine hR _ _ ?_
        cases pre with
        | nil => rfl
        | cons c r => simp at hw; simp [nameOk, hw]
      · simp only [nd0, Y1n, Y1o, Y1p, Y1q, Y1w, Y1x, Y1y, Y1z, Y20, Y21, Y28, Y2a, AV.cells?, Nat.reduceAdd, Nat.reduceMul, hw]
        refine hR _ _ ?_
        cases pre with
        | nil => simp at hw
        | cons c r =>
          obtain ⟨h1, h2⟩ := hall c r rfl
          simp at hw
          simp [nameOk, h1, h2, hw]
          omega
end
end Go.Sc
namespace Go.Sc
open Go
set_option linter.unusedSimpArgs false
set_option linter.unusedVariables false

inductive Ex where
  | k (b : Bool)
  | bit (s : Str)
  | rise (s : Str)
  | fall (s : Str)
  | not (x : Ex)
  | and (l : List Ex)
  | or (l : List Ex)
  deriving Inhabited
inductive Rs (α : Type) where
  | ok (x : α) (i : Nat)
  | no (e p : Nat)

/-! ### what is read -/
def skipTo (s : Str) (i : Nat) : Nat := i + ((s.drop i).takeWhile (· == 32)).length
theorem skipTo_le (s : Str) (i : Nat) : i ≤ skipTo s i := by unfold skipTo; omega
theorem skipTo_len {s : Str} {i : Nat} (h : i ≤ s.length) : skipTo s i ≤ s.length := by
  have h1 := List.IsPrefix.length_le (List.takeWhile_prefix (fun c : UInt8 => c == 32) (l := s.drop i))
  rw [List.length_drop] at h1
  unfold skipTo; omega
theorem skipTo_step {s : Str} {i : Nat} (h : s[i]? = some 32) : skipTo s i = skipTo s (i + 1) := by
  have hl := lt_of_get h
  rw [List.getElem?_eq_getElem hl] at h
  injection h with h
  unfold skipTo
  rw [List.drop_eq_getElem_cons hl, h, List.takeWhile_cons]
  simp; omega
theorem skipTo_stop {s : Str} {i : Nat} (h : s[i]? ≠ some 32) : skipTo s i = i := by
  unfold skipTo
  by_cases hl : i < s.length
  · rw [List.getElem?_eq_getElem hl] at h
    rw [List.drop_eq_getElem_cons hl, List.takeWhile_cons]
    have : ¬ s[i] = 32 := fun e => h (by rw [e])
    simp [this]
  · rw [List.drop_eq_nil_of_le (by omega)]; simp
theorem skipTo_at (s : Str) (i : Nat) : s[skipTo s i]? ≠ some 32 := by
  generalize hn : s.length - i = n
  induction n generalizing i with
  | zero =>
    have : skipTo s i = i := skipTo_stop (by rw [List.getElem?_eq_none (by omega)]; simp)
    rw [this, List.getElem?_eq_none (by omega)]; simp
  | succ n ih =>
    by_cases h : s[i]? = some 32
    · rw [skipTo_step h]; exact ih _ (by omega)
    · rw [skipTo_stop h]; exact h
theorem skipTo_idem (s : Str) (i : Nat) : skipTo s (skipTo s i) = skipTo s i := skipTo_stop (skipTo_at s i)

def stop9 : Str := [32, 38, 124, 33, 94, 126, 40, 41, 61]
def stop11 : Str := [32, 38, 124, 33, 94, 126, 40, 41, 48, 49, 61]
/-- does a word that begins at i go on at k? -/
def wc (s : Str) (i k : Nat) : Bool := match s[k]? with
  | none => false
  | some c => !decide (c ∈ stop9) && (decide (i < k) || (!decide (c = 48) && !decide (c = 49)))
theorem wc_lt {s : Str} {i k : Nat} (h : wc s i k = true) : k < s.length := by
  unfold wc at h
  split at h
  · cases h
  · rename_i h1; exact lt_of_get h1
def wEnd (s : Str) (i k : Nat) : Nat := if h : wc s i k = true then wEnd s i (k + 1) else k
termination_by s.length - k
decreasing_by have := wc_lt h; omega
theorem wEnd_step {s : Str} {i k : Nat} (h : wc s i k = true) : wEnd s i k = wEnd s i (k + 1) := by rw [wEnd, dif_pos h]
theorem wEnd_stop {s : Str} {i k : Nat} (h : wc s i k = false) : wEnd s i k = k := by rw [wEnd, dif_neg (by rw [h]; simp)]
theorem wEnd_ge (s : Str) (i k : Nat) : k ≤ wEnd s i k := by
  generalize hn : s.length - k = n
  induction n generalizing k with
  | zero =>
    have : wc s i k = false := by
      cases h : wc s i k
      · rfl
      · have := wc_lt h; omega
    rw [wEnd_stop this]; exact Nat.le_refl _
  | succ n ih =>
    cases h : wc s i k with
    | false => rw [wEnd_stop h]; exact Nat.le_refl _
    | true => rw [wEnd_step h]; have := ih (k + 1) (by omega); omega
theorem wEnd_len {s : Str} {i k : Nat} (hk : k ≤ s.length) : wEnd s i k ≤ s.length := by
  generalize hn : s.length - k = n
  induction n generalizing k with
  | zero =>
    have : wc s i k = false := by
      cases h : wc s i k
      · rfl
      · have := wc_lt h; omega
    rw [wEnd_stop this]; exact hk
  | succ n ih =>
    cases h : wc s i k with
    | false => rw [wEnd_stop h]; exact hk
    | true => rw [wEnd_step h]; exact ih (by have := wc_lt h; omega) (by omega)
def wordAt (s : Str) (i : Nat) : Str := (s.take (wEnd s i i)).drop i
/-- a name -/
def wordR (s : Str) (i : Nat) : Rs Str :=
  if wordAt s (skipTo s i) = [] then .no 3 (skipTo s i) else if nameOk (wordAt s (skipTo s i)) = false then .no 5 (skipTo s i) else .ok (wordAt s (skipTo s i)) (wEnd s (skipTo s i) (skipTo s i))

/-- parts with a sign between -/
def rowR (s : Str) (c : UInt8) (f : Nat → Rs Ex) : Nat → Nat → List Ex → Rs (List Ex)
  | 0, i, _ => .no 3 i
  | n + 1, i, l => match f i with
    | .no e p => .no e p
    | .ok x j => if s[skipTo s j]? = some c then rowR s c f n (skipTo s j + 1) (l ++ [x]) else .ok (l ++ [x]) (skipTo s j)
def foldR (mk : List Ex → Ex) : List Ex → Ex
  | [x] => x
  | l => mk l
def allR (s : Str) (c : UInt8) (mk : List Ex → Ex) (f : Nat → Rs Ex) (i : Nat) : Rs Ex := match rowR s c f (s.length + 1) i [] with
  | .ok l j => .ok (foldR mk l) j
  | .no e p => .no e p
def andR (s : Str) (f : Nat → Rs Ex) : Nat → Rs Ex := allR s 38 .and f
def orR (s : Str) (f : Nat → Rs Ex) : Nat → Rs Ex := allR s 124 .or (andR s f)
def Rs.map {α β : Type} (g : α → β) : Rs α → Rs β
  | .ok x j => .ok (g x) j
  | .no e p => .no e p
def closeR (s : Str) : Rs Ex → Rs Ex
  | .ok x j => if s[skipTo s j]? = some 41 then .ok x (skipTo s j + 1) else .no 3 (skipTo s j)
  | .no e p => .no e p
/-- a contact, or what stands in parentheses -/
def oneR (s : Str) : Nat → Nat → Rs Ex
  | 0, i => .no 4 (skipTo s i)
  | d + 1, i =>
    if s[skipTo s i]? = some 33 then (oneR s d (skipTo s i + 1)).map .not
    else if s[skipTo s i]? = some 40 then closeR s (orR s (oneR s d) (skipTo s i + 1))
    else if s[skipTo s i]? = some 48 then .ok (.k false) (skipTo s i + 1)
    else if s[skipTo s i]? = some 49 then .ok (.k true) (skipTo s i + 1)
    else if s[skipTo s i]? = some 94 then (wordR s (skipTo s i + 1)).map .rise
    else if s[skipTo s i]? = some 126 then (wordR s (skipTo s i + 1)).map .fall
    else (wordR s (skipTo s i)).map .bit
/-- a whole expression: its error without a place is `inl` -/
def parseR (s : Str) : Rs Ex := match orR s (oneR s 20) 0 with
  | .no e p => .no e p
  | .ok x j => if skipTo s j < s.length then .no 3 (skipTo s j) else .ok x (skipTo s j)

/-! ### how great it is -/
mutual
def Ex.wt : Ex → Nat
  | .k _ => 1
  | .bit s => s.length
  | .rise s => s.length + 1
  | .fall s => s.length + 1
  | .not x => x.wt + 1
  | .and l => Ex.wtL l + 3 * l.length + 2
  | .or l => Ex.wtL l + 3 * l.length + 2
def Ex.wtL : List Ex → Nat
  | [] => 0
  | x :: l => x.wt + Ex.wtL l
end
theorem Ex.wtL_append : ∀ l m : List Ex, Ex.wtL (l ++ m) = Ex.wtL l + Ex.wtL m
  | [], m => by simp [Ex.wtL]
  | x :: l, m => by simp only [List.cons_append, Ex.wtL, Ex.wtL_append l m]; omega
/- names may be, and there are two parts or more -/
mutual
def Ex.fine : Ex → Prop
  | .k _ => True
  | .bit s => nameOk s = true
  | .rise s => nameOk s = true
  | .fall s => nameOk s = true
  | .not x => x.fine
  | .and l => 2 ≤ l.length ∧ Ex.fineL l
  | .or l => 2 ≤ l.length ∧ Ex.fineL l
def Ex.fineL : List Ex → Prop
  | [] => True
  | x :: l => x.fine ∧ Ex.fineL l
end
theorem Ex.fineL_append : ∀ l m : List Ex, Ex.fineL (l ++ m) ↔ Ex.fineL l ∧ Ex.fineL m
  | [], m => by simp [Ex.fineL]
  | x :: l, m => by simp only [List.cons_append, Ex.fineL, Ex.fineL_append l m, and_assoc]
/-- what a reader comes to: on, and not too great -/
def GoodR (s : Str) (f : Nat → Rs Ex) : Prop := ∀ i x j, i ≤ s.length → f i = .ok x j → i ≤ j ∧ j ≤ s.length ∧ x.wt ≤ 8 * (j - i) ∧ x.fine
theorem wordR_good {s w : Str} {i j : Nat} (hi : i ≤ s.length) (h : wordR s i = .ok w j) : i ≤ j ∧ j ≤ s.length ∧ w.length ≤ j - i ∧ nameOk w = true := by
  unfold wordR at h
  split at h
  · cases h
  split at h
  · cases h
  · rename_i h1 h2
    injection h with h3 h4
    subst h3 h4
    have a1 := skipTo_le s i
    have a2 := skipTo_len hi
    have a3 := wEnd_ge s (skipTo s i) (skipTo s i)
    have a4 := wEnd_len (i := skipTo s i) a2
    refine ⟨by omega, a4, ?_, by simpa using h2⟩
    simp only [wordAt, List.length_drop, List.length_take]
    omega
theorem rowR_good {s : Str} {c : UInt8} {f : Nat → Rs Ex} (hf : GoodR s f) : ∀ (n i : Nat) (l : List Ex) {l' : List Ex} {j : Nat}, i ≤ s.length → rowR s c f n i l = .ok l' j →
    ∃ l1, l' = l ++ l1 ∧ l1 ≠ [] ∧ i ≤ j ∧ j ≤ s.length ∧ Ex.wtL l1 + 8 * (l1.length - 1) ≤ 8 * (j - i) ∧ Ex.fineL l1
  | 0, i, l, l', j, hi, h => by simp [rowR] at h
  | n + 1, i, l, l', j, hi, h => by
    unfold rowR at h
    split at h
    · cases h
    · rename_i x k hx
      obtain ⟨a1, a2, a3, a4⟩ := hf i x k hi hx
      have b1 := skipTo_le s k
      have b2 := skipTo_len a2
      split at h
      · rename_i hc
        have hlt := lt_of_get hc
        obtain ⟨l1, rfl, c1, c2, c3, c4, c5⟩ := rowR_good hf n (skipTo s k + 1) (l ++ [x]) (by omega) h
        refine ⟨x :: l1, by simp, by simp, by omega, c3, ?_, by simp only [Ex.fineL]; exact ⟨a4, c5⟩⟩
        have : 0 < l1.length := List.length_pos_iff.2 c1
        simp only [Ex.wtL, List.length_cons]
        omega
      · injection h with h1 h2
        subst h1 h2
        exact ⟨[x], rfl, by simp, by omega, b2, by simp [Ex.wtL]; omega, by simp [Ex.fineL, a4]⟩
theorem allR_good {s : Str} {c : UInt8} {mk : List Ex → Ex} {f : Nat → Rs Ex} (hm : ∀ l, (mk l).wt = Ex.wtL l + 3 * l.length + 2) (hm2 : ∀ l, 2 ≤ l.length → Ex.fineL l → (mk l).fine) (hf : GoodR s f) : GoodR s (allR s c mk f) := by
  intro i x j hi h
  unfold allR at h
  split at h
  · rename_i l k hl
    injection h with h1 h2
    subst h1 h2
    obtain ⟨l1, rfl, c1, c2, c3, c4, c5⟩ := rowR_good hf _ _ _ hi hl
    refine ⟨c2, c3, ?_⟩
    cases l with
    | nil => exact absurd rfl c1
    | cons y l2 =>
      cases l2 with
      | nil => exact ⟨by simpa [foldR, Ex.wtL] using c4, by simpa [foldR, Ex.fineL] using c5⟩
      | cons z l3 =>
        refine ⟨?_, hm2 _ (by simp) c5⟩
        show (mk (y :: z :: l3)).wt ≤ _
        rw [hm]
        simp only [List.length_cons] at c4 ⊢
        omega
  · cases h
theorem andR_good {s : Str} {f : Nat → Rs Ex} (hf : GoodR s f) : GoodR s (andR s f) := allR_good (fun _ => rfl) (fun _ h1 h2 => ⟨h1, h2⟩) hf
theorem orR_good {s : Str} {f : Nat → Rs Ex} (hf : GoodR s f) : GoodR s (orR s f) := allR_good (fun _ => rfl) (fun _ h1 h2 => ⟨h1, h2⟩) (andR_good hf)
theorem map_ok {α β : Type} {g : α → β} {r : Rs α} {y : β} {j : Nat} (h : r.map g = .ok y j) : ∃ x, r = .ok x j ∧ y = g x := by
  cases r with
  | ok x k => injection h with h1 h2; subst h1 h2; exact ⟨x, rfl, rfl⟩
  | no e p => cases h
theorem oneR_good (s : Str) : ∀ d, GoodR s (oneR s d)
  | 0, i, x, j, hi, h => by simp [oneR] at h
  | d + 1, i, x, j, hi, h => by
    have ih := oneR_good s d
    have b1 := skipTo_le s i
    have b2 := skipTo_len hi
    unfold oneR at h
    split at h
    · rename_i hc
      have hlt := lt_of_get hc
      obtain ⟨y, hy, rfl⟩ := map_ok h
      obtain ⟨a1, a2, a3, a4⟩ := ih _ _ _ (by omega) hy
      exact ⟨by omega, a2, by simp only [Ex.wt]; omega, a4⟩
    split at h
    · rename_i hc
      have hlt := lt_of_get hc
      cases ho : orR s (oneR s d) (skipTo s i + 1) with
      | no e p => rw [ho] at h; cases h
      | ok y k =>
        rw [ho] at h
        obtain ⟨a1, a2, a3, a4⟩ := orR_good ih _ _ _ (by omega) ho
        simp only [closeR] at h
        split at h
        · rename_i hc2
          have hlt2 := lt_of_get hc2
          have := skipTo_le s k
          injection h with h1 h2
          subst h1 h2
          exact ⟨by omega, by omega, by omega, a4⟩
        · cases h
    split at h
    · rename_i hc
      have hlt := lt_of_get hc
      injection h with h1 h2
      subst h1 h2
      exact ⟨by omega, by omega, by simp only [Ex.wt]; omega, trivial⟩
    split at h
    · rename_i hc
      have hlt := lt_of_get hc
      injection h with h1 h2
      subst h1 h2
      exact ⟨by omega, by omega, by simp only [Ex.wt]; omega, trivial⟩
    split at h
    · rename_i hc
      have hlt := lt_of_get hc
      obtain ⟨y, hy, rfl⟩ := map_ok h
      obtain ⟨a1, a2, a3, a4⟩ := wordR_good (by omega) hy
      exact ⟨by omega, a2, by simp only [Ex.wt]; omega, a4⟩
    split at h
    · rename_i hc
      have hlt := lt_of_get hc
      obtain ⟨y, hy, rfl⟩ := map_ok h
      obtain ⟨a1, a2, a3, a4⟩ := wordR_good (by omega) hy
      exact ⟨by omega, a2, by simp only [Ex.wt]; omega, a4⟩
    · obtain ⟨y, hy, rfl⟩ := map_ok h
      obtain ⟨a1, a2, a3, a4⟩ := wordR_good b2 hy
      exact ⟨by omega, a2, by simp only [Ex.wt]; omega, a4⟩
theorem parseR_good {s : Str} {x : Ex} {j : Nat} (h : parseR s = .ok x j) : x.wt ≤ 8 * s.length ∧ x.fine := by
  unfold parseR at h
  split at h
  · cases h
  · rename_i y k hy
    obtain ⟨a1, a2, a3, a4⟩ := orR_good (oneR_good s 20) 0 y k (by omega) hy
    split at h
    · cases h
    · injection h with h1 _
      subst h1
      exact ⟨by omega, a4⟩
/-- errors are none that is nought -/
def ErrR (f : Nat → Rs Ex) : Prop := ∀ i e p, f i = .no e p → e ≠ 0
theorem wordR_err {s : Str} {i e p : Nat} (h : wordR s i = .no e p) : e ≠ 0 := by
  unfold wordR at h
  split at h
  · injection h with h1; omega
  split at h
  · injection h with h1; omega
  · cases h
theorem rowR_err {s : Str} {c : UInt8} {f : Nat → Rs Ex} (hf : ErrR f) : ∀ (n i : Nat) (l : List Ex) {e p : Nat}, rowR s c f n i l = .no e p → e ≠ 0
  | 0, i, l, e, p, h => by simp only [rowR] at h; injection h with h1; omega
  | n + 1, i, l, e, p, h => by
    unfold rowR at h
    split at h
    · rename_i e' p' hx
      injection h with h1 h2
      subst h1
      exact hf _ _ _ hx
    · split at h
      · exact rowR_err hf n _ _ h
      · cases h
theorem allR_err {s : Str} {c : UInt8} {mk : List Ex → Ex} {f : Nat → Rs Ex} (hf : ErrR f) : ErrR (allR s c mk f) := by
  intro i e p h
  unfold allR at h
  split at h
  · cases h
  · rename_i e' p' hx
    injection h with h1 h2
    subst h1
    exact rowR_err hf _ _ _ hx
theorem map_no {α β : Type} {g : α → β} {r : Rs α} {e p : Nat} (h : r.map g = .no e p) : r = .no e p := by
  cases r with
  | ok x k => cases h
  | no e' p' => injection h with h1 h2; rw [h1, h2]
theorem oneR_err (s : Str) : ∀ d, ErrR (oneR s d)
  | 0, i, e, p, h => by simp only [oneR] at h; injection h with h1; omega
  | d + 1, i, e, p, h => by
    have ih := oneR_err s d
    unfold oneR at h
    split at h
    · exact ih _ _ _ (map_no h)
    split at h
    · cases ho : orR s (oneR s d) (skipTo s i + 1) with
      | no e' p' =>
        rw [ho] at h
        simp only [closeR] at h
        injection h with h1 h2
        subst h1
        exact allR_err (allR_err ih) _ _ _ ho
      | ok y k =>
        rw [ho] at h
        simp only [closeR] at h
        split at h
        · cases h
        · injection h with h1; omega
    split at h
    · cases h
    split at h
    · cases h
    split at h
    · exact wordR_err (map_no h)
    split at h
    · exact wordR_err (map_no h)
    · exact wordR_err (map_no h)
theorem parseR_err {s : Str} {e p : Nat} (h : parseR s = .no e p) : e ≠ 0 := by
  unfold parseR at h
  split at h
  · rename_i e' p' hx
    injection h with h1 h2
    subst h1
    exact allR_err (allR_err (oneR_err s 20)) _ _ _ hx
  · split at h
    · injection h with h1; omega
    · cases h
/-- so much of fuel is enough -/
theorem rowR_fuel {s : Str} {c : UInt8} {f : Nat → Rs Ex} (hf : GoodR s f) : ∀ (n m i : Nat) (l : List Ex), i ≤ s.length → s.length < n + i → s.length < m + i → rowR s c f n i l = rowR s c f m i l
  | 0, _, i, l, hi, h1, _ => by omega
  | _ + 1, 0, i, l, hi, _, h2 => by omega
  | n + 1, m + 1, i, l, hi, h1, h2 => by
    unfold rowR
    cases hx : f i with
    | no e p => rfl
    | ok x k =>
      obtain ⟨a1, a2, a3, a4⟩ := hf i x k hi hx
      have b1 := skipTo_le s k
      simp only
      split
      · rename_i hc
        have hlt := lt_of_get hc
        exact rowR_fuel hf n m _ _ (by omega) (by omega) (by omega)
      · rfl

/-! ### how it is written -/
def joinS (sep : Str) : List Str → Str
  | [] => []
  | [x] => x
  | x :: y :: l => x ++ sep ++ joinS sep (y :: l)
def around (b : Bool) (t : Str) : Str := if b then 40 :: t ++ [41] else t
mutual
def Ex.wr : Nat → Ex → Str
  | _, .k b => if b then [49] else [48]
  | _, .bit s => s
  | _, .rise s => 94 :: s
  | _, .fall s => 126 :: s
  | _, .not x => 33 :: Ex.wr 2 x
  | st, .and l => around (decide (2 ≤ st)) (joinS [32, 38, 32] (Ex.wrL 2 l))
  | st, .or l => around (decide (1 ≤ st)) (joinS [32, 124, 32] (Ex.wrL 1 l))
def Ex.wrL : Nat → List Ex → List Str
  | _, [] => []
  | st, x :: l => Ex.wr st x :: Ex.wrL st l
end
theorem Ex.wrL_map (st : Nat) : ∀ l : List Ex, Ex.wrL st l = l.map (Ex.wr st)
  | [] => rfl
  | x :: l => by simp [Ex.wrL, Ex.wrL_map st l]
theorem joinS_len (sep : Str) : ∀ l : List Str, (joinS sep l).length ≤ (l.map List.length).sum + sep.length * l.length
  | [] => by simp [joinS]
  | [x] => by simp [joinS]
  | x :: y :: l => by
    have := joinS_len sep (y :: l)
    simp only [joinS, List.length_append, List.map_cons, List.sum_cons, List.length_cons] at this ⊢
    have e : sep.length * (l.length + 1 + 1) = sep.length * (l.length + 1) + sep.length := by rw [Nat.mul_add]; omega
    rw [e]; omega
theorem around_len (b : Bool) (t : Str) : (around b t).length ≤ t.length + 2 := by
  unfold around; split <;> simp
mutual
theorem Ex.wr_len : ∀ (x : Ex) (st : Nat), (x.wr st).length ≤ x.wt
  | .k b, _ => by cases b <;> simp [Ex.wr, Ex.wt]
  | .bit s, _ => by simp [Ex.wr, Ex.wt]
  | .rise s, _ => by simp [Ex.wr, Ex.wt]
  | .fall s, _ => by simp [Ex.wr, Ex.wt]
  | .not x, _ => by have := Ex.wr_len x 2; simp only [Ex.wr, Ex.wt, List.length_cons]; omega
  | .and l, st => by
    have h1 := Ex.wrL_len l 2
    have h2 := around_len (decide (2 ≤ st)) (joinS [32, 38, 32] (Ex.wrL 2 l))
    have h3 := joinS_len [32, 38, 32] (Ex.wrL 2 l)
    simp only [Ex.wr, Ex.wt]
    simp only [List.length_cons, List.length_nil] at h3
    rw [Ex.wrL_map] at h3 h1 h2 ⊢
    rw [List.length_map] at h3
    omega
  | .or l, st => by
    have h1 := Ex.wrL_len l 1
    have h2 := around_len (decide (1 ≤ st)) (joinS [32, 124, 32] (Ex.wrL 1 l))
    have h3 := joinS_len [32, 124, 32] (Ex.wrL 1 l)
    simp only [Ex.wr, Ex.wt]
    simp only [List.length_cons, List.length_nil] at h3
    rw [Ex.wrL_map] at h3 h1 h2 ⊢
    rw [List.length_map] at h3
    omega
theorem Ex.wrL_len : ∀ (l : List Ex) (st : Nat), ((Ex.wrL st l).map List.length).sum ≤ Ex.wtL l
  | [], _ => by simp [Ex.wrL, Ex.wtL]
  | x :: l, st => by
    have h1 := Ex.wr_len x st
    have h2 := Ex.wrL_len l st
    simp only [Ex.wrL, Ex.wtL, List.map_cons, List.sum_cons]; omega
end

/-! ### as values -/
mutual
/-- the program's -/
def Ex.enc : Ex → AV
  | .k b => .ifc 11 (Bo b)
  | .bit s => .ifc 14 (S s)
  | .rise s => .ifc 12 (S s)
  | .fall s => .ifc 13 (S s)
  | .not x => .ifc 10 (.agg [x.enc])
  | .and l => .ifc 9 (.slN (Ex.encL l) l.length)
  | .or l => .ifc 8 (.slN (Ex.encL l) l.length)
def Ex.encL : List Ex → List AV
  | [] => []
  | x :: l => x.enc :: Ex.encL l
end
mutual
/-- the document's -/
def Ex.ref : Ex → AV
  | .k b => .ptrF [S (if b then [49] else [48]), S [], nilS] 0
  | .bit s => .ptrF [S [98, 105, 116], S s, nilS] 0
  | .rise s => .ptrF [S [94], S s, nilS] 0
  | .fall s => .ptrF [S [126], S s, nilS] 0
  | .not x => .ptrF [S [33], S [], .slN [x.ref] 1] 0
  | .and l => .ptrF [S [38], S [], .slN (Ex.refL l) l.length] 0
  | .or l => .ptrF [S [124], S [], .slN (Ex.refL l) l.length] 0
def Ex.refL : List Ex → List AV
  | [] => []
  | x :: l => x.ref :: Ex.refL l
end
theorem Ex.encL_map : ∀ l : List Ex, Ex.encL l = l.map Ex.enc
  | [] => rfl
  | x :: l => by simp [Ex.encL, Ex.encL_map l]
theorem Ex.refL_map : ∀ l : List Ex, Ex.refL l = l.map Ex.ref
  | [] => rfl
  | x :: l => by simp [Ex.refL, Ex.refL_map l]
mutual
theorem Ex.enc_closed : ∀ x : Ex, x.enc.closed
  | .k _ => trivial
  | .bit _ => trivial
  | .rise _ => trivial
  | .fall _ => trivial
  | .not x => by simp only [Ex.enc, AV.closed, AV.closedL]; exact ⟨Ex.enc_closed x, trivial⟩
  | .and l => Ex.encL_closed l
  | .or l => Ex.encL_closed l
theorem Ex.encL_closed : ∀ l : List Ex, AV.closedL (Ex.encL l)
  | [] => trivial
  | x :: l => ⟨Ex.enc_closed x, Ex.encL_closed l⟩
end
mutual
theorem Ex.ref_closed : ∀ x : Ex, x.ref.closed
  | .k _ => ⟨trivial, trivial, trivial, trivial⟩
  | .bit _ => ⟨trivial, trivial, trivial, trivial⟩
  | .rise _ => ⟨trivial, trivial, trivial, trivial⟩
  | .fall _ => ⟨trivial, trivial, trivial, trivial⟩
  | .not x => by simp only [Ex.ref, AV.closed, AV.closedL]; exact ⟨trivial, trivial, ⟨Ex.ref_closed x, trivial⟩, trivial⟩
  | .and l => ⟨trivial, trivial, Ex.refL_closed l, trivial⟩
  | .or l => ⟨trivial, trivial, Ex.refL_closed l, trivial⟩
theorem Ex.refL_closed : ∀ l : List Ex, AV.closedL (Ex.refL l)
  | [] => trivial
  | x :: l => ⟨Ex.ref_closed x, Ex.refL_closed l⟩
end
theorem Ex.enc_scalar (x : Ex) : x.enc.scalar = true := by cases x <;> rfl
theorem Ex.ref_scalar (x : Ex) : x.ref.scalar = true := by cases x <;> rfl
end Go.Sc
