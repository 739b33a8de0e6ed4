/-
  ERRORS OF PACKAGE api; short names of the nodes' lemmas.
-/
import Derived.Test.YtdhcpnachceklaaDoorScO2
namespace Go.Sc
open Go
set_option linter.unusedVariables false

/-- an error of package api: a number; none is nil -/
def Er (e : Int) : AV := if e = 0 then nilE else .ifc 1 (Z e)
theorem Er_flat (e : Int) : (Er e).flat := by unfold Er; split <;> simp [AV.flat]
theorem Er_closed (e : Int) : (Er e).closed := by unfold Er; split <;> simp [AV.closed]
theorem Er_zero : Er 0 = nilE := rfl
theorem Er_ne {e : Int} (h : e ≠ 0) : Er e = .ifc 1 (Z e) := if_neg h
def At (e p : Int) : AV := .ifc 2 (.ptrF [Z e, Z p] 0)
theorem At_closed (e p : Int) : (At e p).closed := by simp [At, AV.closed, AV.closedL]
def atN (a : Int) (n : Nat) : Nat := ((a % 18446744073709551616) % (n : Int)).toNat
theorem atN_lt {a : Int} {n : Nat} (h : 0 < n) : atN a n < n := by
  unfold atN
  have h1 := Int.emod_nonneg (a % 18446744073709551616) (show (n : Int) ≠ 0 by omega)
  have h2 := Int.emod_lt_of_pos (a % 18446744073709551616) (show (0 : Int) < n by omega)
  omega
theorem wrap_u64 (a : Int) : IntKind.u64.wrap a = a % 18446744073709551616 := by
  simp [IntKind.wrap, IntKind.bits, IntKind.signed]
/-! ### maps -/
theorem wMapN.L {H : AH} {K : Kt} (h : K (.mapL H.bs.length H.ctr) ⟨H.bs ++ [.map H.ctr [] []], H.ctr + 1⟩) : wMapN H K := ⟨H.bs.length, .inl rfl, by simpa [AH.put] using h⟩
theorem maps_at {H : AH} {b g : Nat} {ks vs : List AV} (hb : H.bs[b]? = some (.map g ks vs)) : H.maps b g = some (ks, vs) := by simp [AH.maps, hb]
theorem insertA_new {d : TypeDesc} {k v : AV} {b g : Nat} {ks vs : List AV} {H : AH} (hb : H.bs[b]? = some (.map g ks vs)) (hd : keyIs d k = true) (hf : findK k ks 0 = some none) : insertA d (.mapL b g) k v H = some ⟨H.bs.set b (.map g (ks ++ [k]) (vs ++ [v])), H.ctr⟩ := by
  simp [insertA, hd, maps_at hb, hf]
theorem lookupA_L {d : TypeDesc} {z k : AV} {ok : Bool} {b g : Nat} {ks vs : List AV} {H : AH} (hb : H.bs[b]? = some (.map g ks vs)) (hd : keyIs d k = true) : lookupA d z ok (.mapL b g) k H = mapGet z ok k ks vs := by
  simp [lookupA, hd, maps_at hb]
theorem Y0 : type_of% @wGet_some := @wGet_some
theorem Y1 : type_of% @wPut_some := @wPut_some
theorem Y2 : type_of% @wDo_some := @wDo_some
theorem Y3 : type_of% @wBool_some := @wBool_some
theorem Y4 : type_of% @wAgg_some := @wAgg_some
theorem Y5 : type_of% @wIf_true := @wIf_true
theorem Y6 : type_of% @wIf_false := @wIf_false
theorem Y7 : type_of% @wGuard_ff := @wGuard_ff
theorem Y8 : type_of% @wGuard_tt := @wGuard_tt
theorem Y9 : type_of% @wGuard_ft := @wGuard_ft
theorem Ya : type_of% @wGuard_tf := @wGuard_tf
theorem Yb : type_of% @wGuard_undef := @wGuard_undef
theorem Yc : type_of% @pickA_t := @pickA_t
theorem Yd : type_of% @pickA_f := @pickA_f
theorem Ye : type_of% @unA_not := @unA_not
theorem Yf : type_of% @faddr_L := @faddr_L
theorem Yg : type_of% @faddr_F := @faddr_F
theorem Yh : type_of% @extractA_tup := @extractA_tup
theorem Yi : type_of% @lenA_N := @lenA_N
theorem Yj : type_of% @lenA_F := @lenA_F
theorem Yk : type_of% @lenA_L := @lenA_L
theorem Yl : type_of% @lenA_T := @lenA_T
theorem Ym : type_of% @lenA_nil := @lenA_nil
theorem Yn : type_of% @lenS_S := @lenS_S
theorem Yo : type_of% @load1_L := @load1_L
theorem Yp : type_of% @load1_F := @load1_F
theorem Yq : type_of% @loadN_L := @loadN_L
theorem Yr : type_of% @loadN_F := @loadN_F
theorem Ys : type_of% @blkCells_self := @blkCells_self
theorem Yt : type_of% @blkDo_self := @blkDo_self
theorem Yu : type_of% @binA_lss := @binA_lss
theorem Yv : type_of% @binA_leq := @binA_leq
theorem Yw : type_of% @binA_gtr := @binA_gtr
theorem Yx : type_of% @binA_geq := @binA_geq
theorem Yy : type_of% @binA_eql := @binA_eql
theorem Yz : type_of% @binA_neq := @binA_neq
theorem Y10 : type_of% @binA_seq := @binA_seq
theorem Y11 : type_of% @binA_sne := @binA_sne
theorem Y12 : type_of% @bnd_none := @bnd_none
theorem Y13 : type_of% @bnd_some := @bnd_some
theorem Y14 : type_of% @eqA_bool := @eqA_bool
theorem Y15 : type_of% @eqA_ifc := @eqA_ifc
theorem Y16 : type_of% @eqA_nilE := @eqA_nilE
theorem Y17 : type_of% @eqA_pF := @eqA_pF
theorem Y18 : type_of% @eqA_pL := @eqA_pL
theorem Y19 : type_of% @eqA_pN := @eqA_pN
theorem Y1a : type_of% @eqA_slF := @eqA_slF
theorem Y1b : type_of% @eqA_slL := @eqA_slL
theorem Y1c : type_of% @eqA_slT := @eqA_slT
theorem Y1d : type_of% @eqA_slZ := @eqA_slZ
theorem Y1e : type_of% @nilA_F := @nilA_F
theorem Y1f : type_of% @nilA_L := @nilA_L
theorem Y1g : type_of% @nilA_fn := @nilA_fn
theorem Y1h : type_of% @convA_int := @convA_int
theorem Y1i : type_of% @convA_str := @convA_str
theorem Y1j : type_of% @sub_two := @sub_two
theorem Y1k : type_of% @sub_three := @sub_three
theorem Y1l : type_of% @sub_four := @sub_four
theorem Y1n : type_of% @List.nil_append := @List.nil_append
theorem Y1o : type_of% @List.cons_append := @List.cons_append
theorem Y1p : type_of% @List.length_nil := @List.length_nil
theorem Y1q : type_of% @List.length_cons := @List.length_cons
theorem Y1r : type_of% @Nat.zero_add := @Nat.zero_add
theorem Y1s : type_of% @Nat.add_zero := @Nat.add_zero
theorem Y1t : type_of% @Nat.mul_one := @Nat.mul_one
theorem Y1w : type_of% @List.getElem?_cons_zero := @List.getElem?_cons_zero
theorem Y1x : type_of% @List.getElem?_cons_succ := @List.getElem?_cons_succ
theorem Y1y : type_of% @List.set_cons_zero := @List.set_cons_zero
theorem Y1z : type_of% @List.set_cons_succ := @List.set_cons_succ
theorem Y20 : type_of% @Option.map_some := @Option.map_some
theorem Y21 : type_of% @Option.bind_some := @Option.bind_some
theorem Y22 : type_of% @Bool.bne_false := @Bool.bne_false
theorem Y23 : type_of% @Bool.bne_true := @Bool.bne_true
theorem Y24 : type_of% @Bool.not_true := @Bool.not_true
theorem Y25 : type_of% @Bool.not_false := @Bool.not_false
theorem Y26 : type_of% @decide_true := @decide_true
theorem Y27 : type_of% @decide_false := @decide_false
theorem Y28 : type_of% @if_true := @if_true
theorem Y29 : type_of% @Bool.false_eq_true := @Bool.false_eq_true
theorem Y2a : type_of% @if_false := @if_false
theorem Y2b : type_of% @Int.toNat_natCast := @Int.toNat_natCast
end Go.Sc
