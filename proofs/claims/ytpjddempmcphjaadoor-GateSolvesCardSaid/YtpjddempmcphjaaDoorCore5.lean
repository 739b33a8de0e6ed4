/- ERRORS OF PACKAGE api; short names of the nodes' lemmas. ARGUMENTS AS ABSTRACT VALUES: what a call is given lies in memory that the call does not write: frozen. DECODING: what arguments are, by their types, with their sizes; and variables that are known. CONTRACTS: lists of numbers are compared, searched, copied. (of the seat YtpjddempmcphjaaDoor) -/
import Derived.Test.YtpjddempmcphjaaDoorCore4
import Derived.Below
import Derived.ChangeArms
import Derived.SizedLaws
import Derived.WideShapes
import Derived.OpenShut
import Derived.LaidSub
namespace Go.Sc
open Go
set_option linter.unusedVariables false

/-- an error of package api: a number; none is nil -/
def Er (e : Int) : AV := if e = 0 then nilE else .ifc 1 (Z e)
theorem Er_flat (e : Int) : (Er e).flat := by unfold Er; split <;> simp [AV.flat]
theorem Er_closed (e : Int) : (Er e).closed := by unfold Er; split <;> simp [AV.closed]
theorem Er_zero : Er 0 = nilE := rfl
theorem Er_ne {e : Int} (h : e ≠ 0) : Er e = .ifc 1 (Z e) := if_neg h
def At (e p : Int) : AV := .ifc 2 (.ptrF [Z e, Z p] 0)
theorem At_closed (e p : Int) : (At e p).closed := by simp [At, AV.closed, AV.closedL]
def atN (a : Int) (n : Nat) : Nat := ((a % 18446744073709551616) % (n : Int)).toNat
theorem atN_lt {a : Int} {n : Nat} (h : 0 < n) : atN a n < n := by
  unfold atN
  have h1 := Int.emod_nonneg (a % 18446744073709551616) (show (n : Int) ≠ 0 by omega)
  have h2 := Int.emod_lt_of_pos (a % 18446744073709551616) (show (0 : Int) < n by omega)
  omega
theorem wrap_u64 (a : Int) : IntKind.u64.wrap a = a % 18446744073709551616 := by
  simp [IntKind.wrap, IntKind.bits, IntKind.signed]
/-! ### maps -/
theorem wMapN.L {H : AH} {K : Kt} (h : K (.mapL H.bs.length H.ctr) ⟨H.bs ++ [.map H.ctr [] []], H.ctr + 1⟩) : wMapN H K := ⟨H.bs.length, .inl rfl, by simpa [AH.put] using h⟩
theorem maps_at {H : AH} {b g : Nat} {ks vs : List AV} (hb : H.bs[b]? = some (.map g ks vs)) : H.maps b g = some (ks, vs) := by simp [AH.maps, hb]
theorem insertA_new {d : TypeDesc} {k v : AV} {b g : Nat} {ks vs : List AV} {H : AH} (hb : H.bs[b]? = some (.map g ks vs)) (hd : keyIs d k = true) (hf : findK k ks 0 = some none) : insertA d (.mapL b g) k v H = some ⟨H.bs.set b (.map g (ks ++ [k]) (vs ++ [v])), H.ctr⟩ := by
  simp [insertA, hd, maps_at hb, hf]
theorem lookupA_L {d : TypeDesc} {z k : AV} {ok : Bool} {b g : Nat} {ks vs : List AV} {H : AH} (hb : H.bs[b]? = some (.map g ks vs)) (hd : keyIs d k = true) : lookupA d z ok (.mapL b g) k H = mapGet z ok k ks vs := by
  simp [lookupA, hd, maps_at hb]
def LB (l : List Bool) : AV := Lm (fun b => Bo b) l
theorem LB_closed (l : List Bool) : (LB l).closed := by simp [LB, Lm, AV.closed, closed_B]
theorem LB_scalar (l : List Bool) : (LB l).scalar = true := rfl
theorem retPack_two (a : List AV) (e : AV) : retPack [some (.agg a), some e] = some (.tup [.agg a, e]) := rfl
theorem put_two (a b a' b' : AV) : putL [a, b] 0 [a', b'] = some [a', b'] := rfl
theorem ret_one (a : List AV) : retPack [some (.agg a)] = some (.agg a) := rfl
/-- the first place of one in a list, or -1 -/
def idx {α : Type} [DecidableEq α] (l : List α) (x : α) : Int := if x ∈ l then (l.idxOf x : Nat) else -1
theorem idx_app {α : Type} [DecidableEq α] {pre rest : List α} {x : α} (h : x ∉ pre) : idx (pre ++ x :: rest) x = pre.length := by
  simp [idx, List.idxOf_append, h]
theorem idx_neg {α : Type} [DecidableEq α] {l : List α} {x : α} : idx l x < 0 ↔ x ∉ l := by
  unfold idx; split <;> simp_all <;> omega

theorem Y0 : type_of% @wGet_some := @wGet_some
theorem Y1 : type_of% @wPut_some := @wPut_some
theorem Y2 : type_of% @wDo_some := @wDo_some
theorem Y3 : type_of% @wBool_some := @wBool_some
theorem Y4 : type_of% @wAgg_some := @wAgg_some
theorem Y5 : type_of% @wIf_true := @wIf_true
theorem Y6 : type_of% @wIf_false := @wIf_false
theorem Y7 : type_of% @wGuard_ff := @wGuard_ff
theorem Y8 : type_of% @wGuard_tt := @wGuard_tt
theorem Y9 : type_of% @wGuard_ft := @wGuard_ft
theorem Ya : type_of% @wGuard_tf := @wGuard_tf
theorem Yb : type_of% @wGuard_undef := @wGuard_undef
theorem Yc : type_of% @pickA_t := @pickA_t
theorem Yd : type_of% @pickA_f := @pickA_f
theorem Ye : type_of% @unA_not := @unA_not
theorem Yf : type_of% @faddr_L := @faddr_L
theorem Yg : type_of% @faddr_F := @faddr_F
theorem Yh : type_of% @extractA_tup := @extractA_tup
theorem Yi : type_of% @lenA_N := @lenA_N
theorem Yj : type_of% @lenA_F := @lenA_F
theorem Yk : type_of% @lenA_L := @lenA_L
theorem Yl : type_of% @lenA_T := @lenA_T
theorem Ym : type_of% @lenA_nil := @lenA_nil
theorem Yn : type_of% @lenS_S := @lenS_S
theorem Yo : type_of% @load1_L := @load1_L
theorem Yp : type_of% @load1_F := @load1_F
theorem Yq : type_of% @loadN_L := @loadN_L
theorem Yr : type_of% @loadN_F := @loadN_F
theorem Ys : type_of% @blkCells_self := @blkCells_self
theorem Yt : type_of% @blkDo_self := @blkDo_self
theorem Yu : type_of% @binA_lss := @binA_lss
theorem Yv : type_of% @binA_leq := @binA_leq
theorem Yw : type_of% @binA_gtr := @binA_gtr
theorem Yx : type_of% @binA_geq := @binA_geq
theorem Yy : type_of% @binA_eql := @binA_eql
theorem Yz : type_of% @binA_neq := @binA_neq
theorem Y10 : type_of% @binA_seq := @binA_seq
theorem Y11 : type_of% @binA_sne := @binA_sne
theorem Y12 : type_of% @bnd_none := @bnd_none
theorem Y13 : type_of% @bnd_some := @bnd_some
theorem Y14 : type_of% @eqA_bool := @eqA_bool
theorem Y15 : type_of% @eqA_ifc := @eqA_ifc
theorem Y16 : type_of% @eqA_nilE := @eqA_nilE
theorem Y17 : type_of% @eqA_pF := @eqA_pF
theorem Y18 : type_of% @eqA_pL := @eqA_pL
theorem Y19 : type_of% @eqA_pN := @eqA_pN
theorem Y1a : type_of% @eqA_slF := @eqA_slF
theorem Y1b : type_of% @eqA_slL := @eqA_slL
theorem Y1c : type_of% @eqA_slT := @eqA_slT
theorem Y1d : type_of% @eqA_slZ := @eqA_slZ
theorem Y1e : type_of% @nilA_F := @nilA_F
theorem Y1f : type_of% @nilA_L := @nilA_L
theorem Y1g : type_of% @nilA_fn := @nilA_fn
theorem Y1h : type_of% @convA_int := @convA_int
theorem Y1i : type_of% @convA_str := @convA_str
theorem Y1j : type_of% @sub_two := @sub_two
theorem Y1k : type_of% @sub_three := @sub_three
theorem Y1l : type_of% @sub_four := @sub_four
theorem Y1n : type_of% @List.nil_append := @List.nil_append
theorem Y1o : type_of% @List.cons_append := @List.cons_append
theorem Y1p : type_of% @List.length_nil := @List.length_nil
theorem Y1q : type_of% @List.length_cons := @List.length_cons
theorem Y1r : type_of% @Nat.zero_add := @Nat.zero_add
theorem Y1s : type_of% @Nat.add_zero := @Nat.add_zero
theorem Y1t : type_of% @Nat.mul_one := @Nat.mul_one
theorem Y1w : type_of% @List.getElem?_cons_zero := @List.getElem?_cons_zero
theorem Y1x : type_of% @List.getElem?_cons_succ := @List.getElem?_cons_succ
theorem Y1y : type_of% @List.set_cons_zero := @List.set_cons_zero
theorem Y1z : type_of% @List.set_cons_succ := @List.set_cons_succ
theorem Y20 : type_of% @Option.map_some := @Option.map_some
theorem Y21 : type_of% @Option.bind_some := @Option.bind_some
theorem Y22 : type_of% @Bool.bne_false := @Bool.bne_false
theorem Y23 : type_of% @Bool.bne_true := @Bool.bne_true
theorem Y24 : type_of% @Bool.not_true := @Bool.not_true
theorem Y25 : type_of% @Bool.not_false := @Bool.not_false
theorem Y26 : type_of% @decide_true := @decide_true
theorem Y27 : type_of% @decide_false := @decide_false
theorem Y28 : type_of% @if_true := @if_true
theorem Y29 : type_of% @Bool.false_eq_true := @Bool.false_eq_true
theorem Y2a : type_of% @if_false := @if_false
theorem Y2b : type_of% @Int.toNat_natCast := @Int.toNat_natCast
end Go.Sc
namespace Go.Sc
open Go Go.RowKit
set_option linter.unusedVariables false

/-- the context as a call begins: all that is there is frozen -/
def Cx.start (W : World) : Cx := { w := W, al := fun _ => 0, base := fun _ => 0, gen := fun _ => none, sz := fun _ => 0, csz := fun _ => 0, fz := fun b => b < W.heap.size, fc := fun _ _ => False, ctr := 0 }
/-- what is known of variables is so -/
def Env.met (E : Env) (W : World) : Prop := ∀ g cs, E.gl g = some cs → AV.closedL cs ∧ CRel E (Cx.start W) cs (E.gn g) 0
theorem HRel.start {E : Env} {W : World} (hg : E.met W) : HRel E (Cx.start W) ⟨[], 0⟩ :=
  ⟨rfl, fun _ _ => rfl, by simp, fun _ h => absurd rfl h, by simp, fun _ _ h => absurd rfl h, fun _ h => absurd rfl h, fun _ h => h, fun _ _ h => h.elim, hg⟩
theorem Later.below {W : World} {c : Cx} (h : Later (Cx.start W) c) : Below W.heap.size W c.w :=
  ⟨h.os, h.tape, h.output, h.size, fun k hk => h.keep k hk fun b hb => absurd rfl hb⟩

/-- a law's call -/
theorem calls_law {E : Env} {P : Program} {f : FuncId} {fn : Func} {n : Ann} {args : List AV} {r : Value} {W : World} (hf : P.funcs[f]? = some fn) (h : bodyW E P fn n args ⟨[], 0⟩ (fun x _ => x = .val r)) {vs : List Value} (hv : LRel E (Cx.start W) args vs) (hg : E.met W) :
    Calls P f vs.toArray W fun e w' => e = .returned r ∧ Below W.heap.size W w' := by
  refine (calls_of_body hf h (HRel.start hg) hv).mono ?_
  rintro e w' ⟨x, v, c', H', rfl, rfl, rfl, _, hv, hl⟩
  simp only [VRel] at hv
  subst hv
  exact ⟨rfl, hl.below⟩

theorem rel_str {E : Env} {c : Cx} (b : ByteArray) : VRel E c (S b.data.toList) (.string b) := by simp only [VRel]
theorem HRel.start' {E : Env} {W : World} (hg : E.met W) (m : Nat) : HRel E (Cx.start W) ⟨List.replicate m .dead, 0⟩ :=
  ⟨rfl, fun _ _ => rfl, fun i x hx => by
    have : x = .dead := by
      have := List.mem_of_getElem? hx
      exact List.eq_of_mem_replicate this
    subst this
    rfl, fun _ h => absurd rfl h, fun i x hx hd => by
    have : x = .dead := List.eq_of_mem_replicate (List.mem_of_getElem? hx)
    exact absurd this hd, fun _ _ h => absurd rfl h, fun _ h => absurd rfl h, fun _ h => h, fun _ _ h => h.elim, hg⟩
/-- a law's call, with room for blocks -/
theorem calls_law' {E : Env} {P : Program} {f : FuncId} {fn : Func} {n : Ann} {args : List AV} {r : Value} {W : World} (m : Nat) (hf : P.funcs[f]? = some fn) (h : bodyW E P fn n args ⟨List.replicate m .dead, 0⟩ (fun x _ => x = .val r)) {vs : List Value} (hv : LRel E (Cx.start W) args vs) (hg : E.met W) :
    Calls P f vs.toArray W fun e w' => e = .returned r ∧ Below W.heap.size W w' := by
  refine (calls_of_body hf h (HRel.start' hg m) hv).mono ?_
  rintro e w' ⟨x, v, c', H', rfl, rfl, rfl, _, hv, hl⟩
  simp only [VRel] at hv
  subst hv
  exact ⟨rfl, hl.below⟩

theorem crel_start {E : Env} {W : World} {b : Nat} (hb : b < W.heap.size) {xs : List AV} {o : Nat} (h : ∀ (i : Nat) x, xs[i]? = some x → ∃ u, W.cell? ⟨b, o + i, none⟩ = some u ∧ VRel E (Cx.start W) x u) : CRel E (Cx.start W) xs b o :=
  CRel.of fun i x hi => ⟨.inl hb, h i x hi⟩
theorem list_of {α : Type} {Q : Nat → α → Prop} : ∀ n, (∀ i, i < n → ∃ x, Q i x) → ∃ xs : List α, xs.length = n ∧ ∀ (i : Nat) x, xs[i]? = some x → Q i x
  | 0, _ => ⟨[], rfl, by simp⟩
  | n + 1, h => by
    obtain ⟨xs, h1, h2⟩ := list_of n fun i hi => h i (by omega)
    obtain ⟨y, hy⟩ := h n (by omega)
    refine ⟨xs ++ [y], by simp [h1], fun i x hx => ?_⟩
    by_cases hi : i < xs.length
    · rw [List.getElem?_append_left hi] at hx; exact h2 i x hx
    · have hl := lt_of_get hx
      simp at hl
      have : i = xs.length := by omega
      subst this
      simp at hx
      rw [h1]; exact hx ▸ hy

section
variable {H : Type} {enc : TypeId × Value → H} {P : Program} {W : World} {E : Env} {fuel : Nat} {t : TypeId} {cs : List Value} {x : DataW H × List MemPlace}

theorem cells_one {a : Addr} {i : Nat} {vs : List Value} (h : W.cells? 0 (a.add (i * 1)) 1 = some vs) : ∃ v, vs = [v] ∧ W.cell? (a.add i) = some v := by
  simp only [World.cells?, Nat.zero_le, if_true, Nat.mul_one] at h
  simp only [List.range_succ, List.range_zero, List.nil_append, List.mapM_cons, List.mapM_nil, Option.pure_def, Option.bind_eq_bind, Option.bind_eq_some_iff, Option.some.injEq] at h
  obtain ⟨v, h1, vs', rfl, rfl⟩ := h
  refine ⟨v, rfl, ?_⟩
  have : (a.add i).add 0 = a.add i := by simp [Addr.add]
  rwa [this] at h1

theorem trod_i64 (ht : P.underlying t = some (.int .i64)) (h : DataW.trod enc P W 0 (fun _ => true) true fuel t cs = some x) : ∃ z, cs = [.int .i64 z] := by
  obtain ⟨n, h1, _⟩ := DataW.trod_int ht h
  exact ⟨n, h1⟩
theorem trod_i64r (ht : P.underlying t = some (.int .i64)) (h : DataW.trod enc P W 0 (fun _ => true) true fuel t cs = some x) : ∃ z, cs = [.int .i64 z] ∧ -9223372036854775808 ≤ z ∧ z ≤ 9223372036854775807 := by
  obtain ⟨n, h1, _, h2⟩ := DataW.trod_int ht h
  exact ⟨n, h1, by simpa [Lit.wf, IntKind.min, IntKind.max, IntKind.signed, IntKind.bits] using h2⟩
theorem trod_str (ht : P.underlying t = some .string) (h : DataW.trod enc P W 0 (fun _ => true) true fuel t cs = some x) : ∃ s : Str, cs = [.string ⟨s.toArray⟩] ∧ s.length ≤ maxLen := by
  obtain ⟨b, rfl, _, hb⟩ := DataW.trod_string ht h
  refine ⟨b.data.toList, ?_, ?_⟩
  · congr 2
  · have : b.data.toList.length = b.size := Array.length_toList
    omega
theorem trod_boo (ht : P.underlying t = some .bool) (h : DataW.trod enc P W 0 (fun _ => true) true fuel t cs = some x) : ∃ b, cs = [.bool b] := by
  obtain ⟨b, h1, _⟩ := DataW.trod_bool ht h
  exact ⟨b, h1⟩

theorem cells_get {a : Addr} {n : Nat} {vs : List Value} (h : W.cells? 0 a n = some vs) : vs.length = n ∧ ∀ j v, vs[j]? = some v → W.cell? (a.add j) = some v := by
  simp only [World.cells?, Nat.zero_le, if_true] at h
  have hl : vs.length = n := by simpa using mapM_some_length h
  refine ⟨hl, fun j v hj => ?_⟩
  have hjn := lt_of_get hj
  have := mapM_some_get h j j (by rw [List.getElem?_range (by omega)])
  rw [this, hj]
theorem cell_spot {a : Addr} {v : Value} (h : W.cell? a = some v) : a.spot = none ∧ a.block < W.heap.size := by
  simp only [World.cell?] at h
  split at h
  · rename_i hb
    refine ⟨?_, ?_⟩
    · cases hs : a.spot with
      | none => rfl
      | some s => simp [hs] at h
    · by_cases hb' : a.block < W.heap.size
      · exact hb'
      · rw [Array.getElem?_eq_none (by omega)] at hb; cases hb
  · cases h
theorem crel_flat {α : Type} {f : α → List AV} {n b : Nat} (hb : b < W.heap.size) (hn : ∀ a, (f a).length = n) : ∀ (xs : List α) (o : Nat), (∀ (i : Nat) x, xs[i]? = some x → ∃ vs : List Value, LRel E (Cx.start W) (f x) vs ∧ ∀ j v, vs[j]? = some v → W.cell? ⟨b, o + i * n + j, none⟩ = some v) → CRel E (Cx.start W) (xs.map f).flatten b o
  | [], _, _ => by simp [CRel]
  | x :: xs, o, h => by
    simp only [List.map_cons, List.flatten_cons]
    refine CRel.append (crel_start hb fun i y hi => ?_) ?_
    · obtain ⟨vs, h1, h2⟩ := h 0 x rfl
      obtain ⟨u, h3, h4⟩ := h1.get hi
      exact ⟨u, by simpa using h2 i u h3, h4⟩
    · rw [hn]
      refine crel_flat hb hn xs (o + n) fun i y hi => ?_
      obtain ⟨vs, h1, h2⟩ := h (i + 1) y (by simpa using hi)
      refine ⟨vs, h1, fun j v hj => ?_⟩
      rw [← h2 j v hj]
      congr 2
      rw [Nat.add_mul]; omega

/-- a slice of elements of 'n' cells each, each as 'f' tells it -/
theorem trod_list {α : Type} {e : TypeId} {n : Nat} {f : α → List AV} {Q : α → Prop} (hn : ∀ a, (f a).length = n) (h0 : 0 < n) (ht : P.underlying t = some (.slice e)) (hc : P.cellsOf e = n)
    (hQ : ∀ (m : Nat) (vs : List Value) (y : DataW H × List MemPlace), vs.length = n → DataW.trod enc P W 0 (fun _ => true) true m e vs = some y → ∃ a, Q a ∧ LRel E (Cx.start W) (f a) vs)
    (h : DataW.trod enc P W 0 (fun _ => true) true fuel t cs = some x) : ∃ v, cs = [v] ∧ ∃ xs : List α, (∀ x ∈ xs, Q x) ∧ xs.length ≤ maxLen ∧ VRel E (Cx.start W) (.slN (xs.map f).flatten xs.length) v := by
  rcases DataW.trod_slice ht h with ⟨rfl, _⟩ | ⟨a, len, cap, elems, rest, m, _, rfl, _, _, hl, hmx, hel, he, hr, _⟩
  · exact ⟨_, rfl, [], by simp, by simp, by simp [VRel]⟩
  · refine ⟨_, rfl, ?_⟩
    obtain ⟨hr1, hr2⟩ := hr rfl
    have hcell : ∀ i, i < len → ∃ vs y, W.cells? 0 (a.add (i * n)) n = some vs ∧ DataW.trod enc P W 0 (fun _ => true) true m e vs = some y := by
      intro i hi
      have h1 := he i hi
      rw [hc, List.getElem?_eq_getElem (by omega)] at h1
      simp only [Option.bind_eq_some_iff] at h1
      obtain ⟨vs, h2, h3⟩ := h1
      exact ⟨vs, _, h2, h3⟩
    have hzero : cap = 0 ∨ ∃ v, W.cell? a = some v := by
      by_cases hl0 : 0 < len
      · obtain ⟨vs, _, h1, _⟩ := hcell 0 hl0
        obtain ⟨g1, g2⟩ := cells_get h1
        have : vs[0]? = some vs[0] := List.getElem?_eq_getElem (by omega)
        exact .inr ⟨_, by simpa [Addr.add] using g2 0 _ this⟩
      · by_cases hcp : 0 < cap
        · have h1 := hr2 0 (by omega)
          rw [hc, List.getElem?_eq_getElem (by omega)] at h1
          simp only [Option.bind_eq_some_iff] at h1
          obtain ⟨vs, h2, _⟩ := h1
          obtain ⟨g1, g2⟩ := cells_get h2
          have : vs[0]? = some vs[0] := List.getElem?_eq_getElem (by omega)
          have hlen0 : len = 0 := by omega
          subst hlen0
          exact .inr ⟨_, by simpa [Addr.add] using g2 0 _ this⟩
        · exact .inl (by omega)
    obtain ⟨xs, hx1, hx2⟩ := list_of (Q := fun i (x : α) => Q x ∧ ∃ vs : List Value, LRel E (Cx.start W) (f x) vs ∧ ∀ j v, vs[j]? = some v → W.cell? ((a.add (i * n)).add j) = some v) len fun i hi => by
      obtain ⟨vs, y, h1, h2⟩ := hcell i hi
      obtain ⟨g1, g2⟩ := cells_get h1
      obtain ⟨z, h3, h4⟩ := hQ m vs y g1 h2
      exact ⟨z, h3, vs, h4, g2⟩
    refine ⟨xs, fun x hx => ?_, by omega, ?_⟩
    · obtain ⟨i, hi, rfl⟩ := List.getElem_of_mem hx
      exact (hx2 i _ (List.getElem?_eq_getElem hi)).1
    · simp only [VRel]
      refine .inr ⟨a, cap, by rw [hx1], by omega, hzero.imp id ?_⟩
      rintro ⟨v, hv⟩
      have hs := cell_spot hv
      obtain ⟨blk, off, spot⟩ := a
      have hspot : spot = none := hs.1
      subst hspot
      refine ⟨blk, off, rfl, crel_flat hs.2 hn xs off fun i x hi => ?_⟩
      obtain ⟨_, vs, h1, h2⟩ := hx2 i x hi
      refine ⟨vs, h1, fun j v hj => ?_⟩
      have := h2 j v hj
      rwa [Addr.add_at, Addr.add_at] at this
theorem flat_single {α : Type} {f : α → AV} (xs : List α) : (xs.map fun x => [f x]).flatten = xs.map f := by
  induction xs with
  | nil => rfl
  | cons x xs ih => simp [ih]
/-- of elements of one cell -/
theorem trod_list1 {α : Type} {e : TypeId} {f : α → AV} {Q : α → Prop} (ht : P.underlying t = some (.slice e)) (hc : P.cellsOf e = 1)
    (hQ : ∀ (m : Nat) (v : Value) (y : DataW H × List MemPlace), DataW.trod enc P W 0 (fun _ => true) true m e [v] = some y → ∃ a, Q a ∧ VRel E (Cx.start W) (f a) v)
    (h : DataW.trod enc P W 0 (fun _ => true) true fuel t cs = some x) : ∃ v, cs = [v] ∧ ∃ xs : List α, (∀ x ∈ xs, Q x) ∧ xs.length ≤ maxLen ∧ VRel E (Cx.start W) (Lm f xs) v := by
  obtain ⟨v, h1, xs, h2, h3, h4⟩ := trod_list (E := E) (n := 1) (f := fun a => [f a]) (Q := Q) (fun _ => rfl) (by omega) ht hc (fun m vs y hl hy => by
    obtain ⟨v, rfl⟩ := List.length_eq_one_iff.1 hl
    obtain ⟨a, h1, h2⟩ := hQ m v y hy
    exact ⟨a, h1, by simp only [LRel]; exact ⟨v, [], rfl, h2, rfl⟩⟩) h
  rw [flat_single] at h4
  exact ⟨v, h1, xs, h2, h3, h4⟩
def inI (z : Int) : Prop := -9223372036854775808 ≤ z ∧ z ≤ 9223372036854775807
theorem trod_ints {e : TypeId} (ht : P.underlying t = some (.slice e)) (he : P.underlying e = some (.int .i64)) (hc : P.cellsOf e = 1)
    (h : DataW.trod enc P W 0 (fun _ => true) true fuel t cs = some x) : ∃ v, cs = [v] ∧ ∃ xs : List Int, (∀ x ∈ xs, inI x) ∧ xs.length ≤ maxLen ∧ VRel E (Cx.start W) (Lm Z xs) v :=
  trod_list1 ht hc (fun m v y hy => by
    obtain ⟨z, hz, h2⟩ := trod_i64r he hy
    injection hz with hz
    exact ⟨z, h2, by simp [VRel, hz]⟩) h
theorem trod_strs {e : TypeId} (ht : P.underlying t = some (.slice e)) (he : P.underlying e = some .string) (hc : P.cellsOf e = 1)
    (h : DataW.trod enc P W 0 (fun _ => true) true fuel t cs = some x) : ∃ v, cs = [v] ∧ ∃ xs : List Str, (∀ x ∈ xs, x.length ≤ maxLen) ∧ xs.length ≤ maxLen ∧ VRel E (Cx.start W) (Lm S xs) v :=
  trod_list1 ht hc (fun m v y hy => by
    obtain ⟨z, hz, h2⟩ := trod_str he hy
    injection hz with hz
    exact ⟨z, h2, by simp [VRel, hz]⟩) h
theorem trod_bools {e : TypeId} (ht : P.underlying t = some (.slice e)) (he : P.underlying e = some .bool) (hc : P.cellsOf e = 1)
    (h : DataW.trod enc P W 0 (fun _ => true) true fuel t cs = some x) : ∃ v, cs = [v] ∧ ∃ xs : List Bool, (∀ x ∈ xs, True) ∧ xs.length ≤ maxLen ∧ VRel E (Cx.start W) (Lm Bo xs) v :=
  trod_list1 ht hc (fun m v y hy => by
    obtain ⟨z, hz⟩ := trod_boo he hy
    injection hz with hz
    exact ⟨z, trivial, by simp [VRel, hz]⟩) h
theorem trod_lists {α : Type} {f : α → AV} {Q : α → Prop} {e e' : TypeId} (ht : P.underlying t = some (.slice e)) (hc : P.cellsOf e = 1) (he : P.underlying e = some (.slice e')) (hc' : P.cellsOf e' = 1)
    (hQ : ∀ (m : Nat) (v : Value) (y : DataW H × List MemPlace), DataW.trod enc P W 0 (fun _ => true) true m e' [v] = some y → ∃ a, Q a ∧ VRel E (Cx.start W) (f a) v)
    (h : DataW.trod enc P W 0 (fun _ => true) true fuel t cs = some x) : ∃ v, cs = [v] ∧ ∃ xs : List (List α), (∀ l ∈ xs, (∀ x ∈ l, Q x) ∧ l.length ≤ maxLen) ∧ xs.length ≤ maxLen ∧ VRel E (Cx.start W) (Lm (Lm f) xs) v :=
  trod_list1 ht hc (fun m v y hy => by
    obtain ⟨u, hu, xs, h1, h2, h3⟩ := trod_list1 he hc' hQ hy
    injection hu with hu
    exact ⟨xs, ⟨h1, h2⟩, hu ▸ h3⟩) h
end
end Go.Sc
namespace Go.Sc
open Go Go.RowKit Go.WideShapes
set_option linter.unusedVariables false

def Sized {H : Type} (P : Program) (t : TypeId) (d : DataW H) : Prop := ∀ n ∈ d.weights P t, n ≤ reachBytes
theorem weights_all {H : Type} {P : Program} {e : TypeId} {d : DataW H} {n : Nat} (hn : n ∈ d.weights P e) : ∀ {l : List (DataW H)}, d ∈ l → n ∈ DataW.weightsAll P e l
  | y :: l, h => by
    simp only [DataW.weightsAll, List.mem_append]
    rcases List.mem_cons.1 h with rfl | h
    · exact .inl hn
    · exact .inr (weights_all hn h)
theorem Sized.of_each {H : Type} {P : Program} {ts : List TypeId} {ds : List (DataW H)} (h : (DataW.weightsEach P ts ds).all (· ≤ reachBytes) = true) {j : Nat} {t : TypeId} {d : DataW H} (ht : ts[j]? = some t) (hd : ds[j]? = some d) : Sized P t d := fun n hn => by
  have := List.all_eq_true.1 h n (DataW.weights_mem_each ht hd n hn)
  simpa using this

/-- a type's values, as 'f' tells them -/
structure Dec {H : Type} (enc : TypeId × Value → H) (P : Program) (W : World) (E : Env) (t : TypeId) {α : Type} (f : α → List AV) (Q : α → Prop) : Prop where
  ok : ∀ fuel cs x, DataW.trod enc P W 0 (fun _ => true) true fuel t cs = some x → Sized P t x.1 → ∃ a, Q a ∧ LRel E (Cx.start W) (f a) cs

section
variable {H : Type} {enc : TypeId × Value → H} {P : Program} {W : World} {E : Env} {t : TypeId}
theorem LRel.one {c : Cx} {x : AV} {v : Value} (h : VRel E c x v) : LRel E c [x] [v] := by simp only [LRel]; exact ⟨v, [], rfl, h, rfl⟩
theorem LRel.one' {c : Cx} {x : AV} {vs : List Value} (h : LRel E c [x] vs) : ∃ v, vs = [v] ∧ VRel E c x v := by
  simp only [LRel] at h
  obtain ⟨u, us, rfl, h1, rfl⟩ := h
  exact ⟨u, rfl, h1⟩
theorem Dec.map {α β : Type} {f : α → List AV} {Q : α → Prop} (h : Dec enc P W E t f Q) {g : β → List AV} {Q' : β → Prop} (φ : α → β) (hφ : ∀ a, Q a → Q' (φ a) ∧ g (φ a) = f a) : Dec enc P W E t g Q' where
  ok := fun fuel cs x hx hs => by
    obtain ⟨a, h1, h2⟩ := h.ok fuel cs x hx hs
    exact ⟨φ a, (hφ a h1).1, (hφ a h1).2 ▸ h2⟩
theorem Dec.i64 (ht : P.underlying t = some (.int .i64)) : Dec enc P W E t (fun z => [Z z]) inI where
  ok := fun fuel cs x hx _ => by
    obtain ⟨z, rfl, h⟩ := trod_i64r ht hx
    exact ⟨z, h, .one (by simp [VRel])⟩
theorem Dec.str (ht : P.underlying t = some .string) : Dec enc P W E t (fun s => [S s]) (fun s : Str => s.length ≤ reachBytes) where
  ok := fun fuel cs x hx hs => by
    obtain ⟨b, rfl, rfl, _⟩ := DataW.trod_string ht hx
    exact ⟨b.data.toList, hs _ (by simp [DataW.weights]), .one (rel_str b)⟩
theorem Dec.boo (ht : P.underlying t = some .bool) : Dec enc P W E t (fun b => [Bo b]) (fun _ => True) where
  ok := fun fuel cs x hx _ => by
    obtain ⟨b, rfl⟩ := trod_boo ht hx
    exact ⟨b, trivial, .one (by simp [VRel])⟩

theorem Dec.slice {α : Type} {e : TypeId} {f : α → List AV} {Q : α → Prop} (n : Nat) (d : Dec enc P W E e f Q) (hn : ∀ a, (f a).length = n) (h0 : 0 < n) (ht : P.underlying t = some (.slice e)) (hc : P.cellsOf e = n) :
    Dec enc P W E t (fun xs : List α => [.slN (xs.map f).flatten xs.length]) (fun xs => (∀ x ∈ xs, Q x) ∧ xs.length * P.bytesOf e ≤ reachBytes) where
  ok := fun fuel cs x h hs => by
    rcases DataW.trod_slice ht h with ⟨rfl, _⟩ | ⟨a, len, cap, elems, rest, m, _, rfl, rfl, _, hl, hmx, hel, he, hr, _⟩
    · exact ⟨[], ⟨by simp, by simp⟩, .one (by simp [VRel])⟩
    · simp only [Sized, DataW.weights, ht, List.mem_cons, List.mem_append, List.length_map] at hs
      have hlen : (elems.length + rest.length) * P.bytesOf e ≤ reachBytes := hs _ (.inl rfl)
      obtain ⟨hr1, hr2⟩ := hr rfl
      have hcell : ∀ i, i < len → ∃ vs y, W.cells? 0 (a.add (i * n)) n = some vs ∧ DataW.trod enc P W 0 (fun _ => true) true m e vs = some y ∧ Sized P e y.1 := by
        intro i hi
        have h1 := he i hi
        rw [hc, List.getElem?_eq_getElem (by omega)] at h1
        simp only [Option.bind_eq_some_iff] at h1
        obtain ⟨vs, h2, h3⟩ := h1
        exact ⟨vs, _, h2, h3, fun k hk => hs k (.inr (.inl (weights_all hk (List.mem_map.2 ⟨_, List.getElem_mem _, rfl⟩))))⟩
      have hzero : cap = 0 ∨ ∃ v, W.cell? a = some v := by
        by_cases hl0 : 0 < len
        · obtain ⟨vs, _, h1, _⟩ := hcell 0 hl0
          obtain ⟨g1, g2⟩ := cells_get h1
          have : vs[0]? = some vs[0] := List.getElem?_eq_getElem (by omega)
          exact .inr ⟨_, by simpa [Addr.add] using g2 0 _ this⟩
        · by_cases hcp : 0 < cap
          · have h1 := hr2 0 (by omega)
            rw [hc, List.getElem?_eq_getElem (by omega)] at h1
            simp only [Option.bind_eq_some_iff] at h1
            obtain ⟨vs, h2, _⟩ := h1
            obtain ⟨g1, g2⟩ := cells_get h2
            have : vs[0]? = some vs[0] := List.getElem?_eq_getElem (by omega)
            have hlen0 : len = 0 := by omega
            subst hlen0
            exact .inr ⟨_, by simpa [Addr.add] using g2 0 _ this⟩
          · exact .inl (by omega)
      obtain ⟨xs, hx1, hx2⟩ := list_of (Q := fun i (x : α) => Q x ∧ ∃ vs : List Value, LRel E (Cx.start W) (f x) vs ∧ ∀ j v, vs[j]? = some v → W.cell? ((a.add (i * n)).add j) = some v) len fun i hi => by
        obtain ⟨vs, y, h1, h2, h3⟩ := hcell i hi
        obtain ⟨g1, g2⟩ := cells_get h1
        obtain ⟨z, h3, h4⟩ := d.ok m vs y h2 h3
        exact ⟨z, h3, vs, h4, g2⟩
      refine ⟨xs, ⟨fun x hx => ?_, ?_⟩, .one ?_⟩
      · obtain ⟨i, hi, rfl⟩ := List.getElem_of_mem hx
        exact (hx2 i _ (List.getElem?_eq_getElem hi)).1
      · rw [hx1, ← hel]
        exact Nat.le_trans (Nat.mul_le_mul_right _ (by omega)) hlen
      · simp only [VRel]
        refine .inr ⟨a, cap, by rw [hx1], by omega, hzero.imp id ?_⟩
        rintro ⟨v, hv⟩
        have hs := cell_spot hv
        obtain ⟨blk, off, spot⟩ := a
        have hspot : spot = none := hs.1
        subst hspot
        refine ⟨blk, off, rfl, crel_flat hs.2 hn xs off fun i x hi => ?_⟩
        obtain ⟨_, vs, h1, h2⟩ := hx2 i x hi
        refine ⟨vs, h1, fun j v hj => ?_⟩
        have := h2 j v hj
        rwa [Addr.add_at, Addr.add_at] at this
/-- of elements of one cell -/
theorem Dec.slice1 {α : Type} {e : TypeId} {f : α → AV} {Q : α → Prop} (d : Dec enc P W E e (fun a => [f a]) Q) (ht : P.underlying t = some (.slice e)) (hc : P.cellsOf e = 1) :
    Dec enc P W E t (fun xs : List α => [Lm f xs]) (fun xs => (∀ x ∈ xs, Q x) ∧ xs.length * P.bytesOf e ≤ reachBytes) :=
  (d.slice 1 (fun _ => rfl) (by omega) ht hc).map id fun a h => ⟨h, by simp only [id, flat_single]⟩

theorem Dec.struct2 {α β : Type} {f0 f1 : Field} {g0 : α → List AV} {g1 : β → List AV} {Q0 : α → Prop} {Q1 : β → Prop} (d0 : Dec enc P W E f0.type g0 Q0) (d1 : Dec enc P W E f1.type g1 Q1) (ht : P.underlying t = some (.struct #[f0, f1]))
    (hc : f0.offset = 0 ∧ f1.offset = P.cellsOf f0.type ∧ P.cellsOf t = P.cellsOf f0.type + P.cellsOf f1.type) : Dec enc P W E t (fun p : α × β => g0 p.1 ++ g1 p.2) (fun p => Q0 p.1 ∧ Q1 p.2) where
  ok := fun fuel cs x h hs => by
    obtain ⟨xs, m, _, rfl, hl, hlen, hf⟩ := DataW.trod_struct ht h
    obtain ⟨c0, c1, c2⟩ := hc
    match xs, hlen with
    | [y0, y1], _ =>
      have h0 := hf 0 f0 rfl
      have h1 := hf 1 f1 rfl
      have sz : ∀ (j : Nat) f y, (#[f0, f1] : Array Field).toList[j]? = some f → [y0, y1][j]? = some y → Sized P f.type y.1 := fun j f y hf' hy n hn => by
        refine hs n ?_
        simp only [DataW.weights, ht]
        exact DataW.weights_mem_each (j := j) (by simp only [List.getElem?_map, hf']; rfl) (by simp only [List.getElem?_map, hy]; rfl) n hn
      obtain ⟨a, q0, r0⟩ := d0.ok _ _ _ h0 (sz 0 _ _ rfl rfl)
      obtain ⟨b, q1, r1⟩ := d1.ok _ _ _ h1 (sz 1 _ _ rfl rfl)
      refine ⟨(a, b), ⟨q0, q1⟩, ?_⟩
      have := r0.append r1
      rw [c0, c1, List.drop_zero, List.take_of_length_le (l := cs.drop _) (by simp; omega), List.take_append_drop] at this
      exact this
theorem Dec.struct4 {α β γ δ : Type} {f0 f1 f2 f3 : Field} {g0 : α → List AV} {g1 : β → List AV} {g2 : γ → List AV} {g3 : δ → List AV} {Q0 : α → Prop} {Q1 : β → Prop} {Q2 : γ → Prop} {Q3 : δ → Prop}
    (d0 : Dec enc P W E f0.type g0 Q0) (d1 : Dec enc P W E f1.type g1 Q1) (d2 : Dec enc P W E f2.type g2 Q2) (d3 : Dec enc P W E f3.type g3 Q3) (ht : P.underlying t = some (.struct #[f0, f1, f2, f3]))
    (hc : f0.offset = 0 ∧ f1.offset = P.cellsOf f0.type ∧ f2.offset = f1.offset + P.cellsOf f1.type ∧ f3.offset = f2.offset + P.cellsOf f2.type ∧ P.cellsOf t = f3.offset + P.cellsOf f3.type) :
    Dec enc P W E t (fun p : α × β × γ × δ => g0 p.1 ++ (g1 p.2.1 ++ (g2 p.2.2.1 ++ g3 p.2.2.2))) (fun p => Q0 p.1 ∧ Q1 p.2.1 ∧ Q2 p.2.2.1 ∧ Q3 p.2.2.2) where
  ok := fun fuel cs x h hs => by
    obtain ⟨xs, m, _, rfl, hl, hlen, hf⟩ := DataW.trod_struct ht h
    obtain ⟨c0, c1, c2, c3, c4⟩ := hc
    match xs, hlen with
    | [y0, y1, y2, y3], _ =>
      have h0 := hf 0 f0 rfl
      have h1 := hf 1 f1 rfl
      have h2 := hf 2 f2 rfl
      have h3 := hf 3 f3 rfl
      have sz : ∀ (j : Nat) f y, (#[f0, f1, f2, f3] : Array Field).toList[j]? = some f → [y0, y1, y2, y3][j]? = some y → Sized P f.type y.1 := fun j f y hf' hy n hn => by
        refine hs n ?_
        simp only [DataW.weights, ht]
        exact DataW.weights_mem_each (j := j) (by simp only [List.getElem?_map, hf']; rfl) (by simp only [List.getElem?_map, hy]; rfl) n hn
      obtain ⟨a, q0, r0⟩ := d0.ok _ _ _ h0 (sz 0 _ _ rfl rfl)
      obtain ⟨b, q1, r1⟩ := d1.ok _ _ _ h1 (sz 1 _ _ rfl rfl)
      obtain ⟨c, q2, r2⟩ := d2.ok _ _ _ h2 (sz 2 _ _ rfl rfl)
      obtain ⟨d, q3, r3⟩ := d3.ok _ _ _ h3 (sz 3 _ _ rfl rfl)
      refine ⟨(a, b, c, d), ⟨q0, q1, q2, q3⟩, ?_⟩
      have := r0.append (r1.append (r2.append r3))
      have e3 : (cs.drop f3.offset).take (P.cellsOf f3.type) = cs.drop f3.offset := List.take_of_length_le (by simp; omega)
      have e2 : (cs.drop f2.offset).take (P.cellsOf f2.type) ++ cs.drop f3.offset = cs.drop f2.offset := by
        rw [c3, ← List.drop_drop, List.take_append_drop]
      have e1 : (cs.drop f1.offset).take (P.cellsOf f1.type) ++ cs.drop f2.offset = cs.drop f1.offset := by
        rw [c2, ← List.drop_drop, List.take_append_drop]
      rw [e3, e2, e1, c0, c1, List.drop_zero, List.take_append_drop] at this
      exact this

/-! ### arguments -/
theorem Dec.arg_i64 {α : Type} {g : α → AV} {Q : α → Prop} {r : Reach} {b0 : Nat} {v : Value} {x : DataW H} {ps : List MemPlace} (d : Dec enc P W E t (fun a => [g a]) Q) (ht : P.underlying t = some (.int .i64)) (hv : Value.okWide P W r b0 t v)
    (h : DataW.Trod enc P W 0 (fun _ => true) true t v x ps) (hs : Sized P t x) : ∃ a, Q a ∧ VRel E (Cx.start W) (g a) v := by
  obtain ⟨n, rfl⟩ := okWide_int ht hv
  obtain ⟨fuel, hf⟩ := h
  obtain ⟨a, h1, h2⟩ := d.ok _ _ _ hf hs
  obtain ⟨u, e, h3⟩ := h2.one'
  simp [Value.cells] at e
  exact ⟨a, h1, e ▸ h3⟩
theorem Dec.arg_slice {α : Type} {e : TypeId} {g : α → AV} {Q : α → Prop} {r : Reach} {b0 : Nat} {v : Value} {x : DataW H} {ps : List MemPlace} (d : Dec enc P W E t (fun a => [g a]) Q) (ht : P.underlying t = some (.slice e)) (hv : Value.okWide P W r b0 t v)
    (h : DataW.Trod enc P W 0 (fun _ => true) true t v x ps) (hs : Sized P t x) : ∃ a, Q a ∧ VRel E (Cx.start W) (g a) v := by
  obtain ⟨p, len, cap, rfl⟩ := okWide_slice ht hv
  obtain ⟨fuel, hf⟩ := h
  obtain ⟨a, h1, h2⟩ := d.ok _ _ _ hf hs
  obtain ⟨u, e, h3⟩ := h2.one'
  simp [Value.cells] at e
  exact ⟨a, h1, e ▸ h3⟩
theorem Dec.arg_str {α : Type} {g : α → AV} {Q : α → Prop} {r : Reach} {b0 : Nat} {v : Value} {x : DataW H} {ps : List MemPlace} (d : Dec enc P W E t (fun a => [g a]) Q) (ht : P.underlying t = some .string) (hv : Value.okWide P W r b0 t v)
    (h : DataW.Trod enc P W 0 (fun _ => true) true t v x ps) (hs : Sized P t x) : ∃ a, Q a ∧ VRel E (Cx.start W) (g a) v := by
  obtain ⟨n, rfl⟩ := okWide_string ht hv
  obtain ⟨fuel, hf⟩ := h
  obtain ⟨a, h1, h2⟩ := d.ok _ _ _ hf hs
  obtain ⟨u, e, h3⟩ := h2.one'
  simp [Value.cells] at e
  exact ⟨a, h1, e ▸ h3⟩
theorem Dec.arg_bool {α : Type} {g : α → AV} {Q : α → Prop} {r : Reach} {b0 : Nat} {v : Value} {x : DataW H} {ps : List MemPlace} (d : Dec enc P W E t (fun a => [g a]) Q) (ht : P.underlying t = some .bool) (hv : Value.okWide P W r b0 t v)
    (h : DataW.Trod enc P W 0 (fun _ => true) true t v x ps) (hs : Sized P t x) : ∃ a, Q a ∧ VRel E (Cx.start W) (g a) v := by
  obtain ⟨n, rfl⟩ := okWide_bool ht hv
  obtain ⟨fuel, hf⟩ := h
  obtain ⟨a, h1, h2⟩ := d.ok _ _ _ hf hs
  obtain ⟨u, e, h3⟩ := h2.one'
  simp [Value.cells] at e
  exact ⟨a, h1, e ▸ h3⟩
theorem Dec.arg_struct {α : Type} {fs : Array Field} {f : α → List AV} {Q : α → Prop} {r : Reach} {b0 : Nat} {v : Value} {x : DataW H} {ps : List MemPlace} (d : Dec enc P W E t f Q) (ht : P.underlying t = some (.struct fs)) (hv : Value.okWide P W r b0 t v)
    (h : DataW.Trod enc P W 0 (fun _ => true) true t v x ps) (hs : Sized P t x) : ∃ a, Q a ∧ VRel E (Cx.start W) (.agg (f a)) v := by
  obtain ⟨cs, rfl, _⟩ := okWide_struct ht hv
  obtain ⟨fuel, hf⟩ := h
  obtain ⟨a, h1, h2⟩ := d.ok _ _ _ hf hs
  refine ⟨a, h1, ?_⟩
  simp only [VRel]
  exact ⟨cs.toList, by simp, by simpa [Value.cells] using h2⟩

/-! ### variables -/
theorem len_of_reach {n b : Nat} (h : n * b ≤ reachBytes) (hb : 0 < b) : n < 140737488355328 := by
  have h1 : n * 1 ≤ n * b := Nat.mul_le_mul_left n hb
  have h2 : reachBytes < 140737488355328 := by decide
  omega
theorem laid_at {l : List (String × DataW Unit)} {n : String} {d : DataW Unit} : ∀ {l : List (String × DataW Unit)} {ps : List MemPlace}, DataW.LaidVars P W l ps → (n, d) ∈ l → ∃ g t cs fuel p, P.globalNamed n = some g ∧ (P.globals[g]?).map (·.type) = some t ∧ W.var? P n = some cs ∧ DataW.trod (fun _ => ()) P W 0 (fun _ => true) false fuel t cs.toList = some (d, p)
  | [], _, _, hm => by simp at hm
  | (n', d') :: l, ps, h, hm => by
    obtain ⟨g, t, cs, fuel, p, q, h1, h2, h3, h4, h5, _⟩ := h
    rcases List.mem_cons.1 hm with e | hm
    · injection e with e1 e2
      subst e1; subst e2
      exact ⟨g, t, cs, fuel, p, h1, h2, h3, h4⟩
    · exact laid_at (l := l) h5 hm
/-- an array of numbers -/
theorem laid_ints {l : List (String × DataW Unit)} {n : String} {zs : List Int} {g : Nat} {ty e : TypeId} {m : Nat} (h : laidMetH P l W) (hm : (n, DataW.agg (zs.map fun z => .lit (.int .i64 z))) ∈ l) (hn : P.globalNamed n = some g) (ht : (P.globals[g]?).map (·.type) = some ty)
    (hu : P.underlying ty = some (.array m e)) (he : P.underlying e = some (.int .i64)) (hc : P.cellsOf e = 1) (hct : P.cellsOf ty = m) : CRel E (Cx.start W) (zs.map fun z => Z z) g 0 := by
  obtain ⟨h1, _⟩ := laidMetH_iff.1 h
  obtain ⟨ps, h2, _⟩ := h1
  obtain ⟨g', t', cs, fuel, p, k1, k2, k3, k4⟩ := laid_at (l := l) h2 (List.mem_filter.2 ⟨hm, by rfl⟩)
  rw [hn] at k1; injection k1 with k1; subst k1
  rw [ht] at k2; injection k2 with k2; subst k2
  obtain ⟨xs, m', _, hx, hl, hxl, hxs⟩ := DataW.trod_array hu k4
  simp only [World.var?, hn, Option.bind_some] at k3
  split at k3
  · rename_i cs' ty' fr hW
    injection k3 with k3; subst k3
    have hlt : g < W.heap.size := by
      by_cases h : g < W.heap.size
      · exact h
      · rw [Array.getElem?_eq_none (by omega)] at hW; cases hW
    injection hx with hx1 hx2
    injection hx1 with hx1
    refine crel_start hlt fun i y hi => ?_
    obtain ⟨z, hz, rfl⟩ : ∃ z, zs[i]? = some z ∧ y = Z z := by
      rw [List.getElem?_map] at hi
      obtain ⟨z, hz, rfl⟩ := Option.map_eq_some_iff.1 hi
      exact ⟨z, hz, rfl⟩
    have hxi : (xs.map (·.1))[i]? = some (.lit (.int .i64 z)) := by rw [← hx1, List.getElem?_map, hz]; rfl
    rw [List.getElem?_map] at hxi
    obtain ⟨⟨d, q⟩, hd, hd2⟩ := Option.map_eq_some_iff.1 hxi
    simp only at hd2
    subst hd2
    have him : i < m := by have := lt_of_get hd; omega
    have hb := hxs i him
    rw [hd, hc, Nat.mul_one] at hb
    obtain ⟨w, hw1, hw2, _⟩ := DataW.trod_int he hb
    injection hw2 with hw2
    injection hw2 with hw2
    injection hw2 with _ hw2
    subst hw2
    refine ⟨.int .i64 z, ?_, by simp [VRel]⟩
    simp only [World.cell?, hW]
    have hcs : cs'.toList[i]? = some (.int .i64 z) := by
      have hil : i < cs'.toList.length := by omega
      have := congrArg (·[0]?) hw1
      simp only [List.getElem?_take, List.getElem?_drop, List.getElem?_cons_zero] at this
      simpa using this
    simpa using hcs
  · cases k3
end
end Go.Sc
namespace Go.Sc.F
open Go Go.Sc
set_option linter.unusedVariables false

/-- signalbox/signalboxkeep.BlockMoore -/
def keep_BlockMoore (E : Env) (P : Program) (a0 a1 a2 a3 : AV) (H : AH) (R : Kt) : Prop :=
  wNew 2 (AV.cells? a0) H fun t4 H =>
  wGet (loadN 2 t4 H) H fun t26 H =>
  wCall E P 45 [t26, (.val (.int .i64 60))] H fun t27 H =>
  wGet (unA .not t27) H fun t28 H =>
  wGuard t28 false H (fun k => k a3 H) fun t30 H =>
  wGuard t28 false H (fun k => wGet (lenA t30) H k) fun t31 H =>
  wGuard t28 false H (fun k => wGet (binA .gtr t31 (.val (.int .i64 40))) H k) fun t32 H =>
  wGet (pickA t28 (.val (.bool true)) t32) H fun t33 H =>
  wIf t33 (
    R (.val (.bool true)) H) (
    wGet (loadN 2 t4 H) H fun t35 H =>
    wCall E P 46 [t35] H fun t36 H =>
    wGet (extractA t36 0) H fun t37 H =>
    wGet (extractA t36 1) H fun t38 H =>
    wCall E P 47 [] H fun t39 H =>
    wGet (unA .not t39) H fun t40 H =>
    wGuard t40 false H (fun k => k t38 H) fun t42 H =>
    wGuard t40 false H (fun k => wBool (eqA .iface t42 (.val (.nilIface))) H true k) fun t43 H =>
    wGet (pickA t40 (.val (.bool true)) t43) H fun t44 H =>
    wIf t44 (
      wCall E P 47 [] H fun t45 H =>
      wGuard t45 true H (fun k => k t37 H) fun t47 H =>
      wGuard t45 true H (fun k => wGet (lenA t47) H k) fun t48 H =>
      wGuard t45 true H (fun k => wGet (binA .eql t48 (.val (.int .i64 0))) H k) fun t49 H =>
      wGet (pickA t45 t49 (.val (.bool false))) H fun t50 H =>
      R t50 H) (
      wGet (faddr 0 t4) H fun t51 H =>
      wGet (load1 t51 H) H fun t52 H =>
      wGet (lenA t52) H fun t53 H =>
      wGet (faddr 0 t4) H fun t54 H =>
      wGet (load1 t54 H) H fun t55 H =>
      wGet (iaddr 1 t55 (.val (.int .i64 0))) H fun t56 H =>
      wGet (load1 t56 H) H fun t57 H =>
      wGet (lenA t57) H fun t58 H =>
      (wGet (load1 t54 H) H (fun y H2 => y = t55 ∧ H2 = H)) ∧
      (wGet (load1 t56 H) H (fun y H2 => y = t57 ∧ H2 = H)) ∧
      wCall E P 48 [a1, t53] H fun t61 H =>
      wCall E P 48 [a2, t53] H fun t64 H =>
      wGet (loadN 2 t4 H) H fun t66 H =>
      wCall E P 49 [t66] H fun t67 H =>
      wGet (extractA t67 0) H fun t68 H =>
      wGet (extractA t67 1) H fun t69 H =>
      wNew 2 (some [(.val (.slice none 0 0)), (.val (.slice none 0 0))]) H fun t13 H =>
      wPut (storeN 2 t13 t68 H) fun _u H =>
      wBool (eqA .iface t69 (.val (.nilIface))) H true fun t71 H =>
      wGuard t71 false H (fun k => k t37 H) fun t73 H =>
      wGuard t71 false H (fun k => wGet (lenA t73) H k) fun t74 H =>
      wGuard t71 false H (fun k => k t53 H) fun t75 H =>
      wGuard t71 false H (fun k => wGet (binA .neq t74 t75) H k) fun t76 H =>
      wGet (pickA t71 (.val (.bool true)) t76) H fun t77 H =>
      wIf t77 (
        R (.val (.bool false)) H) (
        wLoop 2 (fun I1 => I1 (.val (.slice none 0 0)) (.val (.int .i64 0)) H) fun I1 t14 t15 H =>
          wGet (lenA a3) H fun t80 H =>
          wGet (binA .lss t15 t80) H fun t81 H =>
          wGuard t81 true H (fun k => k t58 H) fun t83 H =>
          wGuard t81 true H (fun k => wGet (binA .gtr t83 (.val (.int .i64 0))) H k) fun t84 H =>
          wGet (pickA t81 t84 (.val (.bool false))) H fun t85 H =>
          wIf t85 (
            wGet (iaddr 1 a3 t15) H fun t91 H =>
            wGet (load1 t91 H) H fun t92 H =>
            wCall E P 48 [t92, t58] H fun t94 H =>
            wNewS 1 1 (fillA (List.replicate 1 [(.val (.int .i64 0))]).flatten [(0, 1, t94)]) H fun t95 H =>
            wApp 1 8 t14 t95 H fun t96 H =>
            wGet (binA .add t15 (.val (.int .i64 1))) H fun t87 H =>
            I1 t96 t87 H) (
            wGet (loadN 2 t4 H) H fun t98 H =>
            wCall E P 50 [t98, t61, t14] H fun t101 H =>
            wGet (extractA t101 0) H fun t102 H =>
            wGet (extractA t101 1) H fun t103 H =>
            wGet (loadN 2 t4 H) H fun t105 H =>
            wCall E P 50 [t105, t64, t14] H fun t108 H =>
            wGet (extractA t108 0) H fun t109 H =>
            wGet (extractA t108 1) H fun t110 H =>
            wGet (loadN 2 t13 H) H fun t112 H =>
            wGet (iaddr 1 t37 t61) H fun t115 H =>
            wGet (load1 t115 H) H fun t116 H =>
            wCall E P 50 [t112, t116, t14] H fun t118 H =>
            wGet (extractA t118 0) H fun t119 H =>
            wGet (extractA t118 1) H fun t120 H =>
            wBool (eqA .iface t103 (.val (.nilIface))) H true fun t122 H =>
            wGuard t122 false H (fun k => k t110 H) fun t124 H =>
            wGuard t122 false H (fun k => wBool (eqA .iface t124 (.val (.nilIface))) H true k) fun t125 H =>
            wGet (pickA t122 (.val (.bool true)) t125) H fun t126 H =>
            wGuard t126 false H (fun k => k t120 H) fun t128 H =>
            wGuard t126 false H (fun k => wBool (eqA .iface t128 (.val (.nilIface))) H true k) fun t129 H =>
            wGet (pickA t126 (.val (.bool true)) t129) H fun t130 H =>
            wGuard t130 false H (fun k => k t102 H) fun t132 H =>
            wGuard t130 false H (fun k => k t119 H) fun t133 H =>
            wGuard t130 false H (fun k => wCall E P 51 [t132, t133] H k) fun t134 H =>
            wGuard t130 false H (fun k => wGet (unA .not t134) H k) fun t135 H =>
            wGet (pickA t130 (.val (.bool true)) t135) H fun t136 H =>
            wIf t136 (
              R (.val (.bool false)) H) (
              wGet (loadN 2 t4 H) H fun t138 H =>
              wCall E P 52 [t138, t61, t64] H fun t141 H =>
              wGet (extractA t141 0) H fun t142 H =>
              wGet (extractA t141 1) H fun t143 H =>
              wGet (iaddr 1 t37 t61) H fun t146 H =>
              wGet (load1 t146 H) H fun t147 H =>
              wGet (iaddr 1 t37 t64) H fun t150 H =>
              wGet (load1 t150 H) H fun t151 H =>
              wGet (binA .eql t147 t151) H fun t152 H =>
              wIf t152 (
                wCall E P 51 [t102, t109] H fun t155 H =>
                wGuard t155 true H (fun k => k t143 H) fun t157 H =>
                wGuard t155 true H (fun k => wCall E P 53 [t157] H k) fun t158 H =>
                wGuard t155 true H (fun k => wGet (binA .eql t158 (.val (.int .i64 8))) H k) fun t159 H =>
                wGet (pickA t155 t159 (.val (.bool false))) H fun t160 H =>
                R t160 H) (
                wGet (loadN 2 t4 H) H fun t162 H =>
                wCall E P 50 [t162, t61, t142] H fun t165 H =>
                wGet (extractA t165 0) H fun t166 H =>
                wGet (extractA t165 1) H fun t167 H =>
                wGet (loadN 2 t4 H) H fun t169 H =>
                wCall E P 50 [t169, t64, t142] H fun t172 H =>
                wGet (extractA t172 0) H fun t173 H =>
                wGet (extractA t172 1) H fun t174 H =>
                wBool (eqA .iface t143 (.val (.nilIface))) H true fun t176 H =>
                wGuard t176 false H (fun k => k t167 H) fun t178 H =>
                wGuard t176 false H (fun k => wBool (eqA .iface t178 (.val (.nilIface))) H true k) fun t179 H =>
                wGet (pickA t176 (.val (.bool true)) t179) H fun t180 H =>
                wGuard t180 false H (fun k => k t174 H) fun t182 H =>
                wGuard t180 false H (fun k => wBool (eqA .iface t182 (.val (.nilIface))) H true k) fun t183 H =>
                wGet (pickA t180 (.val (.bool true)) t183) H fun t184 H =>
                wGuard t184 false H (fun k => k t166 H) fun t186 H =>
                wGuard t184 false H (fun k => wGet (lenA t186) H k) fun t187 H =>
                wGuard t184 false H (fun k => k t142 H) fun t188 H =>
                wGuard t184 false H (fun k => wGet (lenA t188) H k) fun t189 H =>
                wGuard t184 false H (fun k => wGet (binA .neq t187 t189) H k) fun t190 H =>
                wGet (pickA t184 (.val (.bool true)) t190) H fun t191 H =>
                wGuard t191 false H (fun k => k t173 H) fun t193 H =>
                wGuard t191 false H (fun k => wGet (lenA t193) H k) fun t194 H =>
                wGuard t191 false H (fun k => k t142 H) fun t195 H =>
                wGuard t191 false H (fun k => wGet (lenA t195) H k) fun t196 H =>
                wGuard t191 false H (fun k => wGet (binA .neq t194 t196) H k) fun t197 H =>
                wGet (pickA t191 (.val (.bool true)) t197) H fun t198 H =>
                wGuard t198 false H (fun k => k t142 H) fun t200 H =>
                wGuard t198 false H (fun k => wGet (lenA t200) H k) fun t201 H =>
                wGuard t198 false H (fun k => wGet (binA .eql t201 (.val (.int .i64 0))) H k) fun t202 H =>
                wGet (pickA t198 (.val (.bool true)) t202) H fun t203 H =>
                wIf t203 (
                  R (.val (.bool false)) H) (
                  wGet (lenA t142) H fun t205 H =>
                  wGet (binA .sub t205 (.val (.int .i64 1))) H fun t206 H =>
                  wGet (iaddr 1 t166 t206) H fun t209 H =>
                  wGet (load1 t209 H) H fun t210 H =>
                  wGet (iaddr 1 t173 t206) H fun t213 H =>
                  wGet (load1 t213 H) H fun t214 H =>
                  wGet (binA .neq t210 t214) H fun t215 H =>
                  wGuard t215 true H (fun k => k t166 H) fun t217 H =>
                  wGuard t215 true H (fun k => k t206 H) fun t218 H =>
                  wGuard t215 true H (fun k => wGet (sliceA 1 t217 none (some t218) H) H k) fun t219 H =>
                  wGuard t215 true H (fun k => k t173 H) fun t220 H =>
                  wGuard t215 true H (fun k => k t206 H) fun t221 H =>
                  wGuard t215 true H (fun k => wGet (sliceA 1 t220 none (some t221) H) H k) fun t222 H =>
                  wGuard t215 true H (fun k => wCall E P 51 [t219, t222] H k) fun t223 H =>
                  wGet (pickA t215 t223 (.val (.bool false))) H fun t224 H =>
                  R t224 H)))))))

/-- signalbox/signalboxkeep.few -/
def keep_few (E : Env) (P : Program) (a0 a1 : AV) (H : AH) (R : Kt) : Prop :=
  wNew 2 (AV.cells? a0) H fun t2 H =>
  wGet (faddr 0 t2) H fun t5 H =>
  wGet (load1 t5 H) H fun t6 H =>
  wGet (lenA t6) H fun t7 H =>
  wGet (binA .leq t7 a1) H fun t9 H =>
  wGuard t9 true H (fun k => wGet (faddr 1 t2) H k) fun t11 H =>
  wGuard t9 true H (fun k => wGet (load1 t11 H) H k) fun t12 H =>
  wGuard t9 true H (fun k => wGet (lenA t12) H k) fun t13 H =>
  wGuard t9 true H (fun k => wGet (binA .leq t13 (.val (.int .i64 500))) H k) fun t14 H =>
  wGet (pickA t9 t14 (.val (.bool false))) H fun t15 H =>
  wGuard t15 true H (fun k => wGet (faddr 0 t2) H k) fun t17 H =>
  wGuard t15 true H (fun k => wGet (load1 t17 H) H k) fun t18 H =>
  wGuard t15 true H (fun k => wGet (lenA t18) H k) fun t19 H =>
  wGuard t15 true H (fun k => wGet (binA .eql t19 (.val (.int .i64 0))) H k) fun t20 H =>
  wGuard t15 true H (fun k => k t20 H) fun t21 H =>
  wGuard t21 false H (fun k => wGet (faddr 0 t2) H k) fun t22 H =>
  wGuard t21 false H (fun k => wGet (load1 t22 H) H k) fun t23 H =>
  wGuard t21 false H (fun k => wGet (iaddr 1 t23 (.val (.int .i64 0))) H k) fun t24 H =>
  wGuard t21 false H (fun k => wGet (load1 t24 H) H k) fun t25 H =>
  wGuard t21 false H (fun k => wGet (lenA t25) H k) fun t26 H =>
  wGuard t21 false H (fun k => wGet (binA .leq t26 (.val (.int .i64 16))) H k) fun t27 H =>
  wGuard t15 true H (fun k => wGet (pickA t21 (.val (.bool true)) t27) H k) fun t28 H =>
  wGet (pickA t15 t28 (.val (.bool false))) H fun t29 H =>
  R t29 H

/-- signalbox/block.Blocks -/
def block_Blocks (E : Env) (P : Program) (a0 : AV) (H : AH) (R : Kt) : Prop :=
  wNew 2 (AV.cells? a0) H fun t1 H =>
  wGet (loadN 2 t1 H) H fun t6 H =>
  wCall E P 55 [t6] H fun t7 H =>
  wBool (eqA .iface t7 (.val (.nilIface))) H true fun t9 H =>
  wIf t9 (
    R (.tup [(.val (.slice none 0 0)), t7]) H) (
    wGet (loadN 2 t1 H) H fun t11 H =>
    wCall E P 56 [t11] H fun t12 H =>
    wGet (lenA t12) H fun t15 H =>
    wGet (binA .sub t15 (.val (.int .i64 1))) H fun t16 H =>
    wGet (iaddr 1 t12 t16) H fun t17 H =>
    wGet (load1 t17 H) H fun t18 H =>
    R (.tup [t18, (.val (.nilIface))]) H)

/-- signalbox/signalboxkeep.blocked -/
def keep_blocked (E : Env) (P : Program) (H : AH) (R : Kt) : Prop :=
  wNewS 1 1 (fillA (List.replicate 1 [(.val (.int .i64 0))]).flatten [(0, 1, (.val (.int .i64 1)))]) H fun t6 H =>
  wNewS 1 1 (fillA (List.replicate 1 [(.val (.int .i64 0))]).flatten [(0, 1, (.val (.int .i64 0)))]) H fun t7 H =>
  wNewS 1 1 (fillA (List.replicate 1 [(.val (.int .i64 0))]).flatten [(0, 1, (.val (.int .i64 0)))]) H fun t8 H =>
  wNewS 1 3 (fillA (List.replicate 3 [(.val (.slice none 0 0))]).flatten [(0, 1, t6), (1, 1, t7), (2, 1, t8)]) H fun t9 H =>
  wNewS 1 1 (fillA (List.replicate 1 [(.val (.int .i64 0))]).flatten [(0, 1, (.val (.int .i64 5)))]) H fun t10 H =>
  wNewS 1 1 (fillA (List.replicate 1 [(.val (.int .i64 0))]).flatten [(0, 1, (.val (.int .i64 5)))]) H fun t11 H =>
  wNewS 1 1 (fillA (List.replicate 1 [(.val (.int .i64 0))]).flatten [(0, 1, (.val (.int .i64 6)))]) H fun t12 H =>
  wNewS 1 3 (fillA (List.replicate 3 [(.val (.slice none 0 0))]).flatten [(0, 1, t10), (1, 1, t11), (2, 1, t12)]) H fun t13 H =>
  wAgg (fillA [(.val (.slice none 0 0)), (.val (.slice none 0 0))] [(0, 1, t9), (1, 1, t13)]) H fun t14 H =>
  wNew 2 (some [(.val (.slice none 0 0)), (.val (.slice none 0 0))]) H fun t1 H =>
  wPut (storeN 2 t1 t14 H) fun _u H =>
  wGet (loadN 2 t1 H) H fun t16 H =>
  wCall E P 46 [t16] H fun t17 H =>
  wGet (extractA t17 0) H fun t18 H =>
  wGet (extractA t17 1) H fun t19 H =>
  wGet (loadN 2 t1 H) H fun t21 H =>
  wCall E P 52 [t21, (.val (.int .i64 0)), (.val (.int .i64 2))] H fun t22 H =>
  wGet (extractA t22 0) H fun t23 H =>
  wGet (extractA t22 1) H fun t24 H =>
  wBool (eqA .iface t19 (.val (.nilIface))) H false fun t26 H =>
  wGuard t26 true H (fun k => k t24 H) fun t28 H =>
  wGuard t26 true H (fun k => wBool (eqA .iface t28 (.val (.nilIface))) H false k) fun t29 H =>
  wGet (pickA t26 t29 (.val (.bool false))) H fun t30 H =>
  wGuard t30 true H (fun k => k t18 H) fun t32 H =>
  wGuard t30 true H (fun k => wNewS 1 3 (fillA (List.replicate 3 [(.val (.int .i64 0))]).flatten [(0, 1, (.val (.int .i64 0))), (1, 1, (.val (.int .i64 0))), (2, 1, (.val (.int .i64 1)))]) H k) fun t33 H =>
  wGuard t30 true H (fun k => wCall E P 51 [t32, t33] H k) fun t34 H =>
  wGet (pickA t30 t34 (.val (.bool false))) H fun t35 H =>
  wGuard t35 true H (fun k => k t23 H) fun t37 H =>
  wGuard t35 true H (fun k => wNewS 1 1 (fillA (List.replicate 1 [(.val (.int .i64 0))]).flatten [(0, 1, (.val (.int .i64 0)))]) H k) fun t38 H =>
  wGuard t35 true H (fun k => wCall E P 51 [t37, t38] H k) fun t39 H =>
  wGet (pickA t35 t39 (.val (.bool false))) H fun t40 H =>
  R t40 H

/-- signalbox/signalboxkeep.pick -/
def keep_pick (E : Env) (P : Program) (a0 a1 : AV) (H : AH) (R : Kt) : Prop :=
  wGet (convA (.int .u64) a0) H fun t6 H =>
  wGet (convA (.int .u64) a1) H fun t8 H =>
  wGet (binA .rem t6 t8) H fun t9 H =>
  wGet (convA (.int .i64) t9) H fun t10 H =>
  R t10 H

/-- signalbox/block.Least -/
def block_Least (E : Env) (P : Program) (a0 : AV) (H : AH) (R : Kt) : Prop :=
  wNew 2 (AV.cells? a0) H fun t1 H =>
  wNew 2 (some [(.val (.slice none 0 0)), (.val (.slice none 0 0))]) H fun t2 H =>
  wGet (loadN 2 t1 H) H fun t13 H =>
  wCall E P 46 [t13] H fun t14 H =>
  wGet (extractA t14 0) H fun t15 H =>
  wGet (extractA t14 1) H fun t16 H =>
  wBool (eqA .iface t16 (.val (.nilIface))) H true fun t18 H =>
  wIf t18 (
    wAgg (fillA [(.val (.slice none 0 0)), (.val (.slice none 0 0))] []) H fun t19 H =>
    wPut (storeN 2 t2 t19 H) fun _u H =>
    wGet (retPack [loadN 2 t2 H, some t16]) H R) (
    wNew 2 (some [(.val (.slice none 0 0)), (.val (.slice none 0 0))]) H fun t6 H =>
    wGet (lenA t15) H fun t22 H =>
    wLoop 1 (fun I1 => I1 (.val (.int .i64 0)) H) fun I1 t23 H =>
      wGet (binA .lss t23 t22) H fun t24 H =>
      wIf t24 (
        wJoin 0 (fun J2 =>
          wGet (iaddr 1 t15 t23) H fun t26 H =>
          wGet (load1 t26 H) H fun t27 H =>
          wGet (faddr 0 t6) H fun t29 H =>
          wGet (load1 t29 H) H fun t30 H =>
          wGet (lenA t30) H fun t31 H =>
          wGet (binA .lss t27 t31) H fun t32 H =>
          wIf t32 (
            J2 H) (
            wGet (faddr 0 t1) H fun t33 H =>
            wGet (load1 t33 H) H fun t34 H =>
            wGet (iaddr 1 t34 t23) H fun t36 H =>
            wGet (load1 t36 H) H fun t37 H =>
            wGet (lenA t37) H fun t38 H =>
            wLoop 2 (fun I3 => I3 (.val (.slice none 0 0)) (.val (.int .i64 0)) H) fun I3 t9 t39 H =>
              wGet (binA .lss t39 t38) H fun t40 H =>
              wIf t40 (
                wGet (iaddr 1 t37 t39) H fun t41 H =>
                wGet (load1 t41 H) H fun t42 H =>
                wGet (iaddr 1 t15 t42) H fun t46 H =>
                wGet (load1 t46 H) H fun t47 H =>
                wNewS 1 1 (fillA (List.replicate 1 [(.val (.int .i64 0))]).flatten [(0, 1, t47)]) H fun t48 H =>
                wApp 1 8 t9 t48 H fun t49 H =>
                wGet (binA .add t39 (.val (.int .i64 1))) H fun t50 H =>
                I3 t49 t50 H) (
                wGet (faddr 0 t6) H fun t51 H =>
                wGet (load1 t51 H) H fun t52 H =>
                wGet (faddr 1 t6) H fun t56 H =>
                wGet (load1 t56 H) H fun t57 H =>
                wGet (faddr 1 t1) H fun t58 H =>
                wGet (load1 t58 H) H fun t59 H =>
                wGet (iaddr 1 t59 t23) H fun t61 H =>
                wGet (load1 t61 H) H fun t62 H =>
                wNewS 1 1 (fillA (List.replicate 1 [(.val (.slice none 0 0))]).flatten [(0, 1, t9)]) H fun t54 H =>
                (wGet (load1 t51 H) H (fun y H2 => y = t52 ∧ H2 = H)) ∧
                (wGet (load1 t56 H) H (fun y H2 => y = t57 ∧ H2 = H)) ∧
                (wGet (load1 t58 H) H (fun y H2 => y = t59 ∧ H2 = H)) ∧
                (wGet (load1 t61 H) H (fun y H2 => y = t62 ∧ H2 = H)) ∧
                wApp 1 24 t52 t54 H fun t55 H =>
                (wGet (load1 t56 H) H (fun y H2 => y = t57 ∧ H2 = H)) ∧
                (wGet (load1 t58 H) H (fun y H2 => y = t59 ∧ H2 = H)) ∧
                (wGet (load1 t61 H) H (fun y H2 => y = t62 ∧ H2 = H)) ∧
                wGet (faddr 0 t6) H fun t66 H =>
                wCall E P 57 [t62] H fun t63 H =>
                (wGet (load1 t56 H) H (fun y H2 => y = t57 ∧ H2 = H)) ∧
                wNewS 1 1 (fillA (List.replicate 1 [(.val (.slice none 0 0))]).flatten [(0, 1, t63)]) H fun t64 H =>
                (wGet (load1 t56 H) H (fun y H2 => y = t57 ∧ H2 = H)) ∧
                wApp 1 24 t57 t64 H fun t65 H =>
                wPut (store1 t66 t55 H) fun _u H =>
                wGet (faddr 1 t6) H fun t67 H =>
                wPut (store1 t67 t65 H) fun _u H =>
                J2 H))) fun H =>
          wGet (binA .add t23 (.val (.int .i64 1))) H fun t68 H =>
          I1 t68 H) (
        wGet (loadN 2 t6 H) H fun t69 H =>
        wPut (storeN 2 t2 t69 H) fun _u H =>
        wGet (retPack [loadN 2 t2 H, some (.val (.nilIface))]) H R))

/-- signalbox/block.Tell -/
def block_Tell (E : Env) (P : Program) (a0 a1 a2 : AV) (H : AH) (R : Kt) : Prop :=
  wNew 2 (AV.cells? a0) H fun t3 H =>
  wGet (loadN 2 t3 H) H fun t12 H =>
  wCall E P 55 [t12] H fun t13 H =>
  wBool (eqA .iface t13 (.val (.nilIface))) H true fun t15 H =>
  wIf t15 (
    R (.tup [(.val (.slice none 0 0)), t13]) H) (
    wGet (binA .lss a1 (.val (.int .i64 0))) H fun t18 H =>
    wGuard t18 false H (fun k => k a1 H) fun t20 H =>
    wGuard t18 false H (fun k => wGet (faddr 0 t3) H k) fun t21 H =>
    wGuard t18 false H (fun k => wGet (load1 t21 H) H k) fun t22 H =>
    wGuard t18 false H (fun k => wGet (lenA t22) H k) fun t23 H =>
    wGuard t18 false H (fun k => wGet (binA .geq t20 t23) H k) fun t24 H =>
    wGet (pickA t18 (.val (.bool true)) t24) H fun t25 H =>
    wGuard t25 false H (fun k => k a2 H) fun t27 H =>
    wGuard t25 false H (fun k => k (.fn 58 [] [t3]) H) fun t28 H =>
    wGuard t25 false H (fun k => wCall E P 59 [t27, t28] H k) fun t29 H =>
    wGet (pickA t25 (.val (.bool true)) t29) H fun t30 H =>
    wIf t30 (
      R (.tup [(.val (.slice none 0 0)), (.ifc 1 (.val (.int .i64 2)))]) H) (
      wGet (lenA a2) H fun t33 H =>
      wLoop 3 (fun I1 => I1 a1 (.val (.slice none 0 0)) (.val (.int .i64 0)) H) fun I1 t1 t9 t34 H =>
        wGet (binA .lss t34 t33) H fun t35 H =>
        wIf t35 (
          wGet (iaddr 1 a2 t34) H fun t36 H =>
          wGet (load1 t36 H) H fun t37 H =>
          wGet (faddr 1 t3) H fun t39 H =>
          wGet (load1 t39 H) H fun t40 H =>
          wGet (iaddr 1 t40 t1) H fun t42 H =>
          wGet (load1 t42 H) H fun t43 H =>
          wGet (iaddr 1 t43 t37) H fun t45 H =>
          wGet (load1 t45 H) H fun t46 H =>
          wNewS 1 1 (fillA (List.replicate 1 [(.val (.int .i64 0))]).flatten [(0, 1, t46)]) H fun t47 H =>
          wApp 1 8 t9 t47 H fun t48 H =>
          wGet (faddr 0 t3) H fun t49 H =>
          wGet (load1 t49 H) H fun t50 H =>
          wGet (iaddr 1 t50 t1) H fun t52 H =>
          wGet (load1 t52 H) H fun t53 H =>
          wGet (iaddr 1 t53 t37) H fun t55 H =>
          wGet (load1 t55 H) H fun t56 H =>
          wGet (binA .add t34 (.val (.int .i64 1))) H fun t57 H =>
          I1 t56 t48 t57 H) (
          R (.tup [t9, (.val (.nilIface))]) H)))

/-- signalbox/signalboxkeep.sameInts -/
def keep_sameInts (E : Env) (P : Program) (a0 a1 : AV) (H : AH) (R : Kt) : Prop :=
  wGet (lenA a0) H fun t7 H =>
  wGet (lenA a1) H fun t9 H =>
  wGet (binA .neq t7 t9) H fun t10 H =>
  wIf t10 (
    R (.val (.bool false)) H) (
    wLoop 1 (fun I1 => I1 (.val (.int .i64 0)) H) fun I1 t5 H =>
      wGet (lenA a0) H fun t13 H =>
      wGet (binA .lss t5 t13) H fun t14 H =>
      wIf t14 (
        wGet (iaddr 1 a0 t5) H fun t19 H =>
        wGet (load1 t19 H) H fun t20 H =>
        wGet (iaddr 1 a1 t5) H fun t23 H =>
        wGet (load1 t23 H) H fun t24 H =>
        wGet (binA .neq t20 t24) H fun t25 H =>
        wIf t25 (
          R (.val (.bool false)) H) (
          wGet (binA .add t5 (.val (.int .i64 1))) H fun t16 H =>
          I1 t16 H)) (
        R (.val (.bool true)) H))

/-- signalbox/block.Part -/
def block_Part (E : Env) (P : Program) (a0 a1 a2 : AV) (H : AH) (R : Kt) : Prop :=
  wNew 2 (AV.cells? a0) H fun t3 H =>
  wNew 1 (AV.cells? a1) H fun t4 H =>
  wNew 1 (AV.cells? a2) H fun t5 H =>
  wGet (loadN 2 t3 H) H fun t15 H =>
  wCall E P 55 [t15] H fun t16 H =>
  wBool (eqA .iface t16 (.val (.nilIface))) H true fun t18 H =>
  wIf t18 (
    R (.tup [(.val (.slice none 0 0)), t16]) H) (
    wGet (load1 t4 H) H fun t20 H =>
    wGet (binA .lss t20 (.val (.int .i64 0))) H fun t21 H =>
    wGuard t21 false H (fun k => wGet (load1 t4 H) H k) fun t23 H =>
    wGuard t21 false H (fun k => wGet (faddr 0 t3) H k) fun t24 H =>
    wGuard t21 false H (fun k => wGet (load1 t24 H) H k) fun t25 H =>
    wGuard t21 false H (fun k => wGet (lenA t25) H k) fun t26 H =>
    wGuard t21 false H (fun k => wGet (binA .geq t23 t26) H k) fun t27 H =>
    wGet (pickA t21 (.val (.bool true)) t27) H fun t28 H =>
    wGuard t28 false H (fun k => wGet (load1 t5 H) H k) fun t30 H =>
    wGuard t28 false H (fun k => wGet (binA .lss t30 (.val (.int .i64 0))) H k) fun t31 H =>
    wGet (pickA t28 (.val (.bool true)) t31) H fun t32 H =>
    wGuard t32 false H (fun k => wGet (load1 t5 H) H k) fun t34 H =>
    wGuard t32 false H (fun k => wGet (faddr 0 t3) H k) fun t35 H =>
    wGuard t32 false H (fun k => wGet (load1 t35 H) H k) fun t36 H =>
    wGuard t32 false H (fun k => wGet (lenA t36) H k) fun t37 H =>
    wGuard t32 false H (fun k => wGet (binA .geq t34 t37) H k) fun t38 H =>
    wGet (pickA t32 (.val (.bool true)) t38) H fun t39 H =>
    wIf t39 (
      R (.tup [(.val (.slice none 0 0)), (.ifc 1 (.val (.int .i64 2)))]) H) (
      wGet (loadN 2 t3 H) H fun t41 H =>
      wCall E P 56 [t41] H fun t42 H =>
      wCall E P 61 [t42, (.fn 60 [] [t4, t5])] H fun t45 H =>
      wGet (binA .lss t45 (.val (.int .i64 0))) H fun t47 H =>
      wIf t47 (
        R (.tup [(.val (.slice none 0 0)), (.ifc 1 (.val (.int .i64 8)))]) H) (
        wLoop 2 (fun I1 => I1 t45 (.val (.slice none 0 0)) H) fun I1 t10 t11 H =>
          wGet (binA .gtr t10 (.val (.int .i64 0))) H fun t50 H =>
          wIf t50 (
            wJoin 1 (fun J2 =>
              wGet (faddr 0 t3) H fun t53 H =>
              wGet (load1 t53 H) H fun t54 H =>
              wGet (load1 t4 H) H fun t55 H =>
              wGet (iaddr 1 t54 t55) H fun t56 H =>
              wGet (load1 t56 H) H fun t57 H =>
              wGet (lenA t57) H fun t58 H =>
              wLoop 2 (fun I3 => I3 t11 (.val (.int .i64 0)) H) fun I3 t11_1 t59 H =>
                wGet (binA .lss t59 t58) H fun t60 H =>
                wIf t60 (
                  wGet (faddr 0 t3) H fun t62 H =>
                  wGet (load1 t62 H) H fun t63 H =>
                  wGet (load1 t4 H) H fun t64 H =>
                  wGet (iaddr 1 t63 t64) H fun t65 H =>
                  wGet (load1 t65 H) H fun t66 H =>
                  wGet (iaddr 1 t66 t59) H fun t68 H =>
                  wGet (load1 t68 H) H fun t69 H =>
                  wGet (faddr 0 t3) H fun t70 H =>
                  wGet (load1 t70 H) H fun t71 H =>
                  wGet (load1 t5 H) H fun t72 H =>
                  wGet (iaddr 1 t71 t72) H fun t73 H =>
                  wGet (load1 t73 H) H fun t74 H =>
                  wGet (iaddr 1 t74 t59) H fun t76 H =>
                  wGet (load1 t76 H) H fun t77 H =>
                  (wGet (load1 t70 H) H (fun y H2 => y = t71 ∧ H2 = H)) ∧
                  (wGet (load1 t5 H) H (fun y H2 => y = t72 ∧ H2 = H)) ∧
                  (wGet (load1 t73 H) H (fun y H2 => y = t74 ∧ H2 = H)) ∧
                  (wGet (load1 t76 H) H (fun y H2 => y = t77 ∧ H2 = H)) ∧
                  wGet (binA .eql t10 (.val (.int .i64 1))) H fun t79 H =>
                  wGuard t79 true H (fun k => wGet (faddr 1 t3) H k) fun t81 H =>
                  wGuard t79 true H (fun k => wGet (load1 t81 H) H k) fun t82 H =>
                  wGuard t79 true H (fun k => wGet (load1 t4 H) H k) fun t83 H =>
                  wGuard t79 true H (fun k => wGet (iaddr 1 t82 t83) H k) fun t84 H =>
                  wGuard t79 true H (fun k => wGet (load1 t84 H) H k) fun t85 H =>
                  wGuard t79 true H (fun k => k t59 H) fun t86 H =>
                  wGuard t79 true H (fun k => wGet (iaddr 1 t85 t86) H k) fun t87 H =>
                  wGuard t79 true H (fun k => wGet (load1 t87 H) H k) fun t88 H =>
                  wGuard t79 true H (fun k => wGet (faddr 1 t3) H k) fun t89 H =>
                  wGuard t79 true H (fun k => wGet (load1 t89 H) H k) fun t90 H =>
                  wGuard t79 true H (fun k => wGet (load1 t5 H) H k) fun t91 H =>
                  wGuard t79 true H (fun k => wGet (iaddr 1 t90 t91) H k) fun t92 H =>
                  wGuard t79 true H (fun k => wGet (load1 t92 H) H k) fun t93 H =>
                  wGuard t79 true H (fun k => k t59 H) fun t94 H =>
                  wGuard t79 true H (fun k => wGet (iaddr 1 t93 t94) H k) fun t95 H =>
                  wGuard t79 true H (fun k => wGet (load1 t95 H) H k) fun t96 H =>
                  wGuard t79 true H (fun k => wGet (binA .neq t88 t96) H k) fun t97 H =>
                  wGet (pickA t79 t97 (.val (.bool false))) H fun t98 H =>
                  wGuard t98 false H (fun k => k t10 H) fun t100 H =>
                  wGuard t98 false H (fun k => wGet (binA .gtr t100 (.val (.int .i64 1))) H k) fun t101 H =>
                  wGuard t98 false H (fun k => k t101 H) fun t102 H =>
                  wGuard t102 true H (fun k => k t42 H) fun t103 H =>
                  wGuard t102 true H (fun k => k t10 H) fun t104 H =>
                  wGuard t102 true H (fun k => wGet (binA .sub t104 (.val (.int .i64 1))) H k) fun t105 H =>
                  wGuard t102 true H (fun k => wGet (iaddr 1 t103 t105) H k) fun t106 H =>
                  wGuard t102 true H (fun k => wGet (load1 t106 H) H k) fun t107 H =>
                  wGuard t102 true H (fun k => k t69 H) fun t108 H =>
                  wGuard t102 true H (fun k => wGet (iaddr 1 t107 t108) H k) fun t109 H =>
                  wGuard t102 true H (fun k => wGet (load1 t109 H) H k) fun t110 H =>
                  wGuard t102 true H (fun k => k t42 H) fun t111 H =>
                  wGuard t102 true H (fun k => k t10 H) fun t112 H =>
                  wGuard t102 true H (fun k => wGet (binA .sub t112 (.val (.int .i64 1))) H k) fun t113 H =>
                  wGuard t102 true H (fun k => wGet (iaddr 1 t111 t113) H k) fun t114 H =>
                  wGuard t102 true H (fun k => wGet (load1 t114 H) H k) fun t115 H =>
                  wGuard t102 true H (fun k => k t77 H) fun t116 H =>
                  wGuard t102 true H (fun k => wGet (iaddr 1 t115 t116) H k) fun t117 H =>
                  wGuard t102 true H (fun k => wGet (load1 t117 H) H k) fun t118 H =>
                  wGuard t102 true H (fun k => wGet (binA .neq t110 t118) H k) fun t119 H =>
                  wGuard t98 false H (fun k => wGet (pickA t102 t119 (.val (.bool false))) H k) fun t120 H =>
                  wGet (pickA t98 (.val (.bool true)) t120) H fun t121 H =>
                  wIf t121 (
                    wNewS 1 1 (fillA (List.replicate 1 [(.val (.int .i64 0))]).flatten [(0, 1, t59)]) H fun t124 H =>
                    wApp 1 8 t11_1 t124 H fun t125 H =>
                    wPut (store1 t4 t69 H) fun _u H =>
                    wPut (store1 t5 t77 H) fun _u H =>
                    J2 t125 H) (
                    wGet (binA .add t59 (.val (.int .i64 1))) H fun t128 H =>
                    I3 t11_1 t128 H)) (
                  J2 t11_1 H)) fun t11_2 H =>
              wGet (binA .sub t10 (.val (.int .i64 1))) H fun t52 H =>
              I1 t52 t11_2 H) (
            R (.tup [t11, (.val (.nilIface))]) H))))

/-- signalbox/api.Tell -/
def api_Tell (E : Env) (P : Program) (a0 : AV) (H : AH) (R : Kt) : Prop :=
  wBool (eqA .iface a0 (.val (.nilIface))) H false fun t5 H =>
  wIf t5 (
    R (.val (.int .i64 0)) H) (
    wNew 1 (some [(.val (.int .i64 0))]) H fun t3 H =>
    wCall E P 62 [a0, (.ifc 3 t3)] H fun t8 H =>
    wIf t8 (
      wGet (load1 t3 H) H fun t9 H =>
      R t9 H) (
      R (.val (.int .i64 (-1))) H))

/-- signalbox/block.Check -/
def block_Check (E : Env) (P : Program) (a0 : AV) (H : AH) (R : Kt) : Prop :=
  wNew 2 (AV.cells? a0) H fun t1 H =>
  wGet (faddr 0 t1) H fun t5 H =>
  wGet (load1 t5 H) H fun t6 H =>
  wGet (lenA t6) H fun t7 H =>
  wNew 1 (some [(.val (.int .i64 0))]) H fun t3 H =>
  wPut (store1 t3 t7 H) fun _u H =>
  wGet (load1 t3 H) H fun t8 H =>
  wGet (binA .lss t8 (.val (.int .i64 1))) H fun t9 H =>
  wGuard t9 false H (fun k => wGet (load1 t3 H) H k) fun t11 H =>
  wGuard t9 false H (fun k => wGet (binA .gtr t11 (.val (.int .i64 500))) H k) fun t12 H =>
  wGet (pickA t9 (.val (.bool true)) t12) H fun t13 H =>
  wGuard t13 false H (fun k => wGet (faddr 0 t1) H k) fun t15 H =>
  wGuard t13 false H (fun k => wGet (load1 t15 H) H k) fun t16 H =>
  wGuard t13 false H (fun k => wGet (iaddr 1 t16 (.val (.int .i64 0))) H k) fun t17 H =>
  wGuard t13 false H (fun k => wGet (load1 t17 H) H k) fun t18 H =>
  wGuard t13 false H (fun k => wGet (lenA t18) H k) fun t19 H =>
  wGuard t13 false H (fun k => wGet (binA .gtr t19 (.val (.int .i64 64))) H k) fun t20 H =>
  wGet (pickA t13 (.val (.bool true)) t20) H fun t21 H =>
  wIf t21 (
    R (.ifc 1 (.val (.int .i64 4))) H) (
    wGet (faddr 1 t1) H fun t23 H =>
    wGet (load1 t23 H) H fun t24 H =>
    wGet (lenA t24) H fun t25 H =>
    wGet (load1 t3 H) H fun t26 H =>
    wGet (binA .neq t25 t26) H fun t27 H =>
    wIf t27 (
      R (.ifc 1 (.val (.int .i64 3))) H) (
      wGet (faddr 0 t1) H fun t29 H =>
      wGet (load1 t29 H) H fun t30 H =>
      wGet (lenA t30) H fun t31 H =>
      wLoop 1 (fun I1 => I1 (.val (.int .i64 0)) H) fun I1 t32 H =>
        wGet (binA .lss t32 t31) H fun t33 H =>
        wIf t33 (
          wGet (faddr 0 t1) H fun t35 H =>
          wGet (load1 t35 H) H fun t36 H =>
          wGet (iaddr 1 t36 t32) H fun t38 H =>
          wGet (load1 t38 H) H fun t39 H =>
          wGet (lenA t39) H fun t40 H =>
          wGet (faddr 0 t1) H fun t41 H =>
          wGet (load1 t41 H) H fun t42 H =>
          wGet (iaddr 1 t42 (.val (.int .i64 0))) H fun t43 H =>
          wGet (load1 t43 H) H fun t44 H =>
          wGet (lenA t44) H fun t45 H =>
          wGet (binA .neq t40 t45) H fun t46 H =>
          wGuard t46 false H (fun k => wGet (faddr 1 t1) H k) fun t48 H =>
          wGuard t46 false H (fun k => wGet (load1 t48 H) H k) fun t49 H =>
          wGuard t46 false H (fun k => k t32 H) fun t50 H =>
          wGuard t46 false H (fun k => wGet (iaddr 1 t49 t50) H k) fun t51 H =>
          wGuard t46 false H (fun k => wGet (load1 t51 H) H k) fun t52 H =>
          wGuard t46 false H (fun k => wGet (lenA t52) H k) fun t53 H =>
          wGuard t46 false H (fun k => wGet (faddr 0 t1) H k) fun t54 H =>
          wGuard t46 false H (fun k => wGet (load1 t54 H) H k) fun t55 H =>
          wGuard t46 false H (fun k => wGet (iaddr 1 t55 (.val (.int .i64 0))) H k) fun t56 H =>
          wGuard t46 false H (fun k => wGet (load1 t56 H) H k) fun t57 H =>
          wGuard t46 false H (fun k => wGet (lenA t57) H k) fun t58 H =>
          wGuard t46 false H (fun k => wGet (binA .neq t53 t58) H k) fun t59 H =>
          wGet (pickA t46 (.val (.bool true)) t59) H fun t60 H =>
          wIf t60 (
            wAgg (fillA [(.val (.int .i64 0)), (.val (.int .i64 0))] [(0, 1, (.val (.int .i64 3))), (1, 1, t32)]) H fun t62 H =>
            wNew 2 (AV.cells? t62) H fun t63 H =>
            R (.ifc 2 t63) H) (
            wGet (faddr 0 t1) H fun t65 H =>
            wGet (load1 t65 H) H fun t66 H =>
            wGet (iaddr 1 t66 t32) H fun t68 H =>
            wGet (load1 t68 H) H fun t69 H =>
            wCall E P 59 [t69, (.fn 63 [] [t3])] H fun t71 H =>
            wIf t71 (
              wAgg (fillA [(.val (.int .i64 0)), (.val (.int .i64 0))] [(0, 1, (.val (.int .i64 2))), (1, 1, t32)]) H fun t73 H =>
              wNew 2 (AV.cells? t73) H fun t74 H =>
              R (.ifc 2 t74) H) (
              wGet (binA .add t32 (.val (.int .i64 1))) H fun t76 H =>
              I1 t76 H))) (
          R (.val (.nilIface)) H)))

/-- signalbox/block.rounds -/
def block_rounds (E : Env) (P : Program) (a0 : AV) (H : AH) (R : Kt) : Prop :=
  wNew 2 (AV.cells? a0) H fun t1 H =>
  wGet (faddr 0 t1) H fun t12 H =>
  wGet (load1 t12 H) H fun t13 H =>
  wGet (lenA t13) H fun t14 H =>
  wMake 1 8 [(.val (.int .i64 0))] t14 t14 H fun t16 H =>
  wNewS 1 1 (fillA (List.replicate 1 [(.val (.slice none 0 0))]).flatten [(0, 1, t16)]) H fun t17 H =>
  wLoop 1 (fun I1 => I1 t17 H) fun I1 t4 H =>
    wGet (lenA t4) H fun t20 H =>
    wGet (binA .sub t20 (.val (.int .i64 1))) H fun t21 H =>
    wGet (iaddr 1 t4 t21) H fun t22 H =>
    wGet (load1 t22 H) H fun t23 H =>
    wLoop 2 (fun I2 => I2 (.val (.slice none 0 0)) (.val (.int .i64 0)) H) fun I2 t6 t25 H =>
      wGet (binA .lss t25 t14) H fun t26 H =>
      wIf t26 (
        wGet (iaddr 1 t23 t25) H fun t30 H =>
        wGet (load1 t30 H) H fun t31 H =>
        wNewS 1 1 (fillA (List.replicate 1 [(.val (.int .i64 0))]).flatten [(0, 1, t31)]) H fun t32 H =>
        wGet (faddr 0 t1) H fun t33 H =>
        wGet (load1 t33 H) H fun t34 H =>
        wGet (iaddr 1 t34 t25) H fun t36 H =>
        wGet (load1 t36 H) H fun t37 H =>
        wGet (lenA t37) H fun t38 H =>
        wLoop 2 (fun I3 => I3 t32 (.val (.int .i64 0)) H) fun I3 t8 t39 H =>
          wGet (binA .lss t39 t38) H fun t40 H =>
          wIf t40 (
            wGet (iaddr 1 t37 t39) H fun t42 H =>
            wGet (load1 t42 H) H fun t43 H =>
            wGet (faddr 1 t1) H fun t45 H =>
            wGet (load1 t45 H) H fun t46 H =>
            wGet (iaddr 1 t46 t25) H fun t48 H =>
            wGet (load1 t48 H) H fun t49 H =>
            wGet (iaddr 1 t49 t39) H fun t51 H =>
            wGet (load1 t51 H) H fun t52 H =>
            wGet (iaddr 1 t23 t43) H fun t55 H =>
            wGet (load1 t55 H) H fun t56 H =>
            wNewS 1 2 (fillA (List.replicate 2 [(.val (.int .i64 0))]).flatten [(0, 1, t52), (1, 1, t56)]) H fun t57 H =>
            wApp 1 8 t8 t57 H fun t58 H =>
            wGet (binA .add t39 (.val (.int .i64 1))) H fun t59 H =>
            I3 t58 t59 H) (
            wNewS 1 1 (fillA (List.replicate 1 [(.val (.slice none 0 0))]).flatten [(0, 1, t8)]) H fun t62 H =>
            wApp 1 24 t6 t62 H fun t63 H =>
            wGet (binA .add t25 (.val (.int .i64 1))) H fun t64 H =>
            I2 t63 t64 H)) (
        wCall E P 64 [t6] H fun t66 H =>
        wCall E P 65 [t66, t23] H fun t69 H =>
        wIf t69 (
          R t4 H) (
          wNewS 1 1 (fillA (List.replicate 1 [(.val (.slice none 0 0))]).flatten [(0, 1, t66)]) H fun t73 H =>
          wApp 1 24 t4 t73 H fun t74 H =>
          I1 t74 H))

/-- slices.Clone[[]int,int] -/
def slices_Clone_Lint_int (E : Env) (P : Program) (a0 : AV) (H : AH) (R : Kt) : Prop :=
  wBool (eqA .slice a0 (.val (.slice none 0 0))) H false fun t4 H =>
  wIf t4 (
    R (.val (.slice none 0 0)) H) (
    wNewS 1 0 (fillA (List.replicate 0 [(.val (.int .i64 0))]).flatten []) H fun t5 H =>
    wApp 1 8 t5 a0 H fun t7 H =>
    R t7 H)

/-- slices.ContainsFunc[[]int,int] -/
def slices_ContainsFunc_Lint_int (E : Env) (P : Program) (a0 a1 : AV) (H : AH) (R : Kt) : Prop :=
  wCall E P 66 [a0, a1] H fun t7 H =>
  wGet (binA .geq t7 (.val (.int .i64 0))) H fun t8 H =>
  R t8 H

/-- signalbox/block.Tell$1 -/
def block_Tell_c1 (E : Env) (P : Program) (a0 a1 : AV) (H : AH) (R : Kt) : Prop :=
  wGet (binA .lss a0 (.val (.int .i64 0))) H fun t5 H =>
  wGuard t5 false H (fun k => k a0 H) fun t7 H =>
  wGuard t5 false H (fun k => wGet (faddr 0 a1) H k) fun t8 H =>
  wGuard t5 false H (fun k => wGet (load1 t8 H) H k) fun t9 H =>
  wGuard t5 false H (fun k => wGet (iaddr 1 t9 (.val (.int .i64 0))) H k) fun t10 H =>
  wGuard t5 false H (fun k => wGet (load1 t10 H) H k) fun t11 H =>
  wGuard t5 false H (fun k => wGet (lenA t11) H k) fun t12 H =>
  wGuard t5 false H (fun k => wGet (binA .geq t7 t12) H k) fun t13 H =>
  wGet (pickA t5 (.val (.bool true)) t13) H fun t14 H =>
  R t14 H

/-- slices.IndexFunc[[][]int,[]int] -/
def slices_IndexFunc_LLint_Lint (E : Env) (P : Program) (a0 a1 : AV) (H : AH) (R : Kt) : Prop :=
  wGet (lenA a0) H fun t7 H =>
  wLoop 1 (fun I1 => I1 (.val (.int .i64 0)) H) fun I1 t8 H =>
    wGet (binA .lss t8 t7) H fun t9 H =>
    wIf t9 (
      wGet (iaddr 1 a0 t8) H fun t14 H =>
      wGet (load1 t14 H) H fun t15 H =>
      wCallV E P a1 [t15] H fun t16 H =>
      wIf t16 (
        R t8 H) (
        wGet (binA .add t8 (.val (.int .i64 1))) H fun t18 H =>
        I1 t18 H)) (
      R (.val (.int .i64 (-1))) H)

/-- signalbox/block.Part$1 -/
def block_Part_c1 (E : Env) (P : Program) (a0 a1 a2 : AV) (H : AH) (R : Kt) : Prop :=
  wGet (load1 a1 H) H fun t6 H =>
  wGet (iaddr 1 a0 t6) H fun t7 H =>
  wGet (load1 t7 H) H fun t8 H =>
  wGet (load1 a2 H) H fun t10 H =>
  wGet (iaddr 1 a0 t10) H fun t11 H =>
  wGet (load1 t11 H) H fun t12 H =>
  wGet (binA .neq t8 t12) H fun t13 H =>
  R t13 H

/-- errors.As -/
def errors_As (E : Env) (P : Program) (a0 a1 : AV) (H : AH) (R : Kt) : Prop :=
  wBool (eqA .iface a0 (.val (.nilIface))) H false fun t9 H =>
  wIf t9 (
    R (.val (.bool false)) H) (
    wJoin 0 (fun J1 =>
      wBool (eqA .iface a1 (.val (.nilIface))) H false fun t11 H =>
      wIf t11 (
        False) (
        J1 H)) fun H =>
      wCall E P 67 [a1] H fun t14 H =>
      wNew 3 (some [(.val (.pointer none)), (.val (.pointer none)), (.val (.int .u64 0))]) H fun t5 H =>
      wPut (storeN 3 t5 t14 H) fun _u H =>
      wGet (loadN 3 t5 H) H fun t15 H =>
      wCall E P 68 [t15] H fun t16 H =>
      wJoin 0 (fun J2 =>
        wInv E P t16 "Kind" [] H fun t18 H =>
        wGet (binA .neq t18 (.val (.int .u8 22))) H fun t19 H =>
        wGuard t19 false H (fun k => wGet (loadN 3 t5 H) H k) fun t21 H =>
        wGuard t19 false H (fun k => wCall E P 69 [t21] H k) fun t22 H =>
        wGet (pickA t19 (.val (.bool true)) t22) H fun t23 H =>
        wIf t23 (
          False) (
          J2 H)) fun H =>
        wInv E P t16 "Elem" [] H fun t26 H =>
        wJoin 0 (fun J3 =>
          wInv E P t26 "Kind" [] H fun t28 H =>
          wGet (binA .neq t28 (.val (.int .u8 20))) H fun t29 H =>
          wGuard t29 true H (fun k => k t26 H) fun t31 H =>
          wGuard t29 true H (fun k => wGet (load1 (gptr E 4) H) H k) fun t32 H =>
          wGuard t29 true H (fun k => wInv E P t31 "Implements" [t32] H k) fun t33 H =>
          wGuard t29 true H (fun k => wGet (unA .not t33) H k) fun t34 H =>
          wGet (pickA t29 t34 (.val (.bool false))) H fun t35 H =>
          wIf t35 (
            False) (
            J3 H)) fun H =>
          wGet (loadN 3 t5 H) H fun t39 H =>
          wCall E P 70 [a0, a1, t39, t26] H fun t41 H =>
          R t41 H)

/-- signalbox/block.Check$1 -/
def block_Check_c1 (E : Env) (P : Program) (a0 a1 : AV) (H : AH) (R : Kt) : Prop :=
  wGet (binA .lss a0 (.val (.int .i64 0))) H fun t5 H =>
  wGuard t5 false H (fun k => k a0 H) fun t7 H =>
  wGuard t5 false H (fun k => wGet (load1 a1 H) H k) fun t8 H =>
  wGuard t5 false H (fun k => wGet (binA .geq t7 t8) H k) fun t9 H =>
  wGet (pickA t5 (.val (.bool true)) t9) H fun t10 H =>
  R t10 H

/-- signalbox/block.number -/
def block_number (E : Env) (P : Program) (a0 : AV) (H : AH) (R : Kt) : Prop :=
  wGet (lenA a0) H fun t9 H =>
  wLoop 3 (fun I1 => I1 (.val (.slice none 0 0)) (.val (.slice none 0 0)) (.val (.int .i64 0)) H) fun I1 t3 t4 t10 H =>
    wGet (binA .lss t10 t9) H fun t11 H =>
    wIf t11 (
      wGet (iaddr 1 a0 t10) H fun t12 H =>
      wGet (load1 t12 H) H fun t13 H =>
      wNew 1 (some [(.val (.slice none 0 0))]) H fun t6 H =>
      wPut (store1 t6 t13 H) fun _u H =>
      wCall E P 61 [t3, (.fn 71 [] [t6])] H fun t16 H =>
      wJoin 2 (fun J2 =>
        wGet (binA .lss t16 (.val (.int .i64 0))) H fun t18 H =>
        wIf t18 (
          wGet (lenA t3) H fun t20 H =>
          wGet (load1 t6 H) H fun t22 H =>
          wNewS 1 1 (fillA (List.replicate 1 [(.val (.slice none 0 0))]).flatten [(0, 1, t22)]) H fun t23 H =>
          wApp 1 24 t3 t23 H fun t24 H =>
          J2 t24 t20 H) (
          J2 t3 t16 H)) fun t3_1 t7 H =>
        wNewS 1 1 (fillA (List.replicate 1 [(.val (.int .i64 0))]).flatten [(0, 1, t7)]) H fun t27 H =>
        wApp 1 8 t4 t27 H fun t28 H =>
        wGet (binA .add t10 (.val (.int .i64 1))) H fun t29 H =>
        I1 t3_1 t28 t29 H) (
      R t4 H)

/-- slices.Equal[[]int,int] -/
def slices_Equal_Lint_int (E : Env) (P : Program) (a0 a1 : AV) (H : AH) (R : Kt) : Prop :=
  wGet (lenA a0) H fun t7 H =>
  wGet (lenA a1) H fun t9 H =>
  wGet (binA .neq t7 t9) H fun t10 H =>
  wIf t10 (
    R (.val (.bool false)) H) (
    wGet (lenA a0) H fun t12 H =>
    wLoop 1 (fun I1 => I1 (.val (.int .i64 0)) H) fun I1 t13 H =>
      wGet (binA .lss t13 t12) H fun t14 H =>
      wIf t14 (
        wGet (iaddr 1 a0 t13) H fun t18 H =>
        wGet (load1 t18 H) H fun t19 H =>
        wGet (iaddr 1 a1 t13) H fun t22 H =>
        wGet (load1 t22 H) H fun t23 H =>
        wGet (binA .neq t19 t23) H fun t24 H =>
        wIf t24 (
          R (.val (.bool false)) H) (
          wGet (binA .add t13 (.val (.int .i64 1))) H fun t25 H =>
          I1 t25 H)) (
        R (.val (.bool true)) H))

/-- slices.IndexFunc[[]int,int] -/
def slices_IndexFunc_Lint_int (E : Env) (P : Program) (a0 a1 : AV) (H : AH) (R : Kt) : Prop :=
  wGet (lenA a0) H fun t7 H =>
  wLoop 1 (fun I1 => I1 (.val (.int .i64 0)) H) fun I1 t8 H =>
    wGet (binA .lss t8 t7) H fun t9 H =>
    wIf t9 (
      wGet (iaddr 1 a0 t8) H fun t14 H =>
      wGet (load1 t14 H) H fun t15 H =>
      wCallV E P a1 [t15] H fun t16 H =>
      wIf t16 (
        R t8 H) (
        wGet (binA .add t8 (.val (.int .i64 1))) H fun t18 H =>
        I1 t18 H)) (
      R (.val (.int .i64 (-1))) H)

/-- errors.as -/
def errors_as (E : Env) (P : Program) (a0 a1 a2 a3 : AV) (H : AH) (R : Kt) : Prop :=
  wNew 3 (AV.cells? a2) H fun t6 H =>
  wLoop 1 (fun I1 => I1 a0 H) fun I1 t0 H =>
    wCall E P 72 [t0] H fun t17 H =>
    wInv E P t17 "AssignableTo" [a3] H fun t19 H =>
    wIf t19 (
      wGet (loadN 3 t6 H) H fun t20 H =>
      wCall E P 73 [t20] H fun t21 H =>
      wCall E P 67 [t0] H fun t23 H =>
      wCall E P 74 [t21, t23] H fun t24 H =>
      R (.val (.bool true)) H) (
      wAsI E P 5 t0 H fun t27 H =>
      wGet (extractA t27 0) H fun t28 H =>
      wGet (extractA t27 1) H fun t29 H =>
      wGuard t29 true H (fun k => k t28 H) fun t32 H =>
      wGuard t29 true H (fun k => k a1 H) fun t33 H =>
      wGuard t29 true H (fun k => wInv E P t32 "As" [t33] H k) fun t34 H =>
      wGet (pickA t29 t34 (.val (.bool false))) H fun t35 H =>
      wIf t35 (
        R (.val (.bool true)) H) (
        wAsI E P 6 t0 H fun t37 H =>
        wGet (extractA t37 1) H fun t38 H =>
        wGet (extractA t37 0) H fun t39 H =>
        wIf t38 (
          wInv E P t39 "Unwrap" [] H fun t41 H =>
          wBool (eqA .iface t41 (.val (.nilIface))) H false fun t43 H =>
          wIf t43 (
            R (.val (.bool false)) H) (
            I1 t41 H)) (
          wAsI E P 7 t0 H fun t44 H =>
          wGet (extractA t44 1) H fun t45 H =>
          wGet (extractA t44 0) H fun t46 H =>
          wIf t45 (
            wInv E P t46 "Unwrap" [] H fun t48 H =>
            wGet (lenA t48) H fun t49 H =>
            wLoop 1 (fun I2 => I2 (.val (.int .i64 0)) H) fun I2 t50 H =>
              wGet (binA .lss t50 t49) H fun t51 H =>
              wIf t51 (
                wJoin 0 (fun J3 =>
                  wGet (iaddr 1 t48 t50) H fun t52 H =>
                  wGet (load1 t52 H) H fun t53 H =>
                  wBool (eqA .iface t53 (.val (.nilIface))) H false fun t55 H =>
                  wIf t55 (
                    J3 H) (
                    wGet (loadN 3 t6 H) H fun t58 H =>
                    wCall E P 70 [t53, a1, t58, a3] H fun t60 H =>
                    wIf t60 (
                      R (.val (.bool true)) H) (
                      J3 H))) fun H =>
                  wGet (binA .add t50 (.val (.int .i64 1))) H fun t61 H =>
                  I2 t61 H) (
                R (.val (.bool false)) H)) (
            R (.val (.bool false)) H))))

/-- signalbox/block.number$1 -/
def block_number_c1 (E : Env) (P : Program) (a0 a1 : AV) (H : AH) (R : Kt) : Prop :=
  wGet (load1 a1 H) H fun t5 H =>
  wCall E P 65 [a0, t5] H fun t6 H =>
  R t6 H

/-- (*signalbox/api.At).Unwrap -/
def papi_At_Unwrap (E : Env) (P : Program) (a0 : AV) (H : AH) (R : Kt) : Prop :=
  wGet (nilA a0) H fun t4 H =>
  wGet (faddr 0 t4) H fun t5 H =>
  wGet (load1 t5 H) H fun t6 H =>
  R (.ifc 1 t6) H

end Go.Sc.F
namespace Go.Sc
open Go
set_option linter.unusedSimpArgs false
set_option linter.unusedVariables false

def LI (l : List Int) : AV := Lm (fun z => Z z) l
def LLI (l : List (List Int)) : AV := Lm LI l
theorem LI_closed (l : List Int) : (LI l).closed := by simp [LI, Lm, AV.closed, closed_Z]
theorem LLI_closed (l : List (List Int)) : (LLI l).closed := by simp only [LLI, Lm, AV.closed]; exact closed_map LI_closed l
theorem LI_scalar (l : List Int) : (LI l).scalar = true := rfl
theorem mapZ_get {l : List Int} {i : Nat} (h : i < l.length) : (l.map fun z => Z z)[i]? = some (Z (l.getD i 0)) := by
  simp [List.getD, List.getElem?_eq_getElem h]
theorem mapL_get {l : List (List Int)} {i : Nat} (h : i < l.length) : (l.map LI)[i]? = some (LI (l.getD i [])) := by
  simp [List.getD, List.getElem?_eq_getElem h]
def idxO : Option Nat → Int
  | some i => i
  | none => -1

section
variable {E : Env} {P : Program}
theorem ACalls.slN1 {k : Nat} {cs : List AV} {len : Nat} {H : AH} {R : Kt} (h0 : len = 0 → ACalls E P k [nilS] H R) (h1 : ACalls E P k [.slF cs 0 len] H R) : ACalls E P k [.slN cs len] H R := fun c vs hH hv => by
  obtain ⟨v, rfl, hr⟩ := hv.one'
  simp only [VRel] at hr
  rcases hr with ⟨rfl, hl⟩ | ⟨p, cap, rfl, hl, hr⟩
  · exact h0 hl c _ hH (.one (by simp only [VRel]))
  · refine h1 c _ hH (.one ?_)
    simp only [VRel]
    exact ⟨p, cap, rfl, hl, hr.imp id fun ⟨b, o, hp, hc⟩ => ⟨b, o, by simpa using hp, hc⟩⟩

theorem Equal_spec (hB : Body2 E P 65 F.slices_Equal_Lint_int) (l l' : List Int) (hl : l.length < 4611686018427387904) : FX E P 65 [LI l, LI l'] (Bo (decide (l = l'))) := by
  refine FX.of' (by simp [AV.closedL, LI_closed]) (by simp [AV.closed]) fun n R hR => hB _ _ _ _ ?_
  unfold F.slices_Equal_Lint_int LI
  simp only [Y0, Y1, Y2, Y3, Y4, Y5, Y6, Y7, Y8, Y9, Ya, Yb, Yc, Yd, Ye, Yf, Yg, Yh, Yi, Yj, Yk, Yl, Ym, Yn, Yo, Yp, Yq, Yr, Ys, Yt, Yu, Yv, Yw, Yx, Yy, Yz, Y10, Y11, Y12, Y13, Y14, Y15, Y16, Y17, Y18, Y19, Y1a, Y1b, Y1c, Y1d, Y1e, Y1f, Y1g, Y1h, Y1i, Y1j, Y1k, Y1l, AV.cells?, Y1n, Y1o, Y1p, Y1q, Y1r, Y1s, Y1t, Nat.reduceAdd, Nat.reduceMul, Y1w, Y1x, Y1y, Y1z, Y20, Y21, Y22, Y23, Y24, Y25, Y26, Y27, Y28, Y29, Y2a, Y2b]
  by_cases hn : l.length = l'.length
  case neg =>
    simp only [Y0, Y1, Y2, Y3, Y4, Y5, Y6, Y7, Y8, Y9, Ya, Yb, Yc, Yd, Ye, Yf, Yg, Yh, Yi, Yj, Yk, Yl, Ym, Yn, Yo, Yp, Yq, Yr, Ys, Yt, Yu, Yv, Yw, Yx, Yy, Yz, Y10, Y11, Y12, Y13, Y14, Y15, Y16, Y17, Y18, Y19, Y1a, Y1b, Y1c, Y1d, Y1e, Y1f, Y1g, Y1h, Y1i, Y1j, Y1k, Y1l, AV.cells?, Y1n, Y1o, Y1p, Y1q, Y1r, Y1s, Y1t, Nat.reduceAdd, Nat.reduceMul, Y1w, Y1x, Y1y, Y1z, Y20, Y21, Y22, Y23, Y24, Y25, Y26, Y27, Y28, Y29, Y2a, Y2b, decide_eq_false (show ¬ ((l.length : Int) = l'.length) by omega)]
    exact hR _ _ (by rw [decide_eq_false (fun e => hn (by rw [e]))])
  simp only [Y0, Y1, Y2, Y3, Y4, Y5, Y6, Y7, Y8, Y9, Ya, Yb, Yc, Yd, Ye, Yf, Yg, Yh, Yi, Yj, Yk, Yl, Ym, Yn, Yo, Yp, Yq, Yr, Ys, Yt, Yu, Yv, Yw, Yx, Yy, Yz, Y10, Y11, Y12, Y13, Y14, Y15, Y16, Y17, Y18, Y19, Y1a, Y1b, Y1c, Y1d, Y1e, Y1f, Y1g, Y1h, Y1i, Y1j, Y1k, Y1l, AV.cells?, Y1n, Y1o, Y1p, Y1q, Y1r, Y1s, Y1t, Nat.reduceAdd, Nat.reduceMul, Y1w, Y1x, Y1y, Y1z, Y20, Y21, Y22, Y23, Y24, Y25, Y26, Y27, Y28, Y29, Y2a, Y2b, decide_eq_true (show ((l.length : Int) = l'.length) by omega)]
  refine wLoop.one (fun m i H => ∃ j : Nat, i = Z j ∧ j ≤ l.length ∧ m = l.length - j ∧ ∀ k, k < j → l[k]? = l'[k]?) l.length (gh1.mk ⟨0, rfl, by omega, rfl, by simp⟩) ?_
  rintro m i H ⟨j, rfl, hj, rfl, hp⟩
  by_cases hlt : j < l.length
  case neg =>
    have : j = l.length := by omega
    subst this
    simp only [Y0, Y1, Y2, Y3, Y4, Y5, Y6, Y7, Y8, Y9, Ya, Yb, Yc, Yd, Ye, Yf, Yg, Yh, Yi, Yj, Yk, Yl, Ym, Yn, Yo, Yp, Yq, Yr, Ys, Yt, Yu, Yv, Yw, Yx, Yy, Yz, Y10, Y11, Y12, Y13, Y14, Y15, Y16, Y17, Y18, Y19, Y1a, Y1b, Y1c, Y1d, Y1e, Y1f, Y1g, Y1h, Y1i, Y1j, Y1k, Y1l, AV.cells?, Y1n, Y1o, Y1p, Y1q, Y1r, Y1s, Y1t, Nat.reduceAdd, Nat.reduceMul, Y1w, Y1x, Y1y, Y1z, Y20, Y21, Y22, Y23, Y24, Y25, Y26, Y27, Y28, Y29, Y2a, Y2b, Int.lt_irrefl]
    refine hR _ _ ?_
    rw [decide_eq_true]
    refine List.ext_getElem? fun k => ?_
    by_cases hk : k < l.length
    · exact hp k hk
    · rw [List.getElem?_eq_none (by omega), List.getElem?_eq_none (by omega)]
  simp only [Y0, Y1, Y2, Y3, Y4, Y5, Y6, Y7, Y8, Y9, Ya, Yb, Yc, Yd, Ye, Yf, Yg, Yh, Yi, Yj, Yk, Yl, Ym, Yn, Yo, Yp, Yq, Yr, Ys, Yt, Yu, Yv, Yw, Yx, Yy, Yz, Y10, Y11, Y12, Y13, Y14, Y15, Y16, Y17, Y18, Y19, Y1a, Y1b, Y1c, Y1d, Y1e, Y1f, Y1g, Y1h, Y1i, Y1j, Y1k, Y1l, AV.cells?, Y1n, Y1o, Y1p, Y1q, Y1r, Y1s, Y1t, Nat.reduceAdd, Nat.reduceMul, Y1w, Y1x, Y1y, Y1z, Y20, Y21, Y22, Y23, Y24, Y25, Y26, Y27, Y28, Y29, Y2a, Y2b, decide_eq_true (show (j : Int) < (l.length : Int) by omega)]
  rw [iaddr_Nn hlt, iaddr_Nn (show j < l'.length by omega)]
  simp only [Y0, Y1, Y2, Y3, Y4, Y5, Y6, Y7, Y8, Y9, Ya, Yb, Yc, Yd, Ye, Yf, Yg, Yh, Yi, Yj, Yk, Yl, Ym, Yn, Yo, Yp, Yq, Yr, Ys, Yt, Yu, Yv, Yw, Yx, Yy, Yz, Y10, Y11, Y12, Y13, Y14, Y15, Y16, Y17, Y18, Y19, Y1a, Y1b, Y1c, Y1d, Y1e, Y1f, Y1g, Y1h, Y1i, Y1j, Y1k, Y1l, AV.cells?, Y1n, Y1o, Y1p, Y1q, Y1r, Y1s, Y1t, Nat.reduceAdd, Nat.reduceMul, Y1w, Y1x, Y1y, Y1z, Y20, Y21, Y22, Y23, Y24, Y25, Y26, Y27, Y28, Y29, Y2a, Y2b, mapZ_get hlt, mapZ_get (show j < l'.length by omega)]
  have e1 : l[j]? = some (l.getD j 0) := by simp [List.getD, List.getElem?_eq_getElem hlt]
  have e2 : l'[j]? = some (l'.getD j 0) := by simp [List.getD, List.getElem?_eq_getElem (show j < l'.length by omega)]
  by_cases he : l.getD j 0 = l'.getD j 0
  · simp only [Y0, Y1, Y2, Y3, Y4, Y5, Y6, Y7, Y8, Y9, Ya, Yb, Yc, Yd, Ye, Yf, Yg, Yh, Yi, Yj, Yk, Yl, Ym, Yn, Yo, Yp, Yq, Yr, Ys, Yt, Yu, Yv, Yw, Yx, Yy, Yz, Y10, Y11, Y12, Y13, Y14, Y15, Y16, Y17, Y18, Y19, Y1a, Y1b, Y1c, Y1d, Y1e, Y1f, Y1g, Y1h, Y1i, Y1j, Y1k, Y1l, AV.cells?, Y1n, Y1o, Y1p, Y1q, Y1r, Y1s, Y1t, Nat.reduceAdd, Nat.reduceMul, Y1w, Y1x, Y1y, Y1z, Y20, Y21, Y22, Y23, Y24, Y25, Y26, Y27, Y28, Y29, Y2a, Y2b, decide_eq_true he]
    rw [binA_succ (by omega)]
    simp only [Y0, Y1, Y2, Y3, Y4, Y5, Y6, Y7, Y8, Y9, Ya, Yb, Yc, Yd, Ye, Yf, Yg, Yh, Yi, Yj, Yk, Yl, Ym, Yn, Yo, Yp, Yq, Yr, Ys, Yt, Yu, Yv, Yw, Yx, Yy, Yz, Y10, Y11, Y12, Y13, Y14, Y15, Y16, Y17, Y18, Y19, Y1a, Y1b, Y1c, Y1d, Y1e, Y1f, Y1g, Y1h, Y1i, Y1j, Y1k, Y1l, AV.cells?, Y1n, Y1o, Y1p, Y1q, Y1r, Y1s, Y1t, Nat.reduceAdd, Nat.reduceMul, Y1w, Y1x, Y1y, Y1z, Y20, Y21, Y22, Y23, Y24, Y25, Y26, Y27, Y28, Y29, Y2a, Y2b]
    refine back1.mk (l.length - (j + 1)) (by omega) ⟨j + 1, rfl, by omega, rfl, fun k hk => ?_⟩
    by_cases hkj : k = j
    · subst hkj; rw [e1, e2, he]
    · exact hp k (by omega)
  · simp only [Y0, Y1, Y2, Y3, Y4, Y5, Y6, Y7, Y8, Y9, Ya, Yb, Yc, Yd, Ye, Yf, Yg, Yh, Yi, Yj, Yk, Yl, Ym, Yn, Yo, Yp, Yq, Yr, Ys, Yt, Yu, Yv, Yw, Yx, Yy, Yz, Y10, Y11, Y12, Y13, Y14, Y15, Y16, Y17, Y18, Y19, Y1a, Y1b, Y1c, Y1d, Y1e, Y1f, Y1g, Y1h, Y1i, Y1j, Y1k, Y1l, AV.cells?, Y1n, Y1o, Y1p, Y1q, Y1r, Y1s, Y1t, Nat.reduceAdd, Nat.reduceMul, Y1w, Y1x, Y1y, Y1z, Y20, Y21, Y22, Y23, Y24, Y25, Y26, Y27, Y28, Y29, Y2a, Y2b, decide_eq_false he]
    refine hR _ _ ?_
    rw [decide_eq_false]
    rintro rfl
    exact he rfl

/-- the first element of which so much holds -/
theorem IndexFunc_any {α : Type} {f : α → AV} {G : Env → Program → AV → AV → AH → Kt → Prop} {kk : Nat} (hG : G = F.slices_IndexFunc_Lint_int ∨ G = F.slices_IndexFunc_LLint_Lint) (hB : Body2 E P kk G) {k : Nat} {cs : List AV} {p : α → Bool} (hf : ∀ a, (f a).closed) (l : List α) (hl : l.length < 4611686018427387904) (hcs : AV.closedL cs)
    (hp : ∀ a ∈ l, FX E P k ([f a] ++ cs) (Bo (p a))) : FX E P kk [Lm f l, .fn k [] cs] (Z (idxO (l.findIdx? p))) := by
  refine FX.of' (by simp only [AV.closedL, Lm, AV.closed, and_true, true_and]; exact ⟨closed_map hf l, hcs⟩) (by simp [AV.closed]) fun n R hR => hB _ _ _ _ ?_
  have main : wLoop 1 (fun I1 => I1 (Z 0) ⟨[], n⟩) fun I1 t8 H =>
      wGet (binA .lss t8 (Z l.length)) H fun t9 H =>
      wIf t9 (
        wGet (iaddr 1 (Lm f l) t8) H fun t14 H =>
        wGet (load1 t14 H) H fun t15 H =>
        wCallV E P (.fn k [] cs) [t15] H fun t16 H =>
        wIf t16 (
          R t8 H) (
          wGet (binA .add t8 (.val (.int .i64 1))) H fun t18 H =>
          I1 t18 H)) (
        R (.val (.int .i64 (-1))) H) := by
    refine wLoop.one (fun m i H => ∃ pre rest, l = pre ++ rest ∧ i = Z pre.length ∧ m = rest.length ∧ ∀ a ∈ pre, p a = false) l.length (gh1.mk ⟨[], l, rfl, rfl, rfl, by simp⟩) ?_
    rintro m i H ⟨pre, rest, rfl, rfl, rfl, hpre⟩
    cases rest with
    | nil =>
      simp only [Y0, Y1, Y2, Y3, Y4, Y5, Y6, Y7, Y8, Y9, Ya, Yb, Yc, Yd, Ye, Yf, Yg, Yh, Yi, Yj, Yk, Yl, Ym, Yn, Yo, Yp, Yq, Yr, Ys, Yt, Yu, Yv, Yw, Yx, Yy, Yz, Y10, Y11, Y12, Y13, Y14, Y15, Y16, Y17, Y18, Y19, Y1a, Y1b, Y1c, Y1d, Y1e, Y1f, Y1g, Y1h, Y1i, Y1j, Y1k, Y1l, AV.cells?, Y1n, Y1o, Y1p, Y1q, Y1r, Y1s, Y1t, Nat.reduceAdd, Nat.reduceMul, Y1w, Y1x, Y1y, Y1z, Y20, Y21, Y22, Y23, Y24, Y25, Y26, Y27, Y28, Y29, Y2a, Y2b, List.append_nil, Int.lt_irrefl]
      refine hR _ _ ?_
      rw [List.append_nil, List.findIdx?_eq_none_iff.2 hpre]
      rfl
    | cons x rest =>
      simp only [Y0, Y1, Y2, Y3, Y4, Y5, Y6, Y7, Y8, Y9, Ya, Yb, Yc, Yd, Ye, Yf, Yg, Yh, Yi, Yj, Yk, Yl, Ym, Yn, Yo, Yp, Yq, Yr, Ys, Yt, Yu, Yv, Yw, Yx, Yy, Yz, Y10, Y11, Y12, Y13, Y14, Y15, Y16, Y17, Y18, Y19, Y1a, Y1b, Y1c, Y1d, Y1e, Y1f, Y1g, Y1h, Y1i, Y1j, Y1k, Y1l, AV.cells?, Y1n, Y1o, Y1p, Y1q, Y1r, Y1s, Y1t, Nat.reduceAdd, Nat.reduceMul, Y1w, Y1x, Y1y, Y1z, Y20, Y21, Y22, Y23, Y24, Y25, Y26, Y27, Y28, Y29, Y2a, Y2b, decide_eq_true (show (pre.length : Int) < ((pre ++ x :: rest).length : Int) by simp; omega)]
      rw [iaddr_Nn lt_mid]
      simp only [Y0, Y1, Y2, Y3, Y4, Y5, Y6, Y7, Y8, Y9, Ya, Yb, Yc, Yd, Ye, Yf, Yg, Yh, Yi, Yj, Yk, Yl, Ym, Yn, Yo, Yp, Yq, Yr, Ys, Yt, Yu, Yv, Yw, Yx, Yy, Yz, Y10, Y11, Y12, Y13, Y14, Y15, Y16, Y17, Y18, Y19, Y1a, Y1b, Y1c, Y1d, Y1e, Y1f, Y1g, Y1h, Y1i, Y1j, Y1k, Y1l, AV.cells?, Y1n, Y1o, Y1p, Y1q, Y1r, Y1s, Y1t, Nat.reduceAdd, Nat.reduceMul, Y1w, Y1x, Y1y, Y1z, Y20, Y21, Y22, Y23, Y24, Y25, Y26, Y27, Y28, Y29, Y2a, Y2b, at_mid]
      refine wCallV.fx (hp x (by simp)) fun n1 => ?_
      refine wIf.bool (fun h => ?_) fun h => ?_
      · refine hR _ _ ?_
        have : (pre ++ x :: rest).findIdx? p = some pre.length := by
          rw [List.findIdx?_append, List.findIdx?_eq_none_iff.2 hpre]
          simp [List.findIdx?_cons, h]
        rw [this]; rfl
      · rw [binA_succ (by simp at hl; omega)]
        simp only [Y0, Y1, Y2, Y3, Y4, Y5, Y6, Y7, Y8, Y9, Ya, Yb, Yc, Yd, Ye, Yf, Yg, Yh, Yi, Yj, Yk, Yl, Ym, Yn, Yo, Yp, Yq, Yr, Ys, Yt, Yu, Yv, Yw, Yx, Yy, Yz, Y10, Y11, Y12, Y13, Y14, Y15, Y16, Y17, Y18, Y19, Y1a, Y1b, Y1c, Y1d, Y1e, Y1f, Y1g, Y1h, Y1i, Y1j, Y1k, Y1l, AV.cells?, Y1n, Y1o, Y1p, Y1q, Y1r, Y1s, Y1t, Nat.reduceAdd, Nat.reduceMul, Y1w, Y1x, Y1y, Y1z, Y20, Y21, Y22, Y23, Y24, Y25, Y26, Y27, Y28, Y29, Y2a, Y2b]
        refine back1.mk rest.length (by simp) ⟨pre ++ [x], rest, by simp, by simp, rfl, fun a ha => ?_⟩
        rcases List.mem_append.1 ha with ha | ha
        · exact hpre a ha
        · simp at ha; subst ha; exact h
  rcases hG with rfl | rfl
  · unfold F.slices_IndexFunc_Lint_int
    simp only [Y0, Y1, Y2, Y3, Y4, Y5, Y6, Y7, Y8, Y9, Ya, Yb, Yc, Yd, Ye, Yf, Yg, Yh, Yi, Yj, Yk, Yl, Ym, Yn, Yo, Yp, Yq, Yr, Ys, Yt, Yu, Yv, Yw, Yx, Yy, Yz, Y10, Y11, Y12, Y13, Y14, Y15, Y16, Y17, Y18, Y19, Y1a, Y1b, Y1c, Y1d, Y1e, Y1f, Y1g, Y1h, Y1i, Y1j, Y1k, Y1l, AV.cells?, Y1n, Y1o, Y1p, Y1q, Y1r, Y1s, Y1t, Nat.reduceAdd, Nat.reduceMul, Y1w, Y1x, Y1y, Y1z, Y20, Y21, Y22, Y23, Y24, Y25, Y26, Y27, Y28, Y29, Y2a, Y2b]
    exact main
  · unfold F.slices_IndexFunc_LLint_Lint
    simp only [Y0, Y1, Y2, Y3, Y4, Y5, Y6, Y7, Y8, Y9, Ya, Yb, Yc, Yd, Ye, Yf, Yg, Yh, Yi, Yj, Yk, Yl, Ym, Yn, Yo, Yp, Yq, Yr, Ys, Yt, Yu, Yv, Yw, Yx, Yy, Yz, Y10, Y11, Y12, Y13, Y14, Y15, Y16, Y17, Y18, Y19, Y1a, Y1b, Y1c, Y1d, Y1e, Y1f, Y1g, Y1h, Y1i, Y1j, Y1k, Y1l, AV.cells?, Y1n, Y1o, Y1p, Y1q, Y1r, Y1s, Y1t, Nat.reduceAdd, Nat.reduceMul, Y1w, Y1x, Y1y, Y1z, Y20, Y21, Y22, Y23, Y24, Y25, Y26, Y27, Y28, Y29, Y2a, Y2b]
    exact main
theorem ContainsFunc_spec (hB : Body2 E P 59 F.slices_ContainsFunc_Lint_int) (hI : Body2 E P 66 F.slices_IndexFunc_Lint_int) {k : Nat} {cs : List AV} {p : Int → Bool} (l : List Int) (hl : l.length < 4611686018427387904) (hcs : AV.closedL cs)
    (hp : ∀ a ∈ l, FX E P k ([Z a] ++ cs) (Bo (p a))) : FX E P 59 [LI l, .fn k [] cs] (Bo (l.any p)) := by
  refine FX.of' (by simp only [AV.closedL, AV.closed, and_true, true_and]; exact ⟨LI_closed l, hcs⟩) (by simp [AV.closed]) fun n R hR => hB _ _ _ _ ?_
  unfold F.slices_ContainsFunc_Lint_int
  refine wCall.fx (IndexFunc_any (f := fun z => Z z) (.inl rfl) hI (fun _ => by simp [AV.closed]) l hl hcs hp) fun n => ?_
  simp only [Y0, Y1, Y2, Y3, Y4, Y5, Y6, Y7, Y8, Y9, Ya, Yb, Yc, Yd, Ye, Yf, Yg, Yh, Yi, Yj, Yk, Yl, Ym, Yn, Yo, Yp, Yq, Yr, Ys, Yt, Yu, Yv, Yw, Yx, Yy, Yz, Y10, Y11, Y12, Y13, Y14, Y15, Y16, Y17, Y18, Y19, Y1a, Y1b, Y1c, Y1d, Y1e, Y1f, Y1g, Y1h, Y1i, Y1j, Y1k, Y1l, AV.cells?, Y1n, Y1o, Y1p, Y1q, Y1r, Y1s, Y1t, Nat.reduceAdd, Nat.reduceMul, Y1w, Y1x, Y1y, Y1z, Y20, Y21, Y22, Y23, Y24, Y25, Y26, Y27, Y28, Y29, Y2a, Y2b]
  refine hR _ _ ?_
  cases hf : l.findIdx? p with
  | none =>
    rw [List.findIdx?_eq_none_iff] at hf
    have : l.any p = false := by rw [List.any_eq_false]; intro x hx; simp [hf x hx]
    rw [this]; rfl
  | some i =>
    rw [List.findIdx?_eq_some_iff_getElem] at hf
    obtain ⟨h1, h2, _⟩ := hf
    have : l.any p = true := by rw [List.any_eq_true]; exact ⟨_, List.getElem_mem h1, h2⟩
    rw [this]
    have : (0 : Int) ≤ idxO (some i) := by simp [idxO]
    rw [decide_eq_true this]
theorem Clone_spec (hB : Body1 E P 57 F.slices_Clone_Lint_int) (l : List Int) (hl : l.length < 4398046511104) : FX E P 57 [LI l] (LI l) := by
  refine FX.of (by simp [AV.closedL, LI_closed]) (LI_closed _) fun n R hR => ?_
  refine ACalls.slN1 (fun h0 => hB _ _ _ ?_) (hB _ _ _ ?_)
  · unfold F.slices_Clone_Lint_int
    simp only [Y0, Y1, Y2, Y3, Y4, Y5, Y6, Y7, Y8, Y9, Ya, Yb, Yc, Yd, Ye, Yf, Yg, Yh, Yi, Yj, Yk, Yl, Ym, Yn, Yo, Yp, Yq, Yr, Ys, Yt, Yu, Yv, Yw, Yx, Yy, Yz, Y10, Y11, Y12, Y13, Y14, Y15, Y16, Y17, Y18, Y19, Y1a, Y1b, Y1c, Y1d, Y1e, Y1f, Y1g, Y1h, Y1i, Y1j, Y1k, Y1l, AV.cells?, Y1n, Y1o, Y1p, Y1q, Y1r, Y1s, Y1t, Nat.reduceAdd, Nat.reduceMul, Y1w, Y1x, Y1y, Y1z, Y20, Y21, Y22, Y23, Y24, Y25, Y26, Y27, Y28, Y29, Y2a, Y2b]
    refine hR _ _ (.sub ?_)
    unfold LI Lm
    rw [h0]
    exact .nil
  · unfold F.slices_Clone_Lint_int
    simp only [Y0, Y1, Y2, Y3, Y4, Y5, Y6, Y7, Y8, Y9, Ya, Yb, Yc, Yd, Ye, Yf, Yg, Yh, Yi, Yj, Yk, Yl, Ym, Yn, Yo, Yp, Yq, Yr, Ys, Yt, Yu, Yv, Yw, Yx, Yy, Yz, Y10, Y11, Y12, Y13, Y14, Y15, Y16, Y17, Y18, Y19, Y1a, Y1b, Y1c, Y1d, Y1e, Y1f, Y1g, Y1h, Y1i, Y1j, Y1k, Y1l, AV.cells?, Y1n, Y1o, Y1p, Y1q, Y1r, Y1s, Y1t, Nat.reduceAdd, Nat.reduceMul, Y1w, Y1x, Y1y, Y1z, Y20, Y21, Y22, Y23, Y24, Y25, Y26, Y27, Y28, Y29, Y2a, Y2b]
    refine wNewS.T (l := []) rfl (.refl _) rfl ?_
    simp only [Y0, Y1, Y2, Y3, Y4, Y5, Y6, Y7, Y8, Y9, Ya, Yb, Yc, Yd, Ye, Yf, Yg, Yh, Yi, Yj, Yk, Yl, Ym, Yn, Yo, Yp, Yq, Yr, Ys, Yt, Yu, Yv, Yw, Yx, Yy, Yz, Y10, Y11, Y12, Y13, Y14, Y15, Y16, Y17, Y18, Y19, Y1a, Y1b, Y1c, Y1d, Y1e, Y1f, Y1g, Y1h, Y1i, Y1j, Y1k, Y1l, AV.cells?, Y1n, Y1o, Y1p, Y1q, Y1r, Y1s, Y1t, Nat.reduceAdd, Nat.reduceMul, Y1w, Y1x, Y1y, Y1z, Y20, Y21, Y22, Y23, Y24, Y25, Y26, Y27, Y28, Y29, Y2a, Y2b]
    refine wApp.gr (m := l.length) (new := l.map fun z => Z z) .mk rfl rfl (by simp [cellsOfA, subL, List.take_of_length_le]) (.refl _) (by simp [AV.scalar]) (by simp [mostBytes]; omega) fun z' x' c' hg' => ?_
    simp only [Y0, Y1, Y2, Y3, Y4, Y5, Y6, Y7, Y8, Y9, Ya, Yb, Yc, Yd, Ye, Yf, Yg, Yh, Yi, Yj, Yk, Yl, Ym, Yn, Yo, Yp, Yq, Yr, Ys, Yt, Yu, Yv, Yw, Yx, Yy, Yz, Y10, Y11, Y12, Y13, Y14, Y15, Y16, Y17, Y18, Y19, Y1a, Y1b, Y1c, Y1d, Y1e, Y1f, Y1g, Y1h, Y1i, Y1j, Y1k, Y1l, AV.cells?, Y1n, Y1o, Y1p, Y1q, Y1r, Y1s, Y1t, Nat.reduceAdd, Nat.reduceMul, Y1w, Y1x, Y1y, Y1z, Y20, Y21, Y22, Y23, Y24, Y25, Y26, Y27, Y28, Y29, Y2a, Y2b]
    refine hR _ _ (.sub ?_)
    have := hg'.sub
    simpa [LI, Lm] using this
end
end Go.Sc
