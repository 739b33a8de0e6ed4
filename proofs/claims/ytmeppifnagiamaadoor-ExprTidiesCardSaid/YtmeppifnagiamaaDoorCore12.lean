/- CONTRACTS: package signalboxref: an expression is made tidy. THE LAW ExprTidies, out of the contracts. (of the seat YtmeppifnagiamaaDoor) -/
import Derived.Test.YtmeppifnagiamaaDoorCore11
import Derived.Test.YtmeppifnagiamaaDoorProg
import Derived.KernelRfl
namespace Go.Sc
open Go
set_option linter.unusedSimpArgs false
set_option linter.unusedVariables false
set_option linter.unnecessarySimpa false

structure RefTidyBodies (E : Env) (P : Program) : Prop where
  t : RefTextBodies E P
  tidy : Body1 E P 171 F.pref_Expr_Tidy
  other : Body1 E P 174 F.pref_Expr_other
def kS (b : Bool) : Str := if b then [49] else [48]
def kkS (mode : Bool) : Str := if mode then [38] else [124]
theorem kind_k (x : Ex) (b : Bool) : x.kind = kS b ↔ x = .k b := by
  cases x with
  | k c => cases b <;> cases c <;> simp [Ex.kind, kS]
  | _ => cases b <;> simp [Ex.kind, kS]
theorem kind_kk (x : Ex) (mode : Bool) : x.kind = kkS mode ↔ kindOf mode x = true := by
  cases x with
  | k c => cases mode <;> cases c <;> simp [Ex.kind, kkS, kindOf, Ex.isAnd, Ex.isOr]
  | _ => cases mode <;> simp [Ex.kind, kkS, kindOf, Ex.isAnd, Ex.isOr]
theorem kind_not (x : Ex) : x.kind = [33] ↔ x.isNot = true := by
  cases x with
  | k c => cases c <;> simp [Ex.kind, Ex.isNot]
  | _ => simp [Ex.kind, Ex.isNot]
theorem mkT_ref (mode : Bool) (l : List Ex) : (mkT mode l).ref = .ptrF [S (kkS mode), S [], .slN (Ex.refL l) l.length] 0 := by cases mode <;> rfl
theorem k_ref (b : Bool) : (Ex.k b).ref = .ptrF [S (kS b), S [], nilS] 0 := rfl
section
variable {E : Env} {P : Program}
theorem other_spec (B : RefTidyBodies E P) (y : Ex) : FX E P 174 [y.ref] y.other.ref := by
  refine FX.of' ⟨Ex.ref_closed y, trivial⟩ (Ex.ref_closed _) fun n R hR => B.other _ _ _ ?_
  unfold F.pref_Expr_other
  have h1 : decide (y.kind = [33]) = y.isNot := by rw [Bool.eq_iff_iff, decide_eq_true_iff]; exact kind_not y
  rw [Ex.ref_eq y]
  simp only [nd0, Y1n, Y1o, Y1p, Y1q, Y1w, Y1x, Y1y, Y1z, Y20, Y21, Y28, Y2a, AV.cells?, Nat.reduceAdd, Nat.reduceMul, show (AV.val (.string ⟨#[33]⟩)) = S [33] from rfl, h1]
  by_cases hn : y.isNot = true
  · cases y with
    | not w =>
      simp only [nd0, Y1n, Y1o, Y1p, Y1q, Y1w, Y1x, Y1y, Y1z, Y20, Y21, Y28, Y2a, AV.cells?, Nat.reduceAdd, Nat.reduceMul, hn, Ex.of, show ∀ k : IntKind, iaddr 1 (.slN [w.ref] 1) (.val (.int k 0)) = some (.ptrF [w.ref] 0) from fun _ => rfl]
      exact hR _ _ rfl
    | _ => simp [Ex.isNot] at hn
  · rw [Bool.not_eq_true] at hn
    simp only [nd0, Y1n, Y1o, Y1p, Y1q, Y1w, Y1x, Y1y, Y1z, Y20, Y21, Y28, Y2a, AV.cells?, Nat.reduceAdd, Nat.reduceMul, hn]
    refine wNewS.F' (l := [y.ref]) (by rw [Ex.ref_eq]; rfl) rfl ?_
    simp only [nd0, Y1n, Y1o, Y1p, Y1q, Y1w, Y1x, Y1y, Y1z, Y20, Y21, Y28, Y2a, AV.cells?, Nat.reduceAdd, Nat.reduceMul, show fillA [S [], S [], nilS] [(0, 1, S [33]), (2, 1, .slN [y.ref] 1)] = some [S [33], S [], .slN [y.ref] 1] from rfl]
    refine wNew.F' rfl ?_
    refine hR _ _ ?_
    cases y with
    | not w => simp [Ex.isNot] at hn
    | _ => rfl
set_option maxHeartbeats 4000000 in
theorem rowT_spec (B : RefTidyBodies E P) (mode : Bool) (l : List Ex) (hl : ∀ x ∈ l, FX E P 171 [x.ref] x.tidy.ref) (hw : Ex.wtL l + 3 * l.length ≤ 900000) (hf : Ex.fineL l) : FX E P 171 [(mkT mode l).ref] (packT mode (Ex.tidyL mode l [])).ref := by
  refine FX.of ⟨Ex.ref_closed _, trivial⟩ (Ex.ref_closed _) fun n R hR => B.tidy _ _ _ ?_
  unfold F.pref_Expr_Tidy
  rw [mkT_ref]
  have hpw : ∀ x ∈ l, ∀ ps, pieces mode x.tidy = some ps → WtS (fun x => x.wt + 3) ps ≤ x.wt + 3 := fun x hx ps h => by
    have := pieces_wt h
    have := x.tidy_le
    omega
  have hlenS : ∀ m : List Ex, 3 * m.length ≤ WtS (fun x => x.wt + 3) m := fun m => by rw [wtL_S]; omega
  have hmemS : ∀ (m : List Ex) (y : Ex), y ∈ m → y.wt ≤ WtS (fun x => x.wt + 3) m := fun m y hy => by rw [wtL_S]; have := Ex.wt_mem hy; omega
  have hwl : WtS (fun x => x.wt + 3) l ≤ 900000 := by rw [wtL_S]; exact hw
  have d33 : decide (kkS mode = [33]) = false := by cases mode <;> rfl
  have d38 : decide (kkS mode = [38]) = mode := by cases mode <;> rfl
  have d124 : decide (kkS mode = [124]) = !mode := by cases mode <;> rfl
  have hall : ∀ (t : AV) (H : AH), t = S (kS (!mode)) → Ex.tidyL mode l [] = none → wAgg (fillA [S [], S [], nilS] [(0, 1, t)]) H fun t90 H => wNew 3 (AV.cells? t90) H fun t91 H => R t91 H := fun t H ht hz => by
    subst ht
    rw [show fillA [S [], S [], nilS] [(0, 1, S (kS (!mode)))] = some [S (kS (!mode)), S [], nilS] from rfl]
    simp only [nd0, Y1n, Y1o, Y1p, Y1q, Y1w, Y1x, Y1y, Y1z, Y20, Y21, Y28, Y2a, AV.cells?, Nat.reduceAdd, Nat.reduceMul]
    refine wNew.F' rfl ?_
    refine hR _ _ ?_
    rw [hz]
    exact .same _
  simp only [nd0, Y1n, Y1o, Y1p, Y1q, Y1w, Y1x, Y1y, Y1z, Y20, Y21, Y28, Y2a, AV.cells?, Nat.reduceAdd, Nat.reduceMul, show (AV.val (.string ⟨#[33]⟩)) = S [33] from rfl, d33]
  refine wJoin.one (fun t H => t = Bo true ∧ ∃ n, H = ⟨[], n⟩) ?_ ?_
  · simp only [nd0, Y1n, Y1o, Y1p, Y1q, Y1w, Y1x, Y1y, Y1z, Y20, Y21, Y28, Y2a, AV.cells?, Nat.reduceAdd, Nat.reduceMul, show (AV.val (.string ⟨#[38]⟩)) = S [38] from rfl, show (AV.val (.string ⟨#[124]⟩)) = S [124] from rfl, d38, d124]
    cases mode with
    | true => simp only [nd0, Y1n, Y1o, Y1p, Y1q, Y1w, Y1x, Y1y, Y1z, Y20, Y21, Y28, Y2a, AV.cells?, Nat.reduceAdd, Nat.reduceMul]; exact gh1.mk ⟨rfl, _, rfl⟩
    | false => simp only [nd0, Y1n, Y1o, Y1p, Y1q, Y1w, Y1x, Y1y, Y1z, Y20, Y21, Y28, Y2a, AV.cells?, Nat.reduceAdd, Nat.reduceMul]; exact gh1.mk ⟨rfl, _, rfl⟩
  rintro t H ⟨rfl, n1, rfl⟩
  simp only [nd0, Y1n, Y1o, Y1p, Y1q, Y1w, Y1x, Y1y, Y1z, Y20, Y21, Y28, Y2a, AV.cells?, Nat.reduceAdd, Nat.reduceMul]
  refine wJoin.two (fun t u H => t = S (kS mode) ∧ u = S (kS (!mode)) ∧ ∃ n, H = ⟨[], n⟩) ?_ ?_
  · cases mode with
    | true => simp only [nd0, Y1n, Y1o, Y1p, Y1q, Y1w, Y1x, Y1y, Y1z, Y20, Y21, Y28, Y2a, AV.cells?, Nat.reduceAdd, Nat.reduceMul, show decide ((kkS true) = [124]) = false from rfl]; exact gh2.mk ⟨rfl, rfl, _, rfl⟩
    | false => simp only [nd0, Y1n, Y1o, Y1p, Y1q, Y1w, Y1x, Y1y, Y1z, Y20, Y21, Y28, Y2a, AV.cells?, Nat.reduceAdd, Nat.reduceMul, show decide ((kkS false) = [124]) = true from rfl]; exact gh2.mk ⟨rfl, rfl, _, rfl⟩
  rintro t u H ⟨rfl, rfl, n2, rfl⟩
  refine wLoop.two (fun m t i H => ∃ pre rest acc z c, l = pre ++ rest ∧ i = Z pre.length ∧ m = rest.length ∧ Gr 1 z 0 t (Ex.refL acc) acc.length ∧ H = ⟨[z], c⟩ ∧ Ex.tidyL mode l [] = Ex.tidyL mode rest acc ∧ (∀ y ∈ acc, y.fine) ∧ acc.Pairwise Apt ∧ WtS (fun x => x.wt + 3) acc ≤ WtS (fun x => x.wt + 3) pre) l.length
    (gh2.of (ghost_room [.dead] (by simp)) ⟨[], l, [], .dead, n2, rfl, rfl, rfl, .nil, rfl, rfl, by simp, by simp, by simp [WtS]⟩) ?_
  rintro m t i H ⟨pre, rest, acc, z, c, hpr, rfl, rfl, hg, rfl, he, hfa, hpa, hwa⟩
  cases rest with
  | nil =>
    rw [List.append_nil] at hpr
    subst hpr
    simp only [Ex.tidyL] at he
    rw [he] at hR
    simp only [nd0, Y1n, Y1o, Y1p, Y1q, Y1w, Y1x, Y1y, Y1z, Y20, Y21, Y28, Y2a, AV.cells?, Nat.reduceAdd, Nat.reduceMul, Int.lt_irrefl, hg.len]
    match acc, hg, hR with
    | [], hg, hR =>
      simp only [nd0, Y1n, Y1o, Y1p, Y1q, Y1w, Y1x, Y1y, Y1z, Y20, Y21, Y28, Y2a, AV.cells?, Nat.reduceAdd, Nat.reduceMul, show decide (((([] : List Ex).length : Nat) : Int) = 0) = true from rfl, show fillA [S [], S [], nilS] [(0, 1, S (kS mode))] = some [S (kS mode), S [], nilS] from rfl, show decide (((0 : Nat) : Int) = 0) = true from rfl]
      refine wNew.F' rfl ?_
      exact hR _ _ (.same _)
    | [y], hg, hR =>
      simp only [nd0, Y1n, Y1o, Y1p, Y1q, Y1w, Y1x, Y1y, Y1z, Y20, Y21, Y28, Y2a, AV.cells?, Nat.reduceAdd, Nat.reduceMul, show decide (((1 : Nat) : Int) = 0) = false from rfl, show decide (((1 : Nat) : Int) = 1) = true from rfl]
      rw [hg.at (k := .i64) (i := 0) (by simp)]
      simp only [nd0, Y1n, Y1o, Y1p, Y1q, Y1w, Y1x, Y1y, Y1z, Y20, Y21, Y28, Y2a, AV.cells?, Nat.reduceAdd, Nat.reduceMul, show ((0 : Int).toNat * 1) = 0 from rfl, Ex.refL]
      exact hR _ _ (.same _)
    | y :: w :: r, hg, hR =>
      simp only [nd0, Y1n, Y1o, Y1p, Y1q, Y1w, Y1x, Y1y, Y1z, Y20, Y21, Y28, Y2a, AV.cells?, Nat.reduceAdd, Nat.reduceMul, decide_eq_false (show ¬ (((r.length + 1 + 1 : Nat) : Int) = 0) by omega), decide_eq_false (show ¬ (((r.length + 1 + 1 : Nat) : Int) = 1) by omega)]
      rw [show (AV.val (.string ⟨#[]⟩)) = S [] from rfl, fillA_one rfl (by simp), fillA_one hg.scalar (by simp)]
      simp only [nd0, Y1n, Y1o, Y1p, Y1q, Y1w, Y1x, Y1y, Y1z, Y20, Y21, Y28, Y2a, AV.cells?, Nat.reduceAdd, Nat.reduceMul, fillA_nil]
      refine wNew.F (l := [S (kkS mode), S [], t]) (l' := [S (kkS mode), S [], .slN (Ex.refL (y :: w :: r)) (y :: w :: r).length]) rfl (.cons (.refl _) (.cons (.refl _) (.one hg.sub))) ?_
      refine hR _ _ ?_
      rw [packT_mk _ _ (by simp), mkT_ref]
      exact .same _
  | cons x rest =>
    have hxm : x ∈ l := by rw [hpr]; simp
    have hlt : pre.length < l.length := by rw [hpr]; simp
    have hfx := Ex.tidy_fine (Ex.fine_mem hf hxm)
    have htx := x.tidy_td
    simp only [nd0, Y1n, Y1o, Y1p, Y1q, Y1w, Y1x, Y1y, Y1z, Y20, Y21, Y28, Y2a, AV.cells?, Nat.reduceAdd, Nat.reduceMul, decide_eq_true (show (pre.length : Int) < (l.length : Int) by omega)]
    rw [iaddr_Nn hlt]
    simp only [nd0, Y1n, Y1o, Y1p, Y1q, Y1w, Y1x, Y1y, Y1z, Y20, Y21, Y28, Y2a, AV.cells?, Nat.reduceAdd, Nat.reduceMul, show (Ex.refL l)[pre.length]? = some x.ref by rw [Ex.refL_map, hpr]; simp]
    refine wCall.fx (hl x hxm) fun n3 => ?_
    have hsum : WtS (fun x => x.wt + 3) pre + (x.wt + 3) ≤ 900000 := by
      have : WtS (fun x => x.wt + 3) l = WtS (fun x => x.wt + 3) pre + ((x.wt + 3) + WtS (fun x => x.wt + 3) rest) := by rw [hpr, WtS_append]; rfl
      omega
    have hpwx := hpw x hxm
    simp only [Ex.tidyL] at he
    generalize hT : x.tidy = tt at hfx htx he hpwx
    refine wNewS.F' (l := [tt.ref]) (fill1 (Ex.ref_scalar tt)) rfl ?_
    have hk1 : decide (tt.kind = kkS mode) = kindOf mode tt := by rw [Bool.eq_iff_iff, decide_eq_true_iff]; exact kind_kk tt mode
    have hld : ∀ H, load1 tt.ref H = some (S tt.kind) := fun H => by rw [Ex.ref_eq]; rfl
    have hld2 : ∀ H, (faddr 2 tt.ref).bind (fun a => load1 a H) = some tt.of := fun H => by rw [Ex.ref_eq]; rfl
    have hni : nilA tt.ref = some tt.ref := by rw [Ex.ref_eq]; rfl
    have hfa0 : faddr 0 tt.ref = some tt.ref := by rw [Ex.ref_eq]; rfl
    have hfa2 : faddr 2 tt.ref = some (.ptrF [S tt.kind, S tt.nm, tt.of] 2) := by rw [Ex.ref_eq]; rfl
    refine wJoin.one (fun t H => ∃ ps, t = .slN (Ex.refL ps) ps.length ∧ (tt.isK = false → pieces mode tt = some ps) ∧ ∃ n, H = ⟨[z], n⟩) ?_ ?_
    · simp only [nd0, Y1n, Y1o, Y1p, Y1q, Y1w, Y1x, Y1y, Y1z, Y20, Y21, Y28, Y2a, AV.cells?, Nat.reduceAdd, Nat.reduceMul, hni, hfa0, hld, hk1, hfa2]
      cases hkk : kindOf mode tt with
      | true =>
        simp only [nd0, Y1n, Y1o, Y1p, Y1q, Y1w, Y1x, Y1y, Y1z, Y20, Y21, Y28, Y2a, AV.cells?, Nat.reduceAdd, Nat.reduceMul]
        cases tt with
        | and l' => cases mode with
          | true => exact gh1.mk ⟨l', rfl, fun _ => rfl, _, rfl⟩
          | false => simp [kindOf, Ex.isOr] at hkk
        | or l' => cases mode with
          | false => exact gh1.mk ⟨l', rfl, fun _ => rfl, _, rfl⟩
          | true => simp [kindOf, Ex.isAnd] at hkk
        | _ => cases mode <;> simp [kindOf, Ex.isAnd, Ex.isOr] at hkk
      | false =>
        simp only [nd0, Y1n, Y1o, Y1p, Y1q, Y1w, Y1x, Y1y, Y1z, Y20, Y21, Y28, Y2a, AV.cells?, Nat.reduceAdd, Nat.reduceMul]
        exact gh1.mk ⟨[tt], rfl, fun h => pieces_one h hkk, _, rfl⟩
    rintro t10 H ⟨ps0, rfl, hps0, n4, rfl⟩
    refine wJoin.one (fun t H => ∃ ps, t = .slN (Ex.refL ps) ps.length ∧ (tt ≠ .k (!mode) → pieces mode tt = some ps) ∧ ∃ n, H = ⟨[z], n⟩) ?_ ?_
    · simp only [nd0, Y1n, Y1o, Y1p, Y1q, Y1w, Y1x, Y1y, Y1z, Y20, Y21, Y28, Y2a, AV.cells?, Nat.reduceAdd, Nat.reduceMul, hni, hfa0, hld]
      by_cases hkm : tt.kind = kS mode
      · have := (kind_k tt mode).1 hkm
        subst this
        simp only [nd0, Y1n, Y1o, Y1p, Y1q, Y1w, Y1x, Y1y, Y1z, Y20, Y21, Y28, Y2a, AV.cells?, Nat.reduceAdd, Nat.reduceMul, decide_eq_true hkm]
        exact gh1.of (ghost_sub (.one .nil)) ⟨[], rfl, fun _ => by simp [pieces], _, rfl⟩
      · simp only [nd0, Y1n, Y1o, Y1p, Y1q, Y1w, Y1x, Y1y, Y1z, Y20, Y21, Y28, Y2a, AV.cells?, Nat.reduceAdd, Nat.reduceMul, decide_eq_false hkm]
        refine gh1.mk ⟨ps0, rfl, fun h => hps0 ?_, _, rfl⟩
        have h1 := fun e => hkm ((kind_k tt mode).2 e)
        cases tt with
        | k b => cases b <;> cases mode <;> simp_all
        | _ => rfl
    rintro t10 H ⟨ps, rfl, hps, n5, rfl⟩
    simp only [nd0, Y1n, Y1o, Y1p, Y1q, Y1w, Y1x, Y1y, Y1z, Y20, Y21, Y28, Y2a, AV.cells?, Nat.reduceAdd, Nat.reduceMul, hni, hfa0, hld]
    by_cases hka : tt.kind = kS (!mode)
    · have htk := (kind_k tt (!mode)).1 hka
      simp only [nd0, Y1n, Y1o, Y1p, Y1q, Y1w, Y1x, Y1y, Y1z, Y20, Y21, Y28, Y2a, AV.cells?, Nat.reduceAdd, Nat.reduceMul, decide_eq_true hka]
      have hn : Ex.tidyL mode l [] = none := by rw [he, htk]; cases mode <;> simp [pieces]
      exact hall _ _ rfl hn
    simp only [nd0, Y1n, Y1o, Y1p, Y1q, Y1w, Y1x, Y1y, Y1z, Y20, Y21, Y28, Y2a, AV.cells?, Nat.reduceAdd, Nat.reduceMul, decide_eq_false hka]
    have hps := hps (fun e => hka ((kind_k tt (!mode)).2 e))
    rw [hps] at he
    simp only at he
    have hpf := pieces_fine hps hfx
    have hpt := pieces_td hps htx
    have hpw1 := hpwx ps hps
    refine wLoop.two (fun m t i H => ∃ pre' rest' acc1 z c, ps = pre' ++ rest' ∧ i = Z pre'.length ∧ m = rest'.length ∧ Gr 1 z 0 t (Ex.refL acc1) acc1.length ∧ H = ⟨[z], c⟩ ∧ addAll acc ps = addAll acc1 rest' ∧ (∀ y ∈ acc1, y.fine) ∧ acc1.Pairwise Apt ∧ WtS (fun x => x.wt + 3) acc1 ≤ WtS (fun x => x.wt + 3) acc + WtS (fun x => x.wt + 3) pre') ps.length
      (gh2.mk ⟨[], ps, acc, z, n5, rfl, rfl, rfl, hg, rfl, rfl, hfa, hpa, by simp [WtS]⟩) ?_
    rintro m1 t1 i1 H1 ⟨pre', rest', acc1, z1, c1, hpr1, rfl, rfl, hg1, rfl, he1, hfa1, hpa1, hwa1⟩
    cases rest' with
    | nil =>
      rw [List.append_nil] at hpr1
      subst hpr1
      simp only [addAll] at he1
      rw [he1] at he
      simp only at he
      simp only [nd0, Y1n, Y1o, Y1p, Y1q, Y1w, Y1x, Y1y, Y1z, Y20, Y21, Y28, Y2a, AV.cells?, Nat.reduceAdd, Nat.reduceMul, Int.lt_irrefl]
      rw [binA_succ (by omega)]
      simp only [nd0, Y1n, Y1o, Y1p, Y1q, Y1w, Y1x, Y1y, Y1z, Y20, Y21, Y28, Y2a, AV.cells?, Nat.reduceAdd, Nat.reduceMul]
      refine back2.mk rest.length (by simp) ⟨pre ++ [x], rest, acc1, z1, c1, by rw [hpr]; simp, by simp, rfl, hg1, rfl, he, hfa1, hpa1, ?_⟩
      rw [WtS_append]
      simp only [WtS]
      omega
    | cons y rest' =>
      have hym : y ∈ ps := by rw [hpr1]; simp
      have hlt1 : pre'.length < ps.length := by rw [hpr1]; simp
      have hyf := hpf y hym
      have hyt := (hpt y hym).1
      have hyw := hmemS ps y hym
      have hps3 := hlenS ps
      have hacc3 := hlenS acc1
      have hsum1 : WtS (fun x => x.wt + 3) pre' + (y.wt + 3) ≤ WtS (fun x => x.wt + 3) ps := by
        rw [hpr1, WtS_append]; simp only [WtS]; omega
      have hra := refAdd_eq hfa1 hpa1 hyf hyt
      have he2 : addAll acc1 (y :: rest') = match addP acc1 y with
        | none => none
        | some l' => addAll l' rest' := by rw [addAll] <;> (cases addP acc1 y <;> rfl)
      rw [he2] at he1
      simp only [nd0, Y1n, Y1o, Y1p, Y1q, Y1w, Y1x, Y1y, Y1z, Y20, Y21, Y28, Y2a, AV.cells?, Nat.reduceAdd, Nat.reduceMul, decide_eq_true (show (pre'.length : Int) < (ps.length : Int) by omega)]
      refine wJoin.one (fun t H => ∃ acc2 z c, Gr 1 z 0 t (Ex.refL acc2) acc2.length ∧ H = ⟨[z], c⟩ ∧ addP acc1 y = some acc2) ?_ ?_
      case refine_2 =>
        rintro t2 H2 ⟨acc2, z2, c2, hg2, rfl, ha2⟩
        rw [ha2] at he1
        simp only at he1
        rw [binA_succ (by omega)]
        simp only [nd0, Y1n, Y1o, Y1p, Y1q, Y1w, Y1x, Y1y, Y1z, Y20, Y21, Y28, Y2a, AV.cells?, Nat.reduceAdd, Nat.reduceMul]
        have hs2 := addP_sub ha2
        refine back2.mk rest'.length (by simp) ⟨pre' ++ [y], rest', acc2, z2, c2, by rw [hpr1]; simp, by simp, rfl, hg2, rfl, he1, ?_, addP_pw ha2 hpa1, ?_⟩
        · rcases hs2 with rfl | rfl
          · exact hfa1
          · intro w hw'
            rcases List.mem_append.1 hw' with hw' | hw'
            · exact hfa1 w hw'
            · simp at hw'; subst hw'; exact hyf
        · rw [WtS_append]
          rcases hs2 with rfl | rfl
          · simp only [WtS]; omega
          · rw [WtS_append]; simp only [WtS]; omega
      rw [iaddr_Nn hlt1]
      simp only [nd0, Y1n, Y1o, Y1p, Y1q, Y1w, Y1x, Y1y, Y1z, Y20, Y21, Y28, Y2a, AV.cells?, Nat.reduceAdd, Nat.reduceMul, show (Ex.refL ps)[pre'.length]? = some y.ref by rw [Ex.refL_map, hpr1]; simp, hg1.len]
      refine wLoop.two (fun m b i H => ∃ pr re c, acc1 = pr ++ re ∧ i = Z pr.length ∧ m = re.length ∧ b = Bo (hasT pr (y.wr 0)) ∧ (∀ w ∈ pr, w.wr 0 ≠ y.other.wr 0) ∧ H = ⟨[z1], c⟩) acc1.length (gh2.mk ⟨[], acc1, c1, rfl, rfl, rfl, rfl, by simp, rfl⟩) ?_
      rintro m2 b i2 H2 ⟨pr, re, c2, hpr2, rfl, rfl, rfl, hno, rfl⟩
      have hyo : y.other.wt ≤ y.wt + 1 := by cases y <;> simp only [Ex.other, Ex.wt] <;> omega
      cases re with
      | nil =>
        rw [List.append_nil] at hpr2
        subst hpr2
        have h2 : hasT acc1 (y.other.wr 0) = false := hasT_false.2 hno
        simp only [nd0, Y1n, Y1o, Y1p, Y1q, Y1w, Y1x, Y1y, Y1z, Y20, Y21, Y28, Y2a, AV.cells?, Nat.reduceAdd, Nat.reduceMul, Int.lt_irrefl]
        cases hh : hasT acc1 (y.wr 0) with
        | true =>
          simp only [nd0, Y1n, Y1o, Y1p, Y1q, Y1w, Y1x, Y1y, Y1z, Y20, Y21, Y28, Y2a, AV.cells?, Nat.reduceAdd, Nat.reduceMul]
          refine gh1.mk ⟨acc1, z1, c2, hg1, rfl, ?_⟩
          unfold addP; rw [hh]; rfl
        | false =>
          simp only [nd0, Y1n, Y1o, Y1p, Y1q, Y1w, Y1x, Y1y, Y1z, Y20, Y21, Y28, Y2a, AV.cells?, Nat.reduceAdd, Nat.reduceMul]
          refine wNewS.F' (l := [y.ref]) (fill1 (Ex.ref_scalar y)) rfl ?_
          refine wApp.one hg1 rfl (Ex.refL_len acc1) (.refl _) (Ex.ref_scalar y) (by simp [mostBytes]; omega) fun z' x' c3 k0 => ?_
          simp only [nd0, Y1n, Y1o, Y1p, Y1q, Y1w, Y1x, Y1y, Y1z, Y20, Y21, Y28, Y2a, AV.cells?, Nat.reduceAdd, Nat.reduceMul]
          refine gh1.mk ⟨acc1 ++ [y], z', c3, by rw [Ex.refL_snoc, List.length_append]; exact k0, rfl, ?_⟩
          unfold addP; rw [hh, h2]; rfl
      | cons w re =>
        have hwm : w ∈ acc1 := by rw [hpr2]; simp
        have hlt2 : pr.length < acc1.length := by rw [hpr2]; simp
        have hww := hmemS acc1 w hwm
        have htw : FX E P 128 [w.ref] (S (w.wr 0)) := refText_spec B.t _ w (Nat.lt_succ_self _) (by omega) (hfa1 w hwm)
        simp only [nd0, Y1n, Y1o, Y1p, Y1q, Y1w, Y1x, Y1y, Y1z, Y20, Y21, Y28, Y2a, AV.cells?, Nat.reduceAdd, Nat.reduceMul, decide_eq_true (show (pr.length : Int) < (acc1.length : Int) by omega)]
        rw [hg1.at (k := .i64) (i := pr.length) (by omega)]
        simp only [nd0, Y1n, Y1o, Y1p, Y1q, Y1w, Y1x, Y1y, Y1z, Y20, Y21, Y28, Y2a, AV.cells?, Nat.reduceAdd, Nat.reduceMul, show (Ex.refL acc1)[((pr.length : Int)).toNat * 1]? = some w.ref by rw [Ex.refL_map, hpr2]; simp, show (Ex.refL acc1)[pr.length]? = some w.ref by rw [Ex.refL_map, hpr2]; simp]
        refine wCall.fx htw fun n6 => ?_
        refine wCall.fx (other_spec B y) fun n7 => ?_
        refine wCall.fx (refText_spec B.t _ y.other (Nat.lt_succ_self _) (by omega) (other_fine hyf)) fun n8 => ?_
        simp only [nd0, Y1n, Y1o, Y1p, Y1q, Y1w, Y1x, Y1y, Y1z, Y20, Y21, Y28, Y2a, AV.cells?, Nat.reduceAdd, Nat.reduceMul]
        by_cases ho : w.wr 0 = y.other.wr 0
        · simp only [nd0, Y1n, Y1o, Y1p, Y1q, Y1w, Y1x, Y1y, Y1z, Y20, Y21, Y28, Y2a, AV.cells?, Nat.reduceAdd, Nat.reduceMul, decide_eq_true ho]
          have hh : hasT acc1 (y.other.wr 0) = true := by rw [← ho]; exact hasT_of hwm
          have hn : addP acc1 y = none := by rw [← hra]; unfold refAdd; rw [if_pos hh]
          rw [hn] at he1
          simp only at he1
          rw [he1] at he
          exact hall _ _ rfl he
        simp only [nd0, Y1n, Y1o, Y1p, Y1q, Y1w, Y1x, Y1y, Y1z, Y20, Y21, Y28, Y2a, AV.cells?, Nat.reduceAdd, Nat.reduceMul, decide_eq_false ho]
        have hnext : ∀ n, back2 (fun m b i H => ∃ pr re c, acc1 = pr ++ re ∧ i = Z pr.length ∧ m = re.length ∧ b = Bo (hasT pr (y.wr 0)) ∧ (∀ w ∈ pr, w.wr 0 ≠ y.other.wr 0) ∧ H = ⟨[z1], c⟩) (w :: re).length (Bo (hasT pr (y.wr 0) || decide (w.wr 0 = y.wr 0))) (Z ((pr.length + 1 : Nat) : Int)) ⟨[z1], n⟩ := fun n =>
          back2.mk re.length (by simp) ⟨pr ++ [w], re, n, by rw [hpr2]; simp, by simp, rfl, by simp [hasT], fun v hv => by
            rcases List.mem_append.1 hv with hv | hv
            · exact hno v hv
            · simp at hv; subst hv; exact ho, rfl⟩
        cases hp : hasT pr (y.wr 0) with
        | true =>
          simp only [nd0, Y1n, Y1o, Y1p, Y1q, Y1w, Y1x, Y1y, Y1z, Y20, Y21, Y28, Y2a, AV.cells?, Nat.reduceAdd, Nat.reduceMul]
          rw [binA_succ (by omega)]
          simp only [nd0, Y1n, Y1o, Y1p, Y1q, Y1w, Y1x, Y1y, Y1z, Y20, Y21, Y28, Y2a, AV.cells?, Nat.reduceAdd, Nat.reduceMul]
          have := hnext n8
          rw [hp] at this
          exact this
        | false =>
          simp only [nd0, Y1n, Y1o, Y1p, Y1q, Y1w, Y1x, Y1y, Y1z, Y20, Y21, Y28, Y2a, AV.cells?, Nat.reduceAdd, Nat.reduceMul]
          refine wCall.fx htw fun n9 => ?_
          simp only [nd0, Y1n, Y1o, Y1p, Y1q, Y1w, Y1x, Y1y, Y1z, Y20, Y21, Y28, Y2a, AV.cells?, Nat.reduceAdd, Nat.reduceMul]
          refine wCall.fx (refText_spec B.t _ y (Nat.lt_succ_self _) (by omega) hyf) fun n10 => ?_
          simp only [nd0, Y1n, Y1o, Y1p, Y1q, Y1w, Y1x, Y1y, Y1z, Y20, Y21, Y28, Y2a, AV.cells?, Nat.reduceAdd, Nat.reduceMul]
          rw [binA_succ (by omega)]
          simp only [nd0, Y1n, Y1o, Y1p, Y1q, Y1w, Y1x, Y1y, Y1z, Y20, Y21, Y28, Y2a, AV.cells?, Nat.reduceAdd, Nat.reduceMul]
          have := hnext n10
          rw [hp] at this
          exact this
end
end Go.Sc
namespace Go.Sc
open Go
set_option linter.unusedSimpArgs false
set_option linter.unusedVariables false
set_option linter.unnecessarySimpa false

section
variable {E : Env} {P : Program}
set_option maxHeartbeats 2000000 in
theorem refTidy_spec (B : RefTidyBodies E P) : ∀ (n : Nat) (x : Ex), x.wt < n → x.wt ≤ 900000 → x.fine → FX E P 171 [x.ref] x.tidy.ref := by
  intro n
  induction n with
  | zero => intro x h; omega
  | succ n ih =>
    intro x hx hw hf
    have atom : x.kind ≠ [33] → x.kind ≠ [38] → x.kind ≠ [124] → x.tidy = x → FX E P 171 [x.ref] x.tidy.ref := fun h1 h2 h3 h4 => by
      rw [h4]
      refine FX.of' ⟨Ex.ref_closed x, trivial⟩ (Ex.ref_closed _) fun c R hR => B.tidy _ _ _ ?_
      unfold F.pref_Expr_Tidy
      rw [Ex.ref_eq x] at hR ⊢
      simp only [nd0, Y1n, Y1o, Y1p, Y1q, Y1w, Y1x, Y1y, Y1z, Y20, Y21, Y28, Y2a, AV.cells?, Nat.reduceAdd, Nat.reduceMul, show (AV.val (.string ⟨#[33]⟩)) = S [33] from rfl, decide_eq_false h1]
      refine wJoin.one (fun t H => t = Bo false ∧ ∃ n, H = ⟨[], n⟩) ?_ ?_
      · simp only [nd0, Y1n, Y1o, Y1p, Y1q, Y1w, Y1x, Y1y, Y1z, Y20, Y21, Y28, Y2a, AV.cells?, Nat.reduceAdd, Nat.reduceMul, show (AV.val (.string ⟨#[38]⟩)) = S [38] from rfl, show (AV.val (.string ⟨#[124]⟩)) = S [124] from rfl, decide_eq_false h2, decide_eq_false h3]
        exact gh1.mk ⟨rfl, _, rfl⟩
      · rintro t H ⟨rfl, n, rfl⟩
        simp only [nd0, Y1n, Y1o, Y1p, Y1q, Y1w, Y1x, Y1y, Y1z, Y20, Y21, Y28, Y2a, AV.cells?, Nat.reduceAdd, Nat.reduceMul]
        exact hR _ _ rfl
    cases x with
    | k b => exact atom (by cases b <;> decide) (by cases b <;> decide) (by cases b <;> decide) rfl
    | bit b => exact atom (by simp [Ex.kind]) (by simp [Ex.kind]) (by simp [Ex.kind]) rfl
    | rise b => exact atom (by simp [Ex.kind]) (by simp [Ex.kind]) (by simp [Ex.kind]) rfl
    | fall b => exact atom (by simp [Ex.kind]) (by simp [Ex.kind]) (by simp [Ex.kind]) rfl
    | and l =>
      simp only [Ex.wt] at hx hw
      exact rowT_spec B true l (fun y hy => ih y (by have := Ex.wt_mem hy; omega) (by have := Ex.wt_mem hy; omega) (Ex.fine_mem hf.2 hy)) (by omega) hf.2
    | or l =>
      simp only [Ex.wt] at hx hw
      exact rowT_spec B false l (fun y hy => ih y (by have := Ex.wt_mem hy; omega) (by have := Ex.wt_mem hy; omega) (Ex.fine_mem hf.2 hy)) (by omega) hf.2
    | not y =>
      simp only [Ex.wt] at hx hw
      refine FX.of' ⟨Ex.ref_closed _, trivial⟩ (Ex.ref_closed _) fun c R hR => B.tidy _ _ _ ?_
      unfold F.pref_Expr_Tidy
      simp only [Ex.ref]
      simp only [nd0, Y1n, Y1o, Y1p, Y1q, Y1w, Y1x, Y1y, Y1z, Y20, Y21, Y28, Y2a, AV.cells?, Nat.reduceAdd, Nat.reduceMul, show ∀ k : IntKind, iaddr 1 (.slN [y.ref] 1) (.val (.int k 0)) = some (.ptrF [y.ref] 0) from fun _ => rfl]
      refine wCall.fx (ih y (by omega) (by omega) hf) fun n2 => ?_
      simp only [Ex.tidy] at hR
      generalize y.tidy = t at hR
      have hld : ∀ H, load1 t.ref H = some (S t.kind) := fun H => by rw [Ex.ref_eq]; rfl
      have hni : nilA t.ref = some t.ref := by rw [Ex.ref_eq]; rfl
      have hfa0 : faddr 0 t.ref = some t.ref := by rw [Ex.ref_eq]; rfl
      simp only [nd0, Y1n, Y1o, Y1p, Y1q, Y1w, Y1x, Y1y, Y1z, Y20, Y21, Y28, Y2a, AV.cells?, Nat.reduceAdd, Nat.reduceMul, hni, hfa0, hld, show (AV.val (.string ⟨#[48]⟩)) = S (kS false) from rfl, show (AV.val (.string ⟨#[49]⟩)) = S (kS true) from rfl]
      by_cases h0 : t.kind = kS false
      · have := (kind_k t false).1 h0
        subst this
        simp only [nd0, Y1n, Y1o, Y1p, Y1q, Y1w, Y1x, Y1y, Y1z, Y20, Y21, Y28, Y2a, AV.cells?, Nat.reduceAdd, Nat.reduceMul, decide_eq_true h0, show fillA [S [], S [], nilS] [(0, 1, S (kS true))] = some [S (kS true), S [], nilS] from rfl]
        refine wNew.F' rfl ?_
        exact hR _ _ rfl
      simp only [nd0, Y1n, Y1o, Y1p, Y1q, Y1w, Y1x, Y1y, Y1z, Y20, Y21, Y28, Y2a, AV.cells?, Nat.reduceAdd, Nat.reduceMul, decide_eq_false h0]
      by_cases h1 : t.kind = kS true
      · have := (kind_k t true).1 h1
        subst this
        simp only [nd0, Y1n, Y1o, Y1p, Y1q, Y1w, Y1x, Y1y, Y1z, Y20, Y21, Y28, Y2a, AV.cells?, Nat.reduceAdd, Nat.reduceMul, decide_eq_true h1, show fillA [S [], S [], nilS] [(0, 1, S (kS false))] = some [S (kS false), S [], nilS] from rfl]
        refine wNew.F' rfl ?_
        exact hR _ _ rfl
      simp only [nd0, Y1n, Y1o, Y1p, Y1q, Y1w, Y1x, Y1y, Y1z, Y20, Y21, Y28, Y2a, AV.cells?, Nat.reduceAdd, Nat.reduceMul, decide_eq_false h1]
      refine wCall.fx (other_spec B t) fun n3 => ?_
      refine hR _ _ ?_
      cases t with
      | k b => cases b
               · exact absurd rfl h0
               · exact absurd rfl h1
      | _ => rfl
end

structure TidiesBodies (E : Env) (P : Program) : Prop where
  e : ExprBodies E P
  t : TidyBodies E P
  rt : RefTidyBodies E P
  read : Body1 E P 169 F.law_read
/-- what 'read' answers -/
def readA (s : Str) : AV := if 1000 < s.length then .tup [nilE, nilP, Bo false] else match parseR s with
  | .ok x _ => .tup [x.enc, x.ref, Bo true]
  | .no _ _ => .tup [nilE, nilP, Bo false]
theorem readA_closed (s : Str) : (readA s).closed := by
  unfold readA
  split
  · exact ⟨trivial, trivial, trivial, trivial⟩
  split
  · exact ⟨Ex.enc_closed _, Ex.ref_closed _, trivial, trivial⟩
  · exact ⟨trivial, trivial, trivial, trivial⟩
section
variable {E : Env} {P : Program}
theorem read_spec (e : ExprBodies E P) (hB : Body1 E P 169 F.law_read) (s : Str) : FX E P 169 [S s] (readA s) := by
  refine FX.of' ⟨trivial, trivial⟩ (readA_closed s) fun n R hR => hB _ _ _ ?_
  unfold F.law_read
  unfold readA at hR
  simp only [nd0, Y1n, Y1o, Y1p, Y1q, Y1w, Y1x, Y1y, Y1z, Y20, Y21, Y28, Y2a, AV.cells?, Nat.reduceAdd, Nat.reduceMul]
  by_cases hl : 1000 < s.length
  · rw [if_pos hl] at hR
    simp only [nd0, Y1n, Y1o, Y1p, Y1q, Y1w, Y1x, Y1y, Y1z, Y20, Y21, Y28, Y2a, AV.cells?, Nat.reduceAdd, Nat.reduceMul, decide_eq_true (show (1000 : Int) < (s.length : Int) by omega)]
    exact hR _ _ rfl
  rw [if_neg hl] at hR
  simp only [nd0, Y1n, Y1o, Y1p, Y1q, Y1w, Y1x, Y1y, Y1z, Y20, Y21, Y28, Y2a, AV.cells?, Nat.reduceAdd, Nat.reduceMul, decide_eq_false (show ¬ (1000 : Int) < (s.length : Int) by omega)]
  refine wCall.fx (ExprParse_spec e.r s) fun n => ?_
  have hpar := Parse_spec e.p s
  unfold parseA at hpar
  unfold refParseA
  rw [if_neg (by omega)] at hpar
  rw [if_neg (by omega)]
  cases hp : parseR s with
  | no e p =>
    have he := parseR_err hp
    rw [hp] at hR
    simp only [nd0, Y1n, Y1o, Y1p, Y1q, Y1w, Y1x, Y1y, Y1z, Y20, Y21, Y28, Y2a, AV.cells?, Nat.reduceAdd, Nat.reduceMul]
    refine wNew.L (l := [Z 0, Z 0]) rfl ?_
    simp only [nd0, Y1n, Y1o, Y1p, Y1q, Y1w, Y1x, Y1y, Y1z, Y20, Y21, Y28, Y2a, AV.cells?, Nat.reduceAdd, Nat.reduceMul]
    rw [storeN_L (n := 2) (xs := [Z e, Z p]) rfl rfl]
    simp only [nd0, Y1n, Y1o, Y1p, Y1q, Y1w, Y1x, Y1y, Y1z, Y20, Y21, Y28, Y2a, AV.cells?, Nat.reduceAdd, Nat.reduceMul, put_two, decide_eq_false (show ¬ (e : Int) = 0 by omega)]
    exact hR _ _ rfl
  | ok x j =>
    rw [hp] at hpar hR
    simp only [nd0, Y1n, Y1o, Y1p, Y1q, Y1w, Y1x, Y1y, Y1z, Y20, Y21, Y28, Y2a, AV.cells?, Nat.reduceAdd, Nat.reduceMul]
    refine wNew.L (l := [Z 0, Z 0]) rfl ?_
    simp only [nd0, Y1n, Y1o, Y1p, Y1q, Y1w, Y1x, Y1y, Y1z, Y20, Y21, Y28, Y2a, AV.cells?, Nat.reduceAdd, Nat.reduceMul]
    rw [storeN_L (n := 2) (xs := [Z 0, Z (-1)]) rfl rfl]
    simp only [nd0, Y1n, Y1o, Y1p, Y1q, Y1w, Y1x, Y1y, Y1z, Y20, Y21, Y28, Y2a, AV.cells?, Nat.reduceAdd, Nat.reduceMul, put_two, show decide ((0 : Int) = 0) = true from rfl]
    refine wCall.fx hpar fun n => ?_
    simp only [nd0, Y1n, Y1o, Y1p, Y1q, Y1w, Y1x, Y1y, Y1z, Y20, Y21, Y28, Y2a, AV.cells?, Nat.reduceAdd, Nat.reduceMul]
    exact hR _ _ rfl
theorem ExprTidies_body (B : TidiesBodies E P) (s : Str) (n : Nat) : F.law_ExprTidies E P (S s) ⟨[], n⟩ (fun r _ => r = Bo true) := by
  unfold F.law_ExprTidies
  refine wCall.fx (read_spec B.e B.read s) fun n => ?_
  unfold readA
  by_cases hl : 1000 < s.length
  · rw [if_pos hl]
    simp only [nd0, Y1n, Y1o, Y1p, Y1q, Y1w, Y1x, Y1y, Y1z, Y20, Y21, Y28, Y2a, AV.cells?, Nat.reduceAdd, Nat.reduceMul]
  rw [if_neg hl]
  cases hp : parseR s with
  | no e p => simp only [nd0, Y1n, Y1o, Y1p, Y1q, Y1w, Y1x, Y1y, Y1z, Y20, Y21, Y28, Y2a, AV.cells?, Nat.reduceAdd, Nat.reduceMul]
  | ok x j =>
    obtain ⟨hw, hf⟩ := parseR_good hp
    have hft := Ex.tidy_fine hf
    have hwt := x.tidy_le
    simp only [nd0, Y1n, Y1o, Y1p, Y1q, Y1w, Y1x, Y1y, Y1z, Y20, Y21, Y28, Y2a, AV.cells?, Nat.reduceAdd, Nat.reduceMul, Ex.enc_nil]
    refine wCall.fx (Tidy_spec B.t (x.wt + 1) x (by omega) (by omega) hf) fun n => ?_
    simp only [nd0, Y1n, Y1o, Y1p, Y1q, Y1w, Y1x, Y1y, Y1z, Y20, Y21, Y28, Y2a, AV.cells?, Nat.reduceAdd, Nat.reduceMul]
    refine wCall.fx (Text_spec B.e.w x.tidy (by omega) hft) fun n => ?_
    simp only [nd0, Y1n, Y1o, Y1p, Y1q, Y1w, Y1x, Y1y, Y1z, Y20, Y21, Y28, Y2a, AV.cells?, Nat.reduceAdd, Nat.reduceMul]
    refine wCall.fx (refTidy_spec B.rt (x.wt + 1) x (by omega) (by omega) hf) fun n => ?_
    simp only [nd0, Y1n, Y1o, Y1p, Y1q, Y1w, Y1x, Y1y, Y1z, Y20, Y21, Y28, Y2a, AV.cells?, Nat.reduceAdd, Nat.reduceMul]
    refine wCall.fx (refText_spec B.e.t _ x.tidy (Nat.lt_succ_self _) (by omega) hft) fun n => ?_
    simp only [nd0, Y1n, Y1o, Y1p, Y1q, Y1w, Y1x, Y1y, Y1z, Y20, Y21, Y28, Y2a, AV.cells?, Nat.reduceAdd, Nat.reduceMul, decide_eq_true (show Ex.wr 0 x.tidy = Ex.wr 0 x.tidy from rfl)]
end
end Go.Sc
namespace Go.Sc.F
open Go Go.Sc
set_option linter.unusedVariables false

/-- signalbox/signalboxkeep.LassoPush -/
def keep_LassoPush (E : Env) (P : Program) (a0 a1 : AV) (H : AH) (R : Kt) : Prop :=
  wNew 2 (AV.cells? a0) H fun t2 H =>
  wGet (lenA a1) H fun t14 H =>
  wGet (binA .gtr t14 (.val (.int .i64 14))) H fun t15 H =>
  wGuard t15 false H (fun k => wGet (faddr 0 t2) H k) fun t17 H =>
  wGuard t15 false H (fun k => wGet (load1 t17 H) H k) fun t18 H =>
  wGuard t15 false H (fun k => wGet (lenA t18) H k) fun t19 H =>
  wGuard t15 false H (fun k => wGet (faddr 1 t2) H k) fun t20 H =>
  wGuard t15 false H (fun k => wGet (load1 t20 H) H k) fun t21 H =>
  wGuard t15 false H (fun k => wGet (lenA t21) H k) fun t22 H =>
  wGuard t15 false H (fun k => wGet (binA .add t19 t22) H k) fun t23 H =>
  wGuard t15 false H (fun k => wGet (binA .gtr t23 (.val (.int .i64 30))) H k) fun t24 H =>
  wGet (pickA t15 (.val (.bool true)) t24) H fun t25 H =>
  wIf t25 (
    R (.val (.bool true)) H) (
    wCall E P 26 [a1] H fun t27 H =>
    wCall E P 113 [t27] H fun t30 H =>
    wGet (extractA t30 0) H fun t31 H =>
    wGet (extractA t30 1) H fun t32 H =>
    wCall E P 28 [] H fun t33 H =>
    wGet (unA .not t33) H fun t34 H =>
    wGuard t34 false H (fun k => k t32 H) fun t36 H =>
    wGuard t34 false H (fun k => wBool (eqA .iface t36 (.val (.nilIface))) H true k) fun t37 H =>
    wGet (pickA t34 (.val (.bool true)) t37) H fun t38 H =>
    wGuard t38 false H (fun k => k t31 H) fun t40 H =>
    wGuard t38 false H (fun k => wCall E P 32 [t40] H k) fun t41 H =>
    wGuard t38 false H (fun k => wBool (eqA .iface t41 (.val (.nilIface))) H true k) fun t42 H =>
    wGet (pickA t38 (.val (.bool true)) t42) H fun t43 H =>
    wIf t43 (
      wCall E P 28 [] H fun t44 H =>
      wGuard t44 true H (fun k => k t32 H) fun t46 H =>
      wGuard t44 true H (fun k => wBool (eqA .iface t46 (.val (.nilIface))) H true k) fun t47 H =>
      wGuard t44 true H (fun k => k t47 H) fun t48 H =>
      wGuard t48 false H (fun k => k t31 H) fun t49 H =>
      wGuard t48 false H (fun k => wBool (eqA .ptr t49 (.val (.pointer none))) H true k) fun t50 H =>
      wGuard t44 true H (fun k => wGet (pickA t48 (.val (.bool true)) t50) H k) fun t51 H =>
      wGet (pickA t44 t51 (.val (.bool false))) H fun t52 H =>
      R t52 H) (
      wGet (loadN 2 t2 H) H fun t54 H =>
      wCall E P 27 [t54, t27] H fun t56 H =>
      wGet (extractA t56 0) H fun t57 H =>
      wGet (extractA t56 1) H fun t58 H =>
      wGet (loadN 2 t2 H) H fun t60 H =>
      wCall E P 27 [t60, t31] H fun t62 H =>
      wGet (extractA t62 0) H fun t63 H =>
      wGet (extractA t62 1) H fun t64 H =>
      wBool (eqA .iface t58 (.val (.nilIface))) H true fun t66 H =>
      wGuard t66 false H (fun k => k t64 H) fun t68 H =>
      wGuard t66 false H (fun k => wBool (eqA .iface t68 (.val (.nilIface))) H true k) fun t69 H =>
      wGet (pickA t66 (.val (.bool true)) t69) H fun t70 H =>
      wIf t70 (
        wBool (eqA .iface t58 (.val (.nilIface))) H true fun t72 H =>
        wGuard t72 true H (fun k => k t64 H) fun t74 H =>
        wGuard t72 true H (fun k => wBool (eqA .iface t74 (.val (.nilIface))) H true k) fun t75 H =>
        wGet (pickA t72 t75 (.val (.bool false))) H fun t76 H =>
        R t76 H) (
        wCall E P 113 [t31] H fun t79 H =>
        wGet (extractA t79 0) H fun t80 H =>
        wGet (extractA t79 1) H fun t81 H =>
        wCall E P 34 [t57, t63] H fun t84 H =>
        wGuard t84 true H (fun k => k t81 H) fun t86 H =>
        wGuard t84 true H (fun k => wBool (eqA .iface t86 (.val (.nilIface))) H false k) fun t87 H =>
        wGet (pickA t84 t87 (.val (.bool false))) H fun t88 H =>
        wGuard t88 true H (fun k => k t80 H) fun t90 H =>
        wGuard t88 true H (fun k => wCall E P 114 [t90] H k) fun t91 H =>
        wGuard t88 true H (fun k => k t31 H) fun t92 H =>
        wGuard t88 true H (fun k => wCall E P 114 [t92] H k) fun t93 H =>
        wGuard t88 true H (fun k => wGet (binA .eql t91 t93) H k) fun t94 H =>
        wGet (pickA t88 t94 (.val (.bool false))) H fun t95 H =>
        R t95 H)))

/-- signalbox/lasso.Push -/
def lasso_Push (E : Env) (P : Program) (a0 : AV) (H : AH) (R : Kt) : Prop :=
  wCall E P 32 [a0] H fun t6 H =>
  wBool (eqA .iface t6 (.val (.nilIface))) H true fun t8 H =>
  wIf t8 (
    R (.tup [(.val (.pointer none)), t6]) H) (
    wCall E P 116 [a0, (.val (.bool false))] H fun t11 H =>
    R (.tup [t11, (.val (.nilIface))]) H)

/-- signalbox/lasso.Text -/
def lasso_Text (E : Env) (P : Program) (a0 : AV) (H : AH) (R : Kt) : Prop :=
  wCall E P 32 [a0] H fun t4 H =>
  wBool (eqA .iface t4 (.val (.nilIface))) H true fun t5 H =>
  wIf t5 (
    R (.val (.string ⟨#[]⟩)) H) (
    wCall E P 117 [a0] H fun t7 H =>
    R t7 H)

/-- signalbox/lasso.push -/
def lasso_push (E : Env) (P : Program) (a0 a1 : AV) (H : AH) (R : Kt) : Prop :=
  wGet (nilA a0) H fun t12 H =>
  wGet (faddr 0 t12) H fun t13 H =>
  wGet (load1 t13 H) H fun t14 H =>
  wGet (nilA a0) H fun t16 H =>
  wGet (faddr 2 t16) H fun t17 H =>
  wGet (load1 t17 H) H fun t18 H =>
  wJoin 2 (fun J1 =>
    wGet (binA .eql t14 (.val (.int .i64 3))) H fun t21 H =>
    wIf t21 (
      wGet (iaddr 1 t18 (.val (.int .i64 0))) H fun t23 H =>
      wGet (load1 t23 H) H fun t24 H =>
      wGet (unA .not a1) H fun t26 H =>
      wCall E P 116 [t24, t26] H fun t27 H =>
      R t27 H) (
      wJoin 1 (fun J2 =>
        wGet (binA .eql t14 (.val (.int .i64 1))) H fun t29 H =>
        wIf t29 (
          J2 t29 H) (
          wGet (binA .eql t14 (.val (.int .i64 2))) H fun t30 H =>
          J2 t30 H)) fun t28 H =>
        wIf t28 (
          wGet (nilA a0) H fun t33 H =>
          wGet (faddr 1 t33) H fun t34 H =>
          wGet (load1 t34 H) H fun t35 H =>
          wAgg (fillA [(.val (.int .i64 0)), (.val (.string ⟨#[]⟩)), (.val (.slice none 0 0))] [(0, 1, t14), (1, 1, t35)]) H fun t36 H =>
          wNew 3 (AV.cells? t36) H fun t37 H =>
          wIf a1 (
            wNewS 1 1 (fillA (List.replicate 1 [(.val (.pointer none))]).flatten [(0, 1, t37)]) H fun t40 H =>
            wAgg (fillA [(.val (.int .i64 0)), (.val (.string ⟨#[]⟩)), (.val (.slice none 0 0))] [(0, 1, (.val (.int .i64 3))), (2, 1, t40)]) H fun t41 H =>
            wNew 3 (AV.cells? t41) H fun t42 H =>
            R t42 H) (
            R t37 H)) (
          wGet (binA .eql t14 (.val (.int .i64 9))) H fun t45 H =>
          wIf t45 (
            wAgg (fillA [(.val (.int .i64 0)), (.val (.string ⟨#[]⟩)), (.val (.slice none 0 0))] [(0, 1, (.val (.int .i64 2)))]) H fun t46 H =>
            wGet (iaddr 1 t18 (.val (.int .i64 0))) H fun t49 H =>
            wGet (load1 t49 H) H fun t50 H =>
            (
              wNew 3 (AV.cells? t46) H fun t47 H =>
              (wGet (load1 t49 H) H (fun y H2 => y = t50 ∧ H2 = H)) ∧
              (
                wNewS 1 2 (fillA (List.replicate 2 [(.val (.pointer none))]).flatten [(0, 1, t47), (1, 1, t50)]) H fun t51 H =>
                (wGet (load1 t49 H) H (fun y H2 => y = t50 ∧ H2 = H)) ∧
                J1 (.val (.int .i64 7)) t51 H) ∧
              (
                (wGet (load1 t49 H) H (fun y H2 => y = t50 ∧ H2 = H)) ∧
                wNewS 1 2 (fillA (List.replicate 2 [(.val (.pointer none))]).flatten [(0, 1, t47), (1, 1, t50)]) H fun t51_1 H =>
                J1 (.val (.int .i64 7)) t51_1 H)) ∧
            (
              (wGet (load1 t49 H) H (fun y H2 => y = t50 ∧ H2 = H)) ∧
              wNew 3 (AV.cells? t46) H fun t47_1 H =>
              (wGet (load1 t49 H) H (fun y H2 => y = t50 ∧ H2 = H)) ∧
              wNewS 1 2 (fillA (List.replicate 2 [(.val (.pointer none))]).flatten [(0, 1, t47_1), (1, 1, t50)]) H fun t51_2 H =>
              J1 (.val (.int .i64 7)) t51_2 H)) (
            wGet (binA .eql t14 (.val (.int .i64 10))) H fun t53 H =>
            wIf t53 (
              wAgg (fillA [(.val (.int .i64 0)), (.val (.string ⟨#[]⟩)), (.val (.slice none 0 0))] [(0, 1, (.val (.int .i64 2)))]) H fun t54 H =>
              wGet (iaddr 1 t18 (.val (.int .i64 0))) H fun t60 H =>
              wGet (load1 t60 H) H fun t61 H =>
              (
                wNew 3 (AV.cells? t54) H fun t55 H =>
                (wGet (load1 t60 H) H (fun y H2 => y = t61 ∧ H2 = H)) ∧
                (
                  wNewS 1 1 (fillA (List.replicate 1 [(.val (.pointer none))]).flatten [(0, 1, t55)]) H fun t56 H =>
                  (wGet (load1 t60 H) H (fun y H2 => y = t61 ∧ H2 = H)) ∧
                  wAgg (fillA [(.val (.int .i64 0)), (.val (.string ⟨#[]⟩)), (.val (.slice none 0 0))] [(0, 1, (.val (.int .i64 3))), (2, 1, t56)]) H fun t57 H =>
                  (
                    wNew 3 (AV.cells? t57) H fun t58 H =>
                    (wGet (load1 t60 H) H (fun y H2 => y = t61 ∧ H2 = H)) ∧
                    (
                      wNewS 1 2 (fillA (List.replicate 2 [(.val (.pointer none))]).flatten [(0, 1, t58), (1, 1, t61)]) H fun t62 H =>
                      (wGet (load1 t60 H) H (fun y H2 => y = t61 ∧ H2 = H)) ∧
                      J1 (.val (.int .i64 8)) t62 H) ∧
                    (
                      (wGet (load1 t60 H) H (fun y H2 => y = t61 ∧ H2 = H)) ∧
                      wNewS 1 2 (fillA (List.replicate 2 [(.val (.pointer none))]).flatten [(0, 1, t58), (1, 1, t61)]) H fun t62_1 H =>
                      J1 (.val (.int .i64 8)) t62_1 H)) ∧
                  (
                    (wGet (load1 t60 H) H (fun y H2 => y = t61 ∧ H2 = H)) ∧
                    wNew 3 (AV.cells? t57) H fun t58_1 H =>
                    (wGet (load1 t60 H) H (fun y H2 => y = t61 ∧ H2 = H)) ∧
                    wNewS 1 2 (fillA (List.replicate 2 [(.val (.pointer none))]).flatten [(0, 1, t58_1), (1, 1, t61)]) H fun t62_2 H =>
                    J1 (.val (.int .i64 8)) t62_2 H)) ∧
                (
                  (wGet (load1 t60 H) H (fun y H2 => y = t61 ∧ H2 = H)) ∧
                  wNewS 1 1 (fillA (List.replicate 1 [(.val (.pointer none))]).flatten [(0, 1, t55)]) H fun t56_1 H =>
                  (wGet (load1 t60 H) H (fun y H2 => y = t61 ∧ H2 = H)) ∧
                  wAgg (fillA [(.val (.int .i64 0)), (.val (.string ⟨#[]⟩)), (.val (.slice none 0 0))] [(0, 1, (.val (.int .i64 3))), (2, 1, t56_1)]) H fun t57_1 H =>
                  wNew 3 (AV.cells? t57_1) H fun t58_2 H =>
                  (wGet (load1 t60 H) H (fun y H2 => y = t61 ∧ H2 = H)) ∧
                  wNewS 1 2 (fillA (List.replicate 2 [(.val (.pointer none))]).flatten [(0, 1, t58_2), (1, 1, t61)]) H fun t62_3 H =>
                  J1 (.val (.int .i64 8)) t62_3 H)) ∧
              (
                (wGet (load1 t60 H) H (fun y H2 => y = t61 ∧ H2 = H)) ∧
                wNew 3 (AV.cells? t54) H fun t55_1 H =>
                (wGet (load1 t60 H) H (fun y H2 => y = t61 ∧ H2 = H)) ∧
                wNewS 1 1 (fillA (List.replicate 1 [(.val (.pointer none))]).flatten [(0, 1, t55_1)]) H fun t56_2 H =>
                (wGet (load1 t60 H) H (fun y H2 => y = t61 ∧ H2 = H)) ∧
                wAgg (fillA [(.val (.int .i64 0)), (.val (.string ⟨#[]⟩)), (.val (.slice none 0 0))] [(0, 1, (.val (.int .i64 3))), (2, 1, t56_2)]) H fun t57_2 H =>
                wNew 3 (AV.cells? t57_2) H fun t58_3 H =>
                (wGet (load1 t60 H) H (fun y H2 => y = t61 ∧ H2 = H)) ∧
                wNewS 1 2 (fillA (List.replicate 2 [(.val (.pointer none))]).flatten [(0, 1, t58_3), (1, 1, t61)]) H fun t62_4 H =>
                J1 (.val (.int .i64 8)) t62_4 H)) (
              J1 t14 t18 H))))) fun t5 t6 H =>
    wJoin 1 (fun J3 =>
      wIf a1 (
        wMapN H fun t64 H =>
        wPut (insertA (.int .i64) t64 (.val (.int .i64 4)) (.val (.int .i64 5)) H) fun _u H =>
        wPut (insertA (.int .i64) t64 (.val (.int .i64 5)) (.val (.int .i64 4)) H) fun _u H =>
        wPut (insertA (.int .i64) t64 (.val (.int .i64 6)) (.val (.int .i64 6)) H) fun _u H =>
        wPut (insertA (.int .i64) t64 (.val (.int .i64 7)) (.val (.int .i64 8)) H) fun _u H =>
        wPut (insertA (.int .i64) t64 (.val (.int .i64 8)) (.val (.int .i64 7)) H) fun _u H =>
        wGet (lookupA (.int .i64) (.val (.int .i64 0)) false t64 t5 H) H fun t67 H =>
        J3 t67 H) (
        J3 t5 H)) fun t5_1 H =>
      wAgg (fillA [(.val (.int .i64 0)), (.val (.string ⟨#[]⟩)), (.val (.slice none 0 0))] [(0, 1, t5_1)]) H fun t69 H =>
      wNew 3 (AV.cells? t69) H fun t70 H =>
      wGet (lenA t6) H fun t72 H =>
      wLoop 1 (fun I4 => I4 (.val (.int .i64 0)) H) fun I4 t73 H =>
        wGet (binA .lss t73 t72) H fun t74 H =>
        wIf t74 (
          wGet (iaddr 1 t6 t73) H fun t75 H =>
          wGet (load1 t75 H) H fun t76 H =>
          wGet (nilA t70) H fun t79 H =>
          wGet (faddr 2 t79) H fun t80 H =>
          wGet (load1 t80 H) H fun t81 H =>
          wCall E P 116 [t76, a1] H fun t84 H =>
          (wGet (load1 t80 H) H (fun y H2 => y = t81 ∧ H2 = H)) ∧
          wNewS 1 1 (fillA (List.replicate 1 [(.val (.pointer none))]).flatten [(0, 1, t84)]) H fun t85 H =>
          (wGet (load1 t80 H) H (fun y H2 => y = t81 ∧ H2 = H)) ∧
          wApp 1 8 t81 t85 H fun t86 H =>
          wGet (nilA t70) H fun t87 H =>
          wGet (faddr 2 t87) H fun t88 H =>
          wPut (store1 t88 t86 H) fun _u H =>
          wGet (binA .add t73 (.val (.int .i64 1))) H fun t89 H =>
          I4 t89 H) (
          R t70 H)

/-- signalbox/lasso.text -/
def lasso_text (E : Env) (P : Program) (a0 : AV) (H : AH) (R : Kt) : Prop :=
  wGet (nilA a0) H fun t7 H =>
  wGet (faddr 2 t7) H fun t8 H =>
  wGet (load1 t8 H) H fun t9 H =>
  wGet (lenA t9) H fun t10 H =>
  wLoop 2 (fun I1 => I1 (.val (.slice none 0 0)) (.val (.int .i64 0)) H) fun I1 t3 t11 H =>
    wGet (binA .lss t11 t10) H fun t12 H =>
    wIf t12 (
      wGet (iaddr 1 t9 t11) H fun t13 H =>
      wGet (load1 t13 H) H fun t14 H =>
      wCall E P 117 [t14] H fun t17 H =>
      wNewS 1 1 (fillA (List.replicate 1 [(.val (.string ⟨#[]⟩))]).flatten [(0, 1, t17)]) H fun t18 H =>
      wApp 1 16 t3 t18 H fun t19 H =>
      wGet (binA .add t11 (.val (.int .i64 1))) H fun t20 H =>
      I1 t19 t20 H) (
      wGet (nilA a0) H fun t22 H =>
      wGet (faddr 0 t22) H fun t23 H =>
      wGet (load1 t23 H) H fun t24 H =>
      wGet (binA .eql t24 (.val (.int .i64 1))) H fun t26 H =>
      wIf t26 (
        wGet (nilA a0) H fun t28 H =>
        wGet (faddr 1 t28) H fun t29 H =>
        wGet (load1 t29 H) H fun t30 H =>
        R t30 H) (
        wGet (binA .eql t24 (.val (.int .i64 2))) H fun t32 H =>
        wIf t32 (
          R (.val (.string ⟨#[116, 114, 117, 101]⟩)) H) (
          wGet (binA .eql t24 (.val (.int .i64 3))) H fun t34 H =>
          wIf t34 (
            wCall E P 118 [t3, (.val (.string ⟨#[]⟩))] H fun t36 H =>
            wGet (binA .add (.val (.string ⟨#[33]⟩)) t36) H fun t37 H =>
            R t37 H) (
            wGet (binA .eql t24 (.val (.int .i64 6))) H fun t39 H =>
            wIf t39 (
              wCall E P 118 [t3, (.val (.string ⟨#[]⟩))] H fun t41 H =>
              wGet (binA .add (.val (.string ⟨#[88, 32]⟩)) t41) H fun t42 H =>
              R t42 H) (
              wGet (binA .eql t24 (.val (.int .i64 9))) H fun t44 H =>
              wIf t44 (
                wCall E P 118 [t3, (.val (.string ⟨#[]⟩))] H fun t46 H =>
                wGet (binA .add (.val (.string ⟨#[70, 32]⟩)) t46) H fun t47 H =>
                R t47 H) (
                wGet (binA .eql t24 (.val (.int .i64 10))) H fun t49 H =>
                wIf t49 (
                  wCall E P 118 [t3, (.val (.string ⟨#[]⟩))] H fun t51 H =>
                  wGet (binA .add (.val (.string ⟨#[71, 32]⟩)) t51) H fun t52 H =>
                  R t52 H) (
                  wGet (binA .eql t24 (.val (.int .i64 4))) H fun t54 H =>
                  wIf t54 (
                    wCall E P 118 [t3, (.val (.string ⟨#[32, 38, 32]⟩))] H fun t56 H =>
                    wGet (binA .add (.val (.string ⟨#[40]⟩)) t56) H fun t57 H =>
                    wGet (binA .add t57 (.val (.string ⟨#[41]⟩))) H fun t58 H =>
                    R t58 H) (
                    wGet (binA .eql t24 (.val (.int .i64 5))) H fun t60 H =>
                    wIf t60 (
                      wCall E P 118 [t3, (.val (.string ⟨#[32, 124, 32]⟩))] H fun t62 H =>
                      wGet (binA .add (.val (.string ⟨#[40]⟩)) t62) H fun t63 H =>
                      wGet (binA .add t63 (.val (.string ⟨#[41]⟩))) H fun t64 H =>
                      R t64 H) (
                      wGet (binA .eql t24 (.val (.int .i64 7))) H fun t66 H =>
                      wIf t66 (
                        wCall E P 118 [t3, (.val (.string ⟨#[32, 85, 32]⟩))] H fun t68 H =>
                        wGet (binA .add (.val (.string ⟨#[40]⟩)) t68) H fun t69 H =>
                        wGet (binA .add t69 (.val (.string ⟨#[41]⟩))) H fun t70 H =>
                        R t70 H) (
                        wGet (binA .eql t24 (.val (.int .i64 8))) H fun t72 H =>
                        wIf t72 (
                          wCall E P 118 [t3, (.val (.string ⟨#[32, 82, 32]⟩))] H fun t74 H =>
                          wGet (binA .add (.val (.string ⟨#[40]⟩)) t74) H fun t75 H =>
                          wGet (binA .add t75 (.val (.string ⟨#[41]⟩))) H fun t76 H =>
                          R t76 H) (
                          R (.val (.string ⟨#[]⟩)) H)))))))))))

/-- strings.Join -/
def strings_Join (E : Env) (P : Program) (a0 a1 : AV) (H : AH) (R : Kt) : Prop :=
  wGet (lenA a0) H fun t12 H =>
  wGet (binA .eql t12 (.val (.int .i64 0))) H fun t14 H =>
  wIf t14 (
    R (.val (.string ⟨#[]⟩)) H) (
    wGet (binA .eql t12 (.val (.int .i64 1))) H fun t16 H =>
    wIf t16 (
      wGet (iaddr 1 a0 (.val (.int .i64 0))) H fun t18 H =>
      wGet (load1 t18 H) H fun t19 H =>
      R t19 H) (
      wJoin 1 (fun J1 =>
        wGet (lenS a1) H fun t21 H =>
        wGet (binA .gtr t21 (.val (.int .i64 0))) H fun t22 H =>
        wIf t22 (
          wJoin 0 (fun J2 =>
            wGet (lenS a1) H fun t24 H =>
            wGet (lenA a0) H fun t26 H =>
            wGet (binA .sub t26 (.val (.int .i64 1))) H fun t27 H =>
            wGet (binA .quo (.val (.int .i64 9223372036854775807)) t27) H fun t28 H =>
            wGet (binA .geq t24 t28) H fun t29 H =>
            wIf t29 (
              False) (
              J2 H)) fun H =>
            wGet (lenS a1) H fun t33 H =>
            wGet (lenA a0) H fun t35 H =>
            wGet (binA .sub t35 (.val (.int .i64 1))) H fun t36 H =>
            wGet (binA .mul t33 t36) H fun t37 H =>
            wGet (binA .add (.val (.int .i64 0)) t37) H fun t38 H =>
            J1 t38 H) (
          J1 (.val (.int .i64 0)) H)) fun t5 H =>
        wGet (lenA a0) H fun t40 H =>
        wLoop 2 (fun I3 => I3 t5 (.val (.int .i64 0)) H) fun I3 t5_1 t41 H =>
          wGet (binA .lss t41 t40) H fun t42 H =>
          wIf t42 (
            wGet (iaddr 1 a0 t41) H fun t43 H =>
            wGet (load1 t43 H) H fun t44 H =>
            wJoin 0 (fun J4 =>
              wGet (lenS t44) H fun t46 H =>
              wGet (binA .sub (.val (.int .i64 9223372036854775807)) t5_1) H fun t48 H =>
              wGet (binA .gtr t46 t48) H fun t49 H =>
              wIf t49 (
                False) (
                J4 H)) fun H =>
              wGet (lenS t44) H fun t53 H =>
              wGet (binA .add t5_1 t53) H fun t54 H =>
              wGet (binA .add t41 (.val (.int .i64 1))) H fun t55 H =>
              I3 t54 t55 H) (
            wNew 2 (some [(.val (.pointer none)), (.val (.slice none 0 0))]) H fun t8 H =>
            wCall E P 119 [t8, t5_1] H fun t57 H =>
            wGet (iaddr 1 a0 (.val (.int .i64 0))) H fun t59 H =>
            wGet (load1 t59 H) H fun t60 H =>
            wCall E P 120 [t8, t60] H fun t61 H =>
            wGet (sliceA 1 a0 (some (.val (.int .i64 1))) none H) H fun t63 H =>
            wGet (lenA t63) H fun t64 H =>
            wLoop 1 (fun I5 => I5 (.val (.int .i64 0)) H) fun I5 t65 H =>
              wGet (binA .lss t65 t64) H fun t66 H =>
              wIf t66 (
                wGet (iaddr 1 t63 t65) H fun t67 H =>
                wGet (load1 t67 H) H fun t68 H =>
                wCall E P 120 [t8, a1] H fun t70 H =>
                wCall E P 120 [t8, t68] H fun t72 H =>
                wGet (binA .add t65 (.val (.int .i64 1))) H fun t73 H =>
                I5 t73 H) (
                wCall E P 121 [t8] H fun t74 H =>
                R t74 H))))

/-- (*strings.Builder).Grow -/
def pstrings_Builder_Grow (E : Env) (P : Program) (a0 a1 : AV) (H : AH) (R : Kt) : Prop :=
  wCall E P 122 [a0] H fun t5 H =>
  wJoin 0 (fun J1 =>
    wGet (binA .lss a1 (.val (.int .i64 0))) H fun t7 H =>
    wIf t7 (
      False) (
      J1 H)) fun H =>
    wGet (nilA a0) H fun t10 H =>
    wGet (faddr 1 t10) H fun t11 H =>
    wGet (load1 t11 H) H fun t12 H =>
    wGet (nilA a0) H fun t15 H =>
    wGet (faddr 1 t15) H fun t16 H =>
    wGet (load1 t16 H) H fun t17 H =>
    wGet (lenA t17) H fun t18 H =>
    False

/-- (*strings.Builder).WriteString -/
def pstrings_Builder_WriteString (E : Env) (P : Program) (a0 a1 : AV) (H : AH) (R : Kt) : Prop :=
  wCall E P 122 [a0] H fun t7 H =>
  wGet (nilA a0) H fun t10 H =>
  wGet (faddr 1 t10) H fun t11 H =>
  wGet (load1 t11 H) H fun t12 H =>
  wApp 1 1 t12 a1 H fun t14 H =>
  wGet (nilA a0) H fun t15 H =>
  wGet (faddr 1 t15) H fun t16 H =>
  wPut (store1 t16 t14 H) fun _u H =>
  wGet (lenS a1) H fun t18 H =>
  R (.tup [t18, (.val (.nilIface))]) H

/-- (*strings.Builder).String -/
def pstrings_Builder_String (E : Env) (P : Program) (a0 : AV) (H : AH) (R : Kt) : Prop :=
  wGet (nilA a0) H fun t4 H =>
  wGet (faddr 1 t4) H fun t5 H =>
  wGet (load1 t5 H) H fun t6 H =>
  wGet (nilA a0) H fun t9 H =>
  wGet (faddr 1 t9) H fun t10 H =>
  wGet (load1 t10 H) H fun t11 H =>
  wGet (lenA t11) H fun t12 H =>
  False

/-- (*strings.Builder).copyCheck -/
def pstrings_Builder_copyCheck (E : Env) (P : Program) (a0 : AV) (H : AH) (R : Kt) : Prop :=
  wGet (nilA a0) H fun t3 H =>
  wGet (faddr 0 t3) H fun t4 H =>
  wGet (load1 t4 H) H fun t5 H =>
  wBool (eqA .ptr t5 (.val (.pointer none))) H false fun t6 H =>
  wIf t6 (
    wGet (convA .unsafePointer a0) H fun t9 H =>
    wCall E P 123 [t9] H fun t10 H =>
    wGet (convA (.pointer 0) t10) H fun t11 H =>
    wGet (nilA a0) H fun t12 H =>
    wGet (faddr 0 t12) H fun t13 H =>
    wPut (store1 t13 t11 H) fun _u H =>
    R (.tup []) H) (
    wGet (nilA a0) H fun t15 H =>
    wGet (faddr 0 t15) H fun t16 H =>
    wGet (load1 t16 H) H fun t17 H =>
    wBool (eqA .ptr t17 a0) H true fun t19 H =>
    wIf t19 (
      False) (
      R (.tup []) H))

/-- (*strings.Builder).grow -/
def pstrings_Builder_grow (E : Env) (P : Program) (a0 a1 : AV) (H : AH) (R : Kt) : Prop :=
  wGet (nilA a0) H fun t6 H =>
  wGet (faddr 1 t6) H fun t7 H =>
  wGet (load1 t7 H) H fun t8 H =>
  wGet (nilA a0) H fun t15 H =>
  wGet (faddr 1 t15) H fun t16 H =>
  wGet (load1 t16 H) H fun t17 H =>
  wGet (lenA t17) H fun t18 H =>
  False

end Go.Sc.F
namespace Go.Proofs.YtmeppifnagiamaaDoor
open Go Go.Sc
set_option maxRecDepth 100000
def tyL : List Nat := [1000000, 32, 80, 1000003, 9, 1000005, 1000006, 1000007, 48, 45, 42, 43, 92, 93, 94]
def tkL : List Nat := [2000000, 2000001, 2000002, 2000003, 2000004, 2000005, 2000006, 2000007, 2000008, 4, 2000010, 2000011, 2000012, 2000013, 2000014, 2000015, 2000016, 2000017, 2000018, 2000019, 2000020, 2000021, 2000022, 2000023, 2000024, 2000025, 2000026, 2000027, 2000028, 2000029, 2000030, 2000031, 1, 2000033, 2000034, 2000035, 2000036, 2000037, 2000038, 2000039, 2000040, 2000041, 10, 11, 2000044, 9, 2000046, 2000047, 8, 2000049, 2000050, 2000051, 2000052, 2000053, 2000054, 2000055, 2000056, 2000057, 2000058, 2000059, 2000060, 2000061, 2000062, 2000063, 2000064, 2000065, 2000066, 2000067, 2000068, 2000069, 2000070, 2000071, 2000072, 2000073, 2000074, 2000075, 2000076, 2000077, 2000078, 2000079, 2, 2000081, 2000082, 2000083, 2000084, 2000085, 2000086, 2000087, 2000088, 2000089, 2000090, 2000091, 12, 13, 14, 2000095, 2000096, 2000097, 2000098, 2000099, 2000100, 2000101, 2000102, 2000103, 2000104, 2000105, 2000106, 2000107, 2000108, 2000109, 2000110, 2000111, 2000112, 2000113, 2000114, 2000115, 2000116, 2000117, 2000118, 2000119, 2000120, 2000121, 2000122, 2000123, 2000124, 2000125, 2000126, 2000127, 2000128, 2000129]
def fnL : List Nat := [1000000, 47, 43, 1000003, 52, 22, 55, 54, 56, 58, 57, 60, 59, 33, 61, 62, 42, 63, 64, 45, 65, 46, 48, 51, 49, 53, 1000026, 1000027, 1000028, 1000029, 1000030, 1000031, 1000032, 1000033, 1000034, 1000035, 1000036, 1000037, 1000038, 1000039, 1000040, 1000041, 1000042, 1000043, 1000044, 1000045, 1000046, 1000047, 1000048, 1000049, 1000050, 1000051, 1000052, 1000053, 1000054, 1000055, 1000056, 1000057, 1000058, 1000059, 1000060, 1000061, 1000062, 1000063, 1000064, 1000065, 1000066, 1000067, 1000068, 1000069, 1000070, 1000071, 1000072, 1000073, 1000074, 1000075, 1000076, 1000077, 1000078, 1000079, 1000080, 1000081, 1000082, 1000083, 1000084, 1000085, 1000086, 14, 1000088, 1000089, 1000090, 1000091, 1000092, 1000093, 1000094, 1000095, 1000096, 1000097, 1000098, 1000099, 1000100, 1000101, 1000102, 1000103, 1000104, 1000105, 1000106, 1000107, 1000108, 1000109, 1000110, 1000111, 1000112, 1000113, 1000114, 1000115, 1000116, 1000117, 13, 24, 25, 26, 35, 40, 36, 9, 10, 5, 8, 1000129, 15, 16, 17, 18, 19, 20, 28, 27, 30, 32, 31, 29, 37, 38, 39, 44, 84, 88, 85, 87, 83, 86, 91, 92, 93, 1000155, 1000156, 1000157, 1000158, 1000159, 1000160, 1000161, 1000162, 1000163, 1000164, 1000165, 1000166, 1000167, 1000168, 4, 6, 7, 3, 11, 12, 21, 23, 34, 1000178, 1000179, 1000180, 1000181, 1000182, 1000183, 1000184, 1000185, 81, 1000187, 1000188, 1000189, 1000190, 1000191, 1000192, 1000193, 1000194, 1000195, 1000196, 1000197, 1000198, 1000199, 1000200, 1000201, 1000202, 1000203, 1000204, 1000205, 1000206, 1000207, 1000208, 1000209, 1000210, 1000211, 1000212, 1000213, 1000214, 1000215, 1000216, 1000217, 1000218, 50]
def fkL : List Nat := [2000000, 2000001, 2000002, 172, 169, 127, 170, 171, 128, 125, 126, 173, 174, 118, 87, 130, 131, 132, 133, 134, 135, 175, 5, 176, 119, 120, 121, 137, 136, 141, 138, 140, 139, 13, 177, 122, 124, 142, 143, 144, 123, 2000041, 16, 2, 145, 19, 21, 1, 22, 24, 219, 23, 4, 25, 7, 6, 8, 10, 9, 12, 11, 14, 15, 17, 18, 20, 2000066, 2000067, 2000068, 2000069, 2000070, 2000071, 2000072, 2000073, 2000074, 2000075, 2000076, 2000077, 2000078, 2000079, 2000080, 186, 2000082, 150, 146, 148, 151, 149, 147, 2000089, 2000090, 152, 153, 154, 2000094, 2000095, 2000096, 2000097, 2000098, 2000099]
def gnL : List Nat := [1000000, 2, 3, 1000003, 1000004, 0, 1]
def gkL : List Nat := [5, 6, 1, 2]
def E : Env := { ty := fun k => tyL.getD k 3000000, tk := fun t => tkL.getD t 3000000, fn := fun k => fnL.getD k 3000000, fk := fun f => fkL.getD f 3000000, gn := fun k => gnL.getD k 3000000, gk := fun g => gkL.getD g 3000000, gl := fun g => if g = 5 then some [.val (.int .i64 0), .val (.int .i64 (-1))] else none }
theorem b_law_ExprTidies (a0 : AV) (H : AH) (R : Kt) : bodyW E Tryd.prog Tryd.f3 (.seq none .leaf (.seq none .leaf (.seq none .leaf .leaf))) [a0] H R = F.law_ExprTidies E Tryd.prog a0 H R := by kernel_rfl
theorem b_law_read (a0 : AV) (H : AH) (R : Kt) : bodyW E Tryd.prog Tryd.f4 (.seq none .leaf (.seq none (.seq none .leaf (.two (.seq none .leaf .leaf) .leaf)) (.seq none .leaf (.seq none (.seq none .leaf (.two (.seq none .leaf .leaf) .leaf)) (.seq none .leaf (.seq none (.seq none .leaf (.two (.seq none .leaf .leaf) .leaf)) (.seq none .leaf .leaf))))))) [a0] H R = F.law_read E Tryd.prog a0 H R := by kernel_rfl
theorem b_expr_Text (a0 : AV) (H : AH) (R : Kt) : bodyW E Tryd.prog Tryd.f5 (.seq none .leaf (.seq none (.seq none .leaf (.two (.seq none .leaf .leaf) .leaf)) (.seq none .leaf .leaf))) [a0] H R = F.expr_Text E Tryd.prog a0 H R := by kernel_rfl
theorem b_expr_Tidy (a0 : AV) (H : AH) (R : Kt) : bodyW E Tryd.prog Tryd.f6 (.seq none .leaf (.seq none (.seq none .leaf (.one (.seq none .leaf (.two (.seq none .leaf (.seq none .leaf (.one (.seq none .leaf (.two (.seq none .leaf (.seq none .leaf .leaf)) (.seq none .leaf (.two (.seq none .leaf (.seq none .leaf .leaf)) (.seq none .leaf (.seq none .leaf .leaf))))))))) (.seq none .leaf (.two (.seq none .leaf (.seq none .leaf (.seq none (.one (.seq none .leaf (.two (.seq none .leaf .leaf) (.seq none .leaf (.two (.seq none .leaf .leaf) (.seq none .leaf (.two (.seq none .leaf .leaf) .leaf))))))) (.seq none .leaf .leaf)))) (.seq none .leaf (.two (.seq none .leaf (.seq none .leaf (.seq none (.one (.seq none .leaf (.two (.seq none .leaf .leaf) (.seq none .leaf (.two (.seq none .leaf .leaf) (.seq none .leaf (.two (.seq none .leaf .leaf) .leaf))))))) (.seq none .leaf .leaf)))) .leaf)))))))) (.seq none .leaf .leaf))) [a0] H R = F.expr_Tidy E Tryd.prog a0 H R := by kernel_rfl
theorem b_pref_Expr_Tidy (a0 : AV) (H : AH) (R : Kt) : bodyW E Tryd.prog Tryd.f7 (.seq none .leaf (.seq none (.seq none .leaf (.one (.seq none .leaf (.two (.seq none .leaf (.seq none (.seq none .leaf (.one (.seq none .leaf (.two (.seq none .leaf .leaf) (.seq none .leaf (.two (.seq none .leaf .leaf) .leaf)))))) (.seq none .leaf .leaf))) (.seq (some [43]) (.seq none .leaf (.two .leaf .leaf)) (.two (.seq none .leaf (.seq (some [4, 5]) (.seq none .leaf (.two .leaf .leaf)) (.seq none .leaf (.seq none (.seq none .leaf (.one (.loop [6, 56] (.seq none .leaf (.seq none (.two .leaf .leaf) (.seq none (.one (.seq none .leaf (.seq none .leaf (.seq none .leaf (.seq (some [10]) (.seq none .draw (.two .leaf .leaf)) (.seq (some [10]) (.seq none .leaf (.two .leaf .leaf)) (.seq none (.seq none .leaf (.two (.seq none .leaf .leaf) .leaf)) (.seq none .leaf (.one (.loop [6, 94] (.seq none .leaf (.seq none (.two .leaf .leaf) (.seq (some [6]) (.one (.seq none .leaf (.seq none .leaf (.seq none (.seq none .leaf (.one (.loop [13, 100] (.seq none .leaf (.seq none (.two .leaf .leaf) (.seq none (.one (.seq none .leaf (.seq none (.seq none .leaf (.two (.seq none .leaf .leaf) .leaf)) .leaf))) .leaf)))))) (.seq none .leaf (.two .leaf .leaf)))))) .leaf))))))))))))) .leaf)))))) (.seq none (.seq none .leaf (.one (.seq none .leaf (.two (.seq none .leaf .leaf) (.seq none .leaf (.two (.seq none .leaf .leaf) .leaf)))))) (.seq none .leaf .leaf)))))) .leaf)))))) (.seq none .leaf .leaf))) [a0] H R = F.pref_Expr_Tidy E Tryd.prog a0 H R := by kernel_rfl
theorem b_pref_Expr_Text (a0 : AV) (H : AH) (R : Kt) : bodyW E Tryd.prog Tryd.f8 (.seq none .leaf (.seq none (.seq none .leaf (.one (.seq none .leaf (.two (.seq none .leaf .leaf) (.seq (some [18]) (.seq none .leaf (.two .leaf .leaf)) (.two (.seq none .draw .leaf) (.seq none .leaf (.two (.seq none (.seq none .leaf (.seq none .leaf (.two (.seq none .leaf .leaf) .leaf))) (.seq none .leaf .leaf)) (.seq (some [64]) (.seq none .leaf (.two .leaf .leaf)) (.two (.seq none .leaf (.seq none (.seq none .leaf (.one (.loop [4, 72] (.seq none .leaf (.seq none (.two .leaf .leaf) (.seq none (.one (.seq none .leaf (.seq none .leaf (.seq (some [7]) (.seq none .leaf (.two .leaf .leaf)) .leaf)))) .leaf)))))) (.seq none .leaf .leaf))) .leaf)))))))))) (.seq none .leaf .leaf))) [a0] H R = F.pref_Expr_Text E Tryd.prog a0 H R := by kernel_rfl
theorem b_ref_ExprParse (a0 : AV) (H : AH) (R : Kt) : bodyW E Tryd.prog Tryd.f9 (.seq none .leaf (.seq none (.seq none .leaf (.two (.seq none .leaf .leaf) .leaf)) (.seq none .leaf (.seq none .leaf (.seq (some []) (.seq none .leaf (.two .leaf .leaf)) (.seq none (.seq none .leaf (.two (.seq none .draw .leaf) .leaf)) (.seq none .draw .leaf))))))) [a0] H R = F.ref_ExprParse E Tryd.prog a0 H R := by kernel_rfl
theorem b_expr_Parse (a0 : AV) (H : AH) (R : Kt) : bodyW E Tryd.prog Tryd.f10 (.seq none .leaf (.seq none (.seq none .leaf (.two (.seq none .leaf .leaf) .leaf)) (.seq none .leaf (.seq none .leaf (.seq none (.seq none .leaf (.two (.seq none .leaf .leaf) .leaf)) (.seq none (.seq none .leaf (.seq none .leaf (.two (.seq none .leaf .leaf) .leaf))) (.seq none .leaf .leaf))))))) [a0] H R = F.expr_Parse E Tryd.prog a0 H R := by kernel_rfl
theorem b_expr_parts (a0 a1 : AV) (H : AH) (R : Kt) : bodyW E Tryd.prog Tryd.f11 (.seq none .leaf (.seq none .leaf (.seq none .leaf (.seq none .leaf (.seq none (.seq none .leaf (.one (.loop [19] (.seq none .leaf (.seq none (.two .leaf .leaf) (.seq none (.one (.seq none .leaf (.seq none .leaf (.seq (some [11]) (.seq none .leaf (.one (.seq none .leaf (.two (.seq none .leaf (.seq none .leaf (.two (.seq none .leaf .leaf) .leaf))) (.seq none .leaf (.two (.seq none .leaf (.seq none .leaf (.seq none .leaf (.two .leaf .leaf)))) (.seq none .leaf (.two (.seq none .leaf (.seq none .leaf (.seq none .leaf (.two .leaf .leaf)))) (.seq none .leaf .leaf))))))))) (.seq none .leaf (.two (.seq none .leaf .leaf) .leaf)))))) .leaf)))))) (.seq none .leaf .leaf)))))) [a0, a1] H R = F.expr_parts E Tryd.prog a0 a1 H R := by kernel_rfl
theorem b_pref_Expr_other (a0 : AV) (H : AH) (R : Kt) : bodyW E Tryd.prog Tryd.f12 (.seq none .leaf (.seq none (.seq none .leaf (.two (.seq none .leaf .leaf) .leaf)) (.seq none .leaf .leaf))) [a0] H R = F.pref_Expr_other E Tryd.prog a0 H R := by kernel_rfl
theorem b_strings_Join (a0 a1 : AV) (H : AH) (R : Kt) : bodyW E Tryd.prog Tryd.f13 (.seq none .leaf (.seq none (.seq none .leaf (.one (.seq none .leaf (.two (.seq none .leaf .leaf) (.seq none .leaf (.two (.seq none .leaf .leaf) .leaf)))))) (.seq none .leaf (.seq (some [5]) (.seq none .leaf (.two (.seq (some []) (.seq none .leaf (.two .leaf .leaf)) .leaf) .leaf)) (.seq none (.seq none .leaf (.one (.loop [5, 41] (.seq none .leaf (.seq none (.two .leaf .leaf) (.seq none (.one (.seq none .leaf (.seq (some []) (.seq none .leaf (.two .leaf .leaf)) .leaf))) .leaf)))))) (.seq none .leaf (.seq none .leaf (.seq none .leaf (.seq none (.seq none .leaf (.one (.loop [65] (.seq none .leaf (.seq none (.two .leaf .leaf) (.seq none (.one (.seq none .leaf (.seq none .leaf .leaf))) .leaf)))))) (.seq none .leaf .leaf)))))))))) [a0, a1] H R = F.strings_Join E Tryd.prog a0 a1 H R := by kernel_rfl
theorem b_ref_Bare (a0 : AV) (H : AH) (R : Kt) : bodyW E Tryd.prog Tryd.f14 (.seq none .leaf (.seq none .leaf .leaf)) [a0] H R = F.ref_Bare E Tryd.prog a0 H R := by kernel_rfl
theorem b_pref_parser_whole (a0 a1 : AV) (H : AH) (R : Kt) : bodyW E Tryd.prog Tryd.f15 (.seq none .leaf (.seq none .leaf .leaf)) [a0, a1] H R = F.pref_parser_whole E Tryd.prog a0 a1 H R := by kernel_rfl
theorem b_pref_parser_next (a0 : AV) (H : AH) (R : Kt) : bodyW E Tryd.prog Tryd.f16 (.seq none .leaf (.seq none .leaf (.seq none (.seq none .draw (.two (.seq none .draw .leaf) .leaf)) (.seq none .leaf .leaf)))) [a0] H R = F.pref_parser_next E Tryd.prog a0 H R := by kernel_rfl
theorem b_pref_parser_fail (a0 a1 : AV) (H : AH) (R : Kt) : bodyW E Tryd.prog Tryd.f17 (.seq none .leaf (.seq none .leaf (.seq (some []) (.seq none .leaf (.two .leaf .leaf)) (.seq none .leaf .leaf)))) [a0, a1] H R = F.pref_parser_fail E Tryd.prog a0 a1 H R := by kernel_rfl
theorem b_pexpr_reader_or (a0 a1 : AV) (H : AH) (R : Kt) : bodyW E Tryd.prog Tryd.f18 (.seq none .leaf (.seq none .leaf (.seq none (.seq none .leaf (.two (.seq none .leaf .leaf) .leaf)) (.seq none (.seq none .leaf (.two (.seq none .leaf .leaf) .leaf)) (.seq none .leaf .leaf))))) [a0, a1] H R = F.pexpr_reader_or E Tryd.prog a0 a1 H R := by kernel_rfl
theorem b_pexpr_reader_blanks (a0 : AV) (H : AH) (R : Kt) : bodyW E Tryd.prog Tryd.f19 (.one (.loop [] (.seq none (.seq none .draw (.two .leaf .leaf)) (.one .leaf)))) [a0] H R = F.pexpr_reader_blanks E Tryd.prog a0 H R := by kernel_rfl
theorem b_pexpr_reader_fail (a0 a1 : AV) (H : AH) (R : Kt) : bodyW E Tryd.prog Tryd.f20 (.seq none .leaf (.seq none .leaf (.seq none .leaf .leaf))) [a0, a1] H R = F.pexpr_reader_fail E Tryd.prog a0 a1 H R := by kernel_rfl
theorem b_expr_parts_c1 (a0 a1 a2 : AV) (H : AH) (R : Kt) : bodyW E Tryd.prog Tryd.f21 (.seq none .leaf (.seq none .leaf (.seq none (.seq none .leaf (.two (.seq none .leaf .leaf) .leaf)) (.seq none .leaf (.seq (some [6]) (.seq none .leaf (.seq none .leaf (.two .leaf .leaf))) (.seq none (.seq none .leaf (.two (.seq none .leaf .leaf) .leaf)) (.seq (some []) .draw (.seq none .leaf .leaf)))))))) [a0, a1, a2] H R = F.expr_parts_c1 E Tryd.prog a0 a1 a2 H R := by kernel_rfl
theorem b_slices_Contains_Lstring_string (a0 a1 : AV) (H : AH) (R : Kt) : bodyW E Tryd.prog Tryd.f22 (.seq none .leaf (.seq none .leaf .leaf)) [a0, a1] H R = F.slices_Contains_Lstring_string E Tryd.prog a0 a1 H R := by kernel_rfl
theorem b_slices_ContainsFunc_Lexpr_Expr_expr_Expr (a0 a1 : AV) (H : AH) (R : Kt) : bodyW E Tryd.prog Tryd.f23 (.seq none .leaf (.seq none .leaf .leaf)) [a0, a1] H R = F.slices_ContainsFunc_Lexpr_Expr_expr_Expr E Tryd.prog a0 a1 H R := by kernel_rfl
theorem b_pstrings_Builder_Grow (a0 a1 : AV) (H : AH) (R : Kt) : bodyW E Tryd.prog Tryd.f24 (.seq none .leaf (.seq (some []) (.seq none .leaf (.two .leaf .leaf)) (.seq none .draw (.two .leaf .leaf)))) [a0, a1] H R = F.pstrings_Builder_Grow E Tryd.prog a0 a1 H R := by kernel_rfl
theorem b_pstrings_Builder_WriteString (a0 a1 : AV) (H : AH) (R : Kt) : bodyW E Tryd.prog Tryd.f25 (.seq none .leaf (.seq none .leaf (.seq none .leaf (.seq none .leaf .leaf)))) [a0, a1] H R = F.pstrings_Builder_WriteString E Tryd.prog a0 a1 H R := by kernel_rfl
theorem b_pstrings_Builder_String (a0 : AV) (H : AH) (R : Kt) : bodyW E Tryd.prog Tryd.f26 (.seq none .leaf (.seq none .draw .leaf)) [a0] H R = F.pstrings_Builder_String E Tryd.prog a0 H R := by kernel_rfl
theorem b_pref_parser_row (a0 a1 a2 a3 : AV) (H : AH) (R : Kt) : bodyW E Tryd.prog Tryd.f27 (.seq none .leaf (.seq none .leaf (.seq none (.one (.loop [9] (.seq none (.seq none .leaf (.two .leaf .leaf)) (.one (.seq none .leaf .leaf))))) (.seq none (.seq none .leaf (.two (.seq none .leaf .leaf) .leaf)) (.seq none .leaf .leaf))))) [a0, a1, a2, a3] H R = F.pref_parser_row E Tryd.prog a0 a1 a2 a3 H R := by kernel_rfl
theorem b_pref_parser_whole_c1 (a0 a1 : AV) (H : AH) (R : Kt) : bodyW E Tryd.prog Tryd.f28 (.seq none .leaf (.seq none .leaf .leaf)) [a0, a1] H R = F.pref_parser_whole_c1 E Tryd.prog a0 a1 H R := by kernel_rfl
theorem b_pref_parser_piece (a0 a1 : AV) (H : AH) (R : Kt) : bodyW E Tryd.prog Tryd.f29 (.seq none .leaf (.seq none (.seq none .leaf (.two (.seq none .leaf .leaf) .leaf)) (.seq none (.seq none .leaf (.two (.seq none .leaf .leaf) .leaf)) (.seq none (.seq none .leaf (.seq none .leaf (.one (.seq none .leaf (.two (.seq none .leaf (.seq none .leaf .leaf)) (.seq none .leaf (.two (.seq none .leaf (.seq none .leaf (.seq none (.seq none .leaf (.two (.seq none .leaf .leaf) .leaf)) (.seq none .leaf (.seq none .leaf .leaf))))) (.seq (some [70]) (.seq none .leaf (.two .leaf .leaf)) (.two (.seq none .leaf (.seq none .leaf .leaf)) (.seq (some [84]) (.seq none .leaf (.two .leaf .leaf)) (.two (.seq none .leaf (.seq none .leaf .leaf)) .leaf))))))))))) (.seq none .leaf .leaf))))) [a0, a1] H R = F.pref_parser_piece E Tryd.prog a0 a1 H R := by kernel_rfl
theorem b_pref_parser_skip (a0 : AV) (H : AH) (R : Kt) : bodyW E Tryd.prog Tryd.f30 (.one (.loop [] (.seq none (.seq none .draw (.two .leaf .leaf)) (.one .leaf)))) [a0] H R = F.pref_parser_skip E Tryd.prog a0 H R := by kernel_rfl
theorem b_pexpr_reader_several (a0 a1 a2 a3 : AV) (H : AH) (R : Kt) : bodyW E Tryd.prog Tryd.f31 (.seq none .leaf (.seq none .leaf (.one (.loop [10] (.one (.seq none .leaf (.seq none (.seq none .leaf (.two (.seq none .leaf .leaf) .leaf)) (.seq none .leaf (.seq none .leaf (.two (.seq none .leaf .leaf) .leaf)))))))))) [a0, a1, a2, a3] H R = F.pexpr_reader_several E Tryd.prog a0 a1 a2 a3 H R := by kernel_rfl
theorem b_pexpr_reader_and (a0 a1 : AV) (H : AH) (R : Kt) : bodyW E Tryd.prog Tryd.f32 (.seq none .leaf (.seq none .leaf (.seq none (.seq none .leaf (.two (.seq none .leaf .leaf) .leaf)) (.seq none (.seq none .leaf (.two (.seq none .leaf .leaf) .leaf)) (.seq none .leaf .leaf))))) [a0, a1] H R = F.pexpr_reader_and E Tryd.prog a0 a1 H R := by kernel_rfl
theorem b_slices_Index_Lstring_string (a0 a1 : AV) (H : AH) (R : Kt) : bodyW E Tryd.prog Tryd.f33 (.seq none .leaf (.seq none (.seq none .leaf (.one (.loop [8] (.seq none .leaf (.seq none (.two .leaf .leaf) (.seq none (.one (.seq none .leaf (.seq none .leaf (.two (.seq none .leaf .leaf) .leaf)))) .leaf)))))) (.seq none .leaf .leaf))) [a0, a1] H R = F.slices_Index_Lstring_string E Tryd.prog a0 a1 H R := by kernel_rfl
theorem b_slices_IndexFunc_Lexpr_Expr_expr_Expr (a0 a1 : AV) (H : AH) (R : Kt) : bodyW E Tryd.prog Tryd.f34 (.seq none .leaf (.seq none (.seq none .leaf (.one (.loop [8] (.seq none .leaf (.seq none (.two .leaf .leaf) (.seq none (.one (.seq none .leaf (.seq none .leaf (.two (.seq none .leaf .leaf) .leaf)))) .leaf)))))) (.seq none .leaf .leaf))) [a0, a1] H R = F.slices_IndexFunc_Lexpr_Expr_expr_Expr E Tryd.prog a0 a1 H R := by kernel_rfl
theorem b_pstrings_Builder_copyCheck (a0 : AV) (H : AH) (R : Kt) : bodyW E Tryd.prog Tryd.f35 (.seq none .leaf (.two .leaf (.seq none .leaf (.two .leaf .leaf)))) [a0] H R = F.pstrings_Builder_copyCheck E Tryd.prog a0 H R := by kernel_rfl
theorem b_pstrings_Builder_grow (a0 a1 : AV) (H : AH) (R : Kt) : bodyW E Tryd.prog Tryd.f36 (.seq none .draw (.seq none .leaf .leaf)) [a0, a1] H R = F.pstrings_Builder_grow E Tryd.prog a0 a1 H R := by kernel_rfl
theorem b_pref_parser_word (a0 : AV) (H : AH) (R : Kt) : bodyW E Tryd.prog Tryd.f37 (.seq none .leaf (.seq none .leaf (.seq none .leaf (.seq none (.one (.loop [3] (.seq none (.seq none .leaf (.two .leaf .leaf)) (.one .leaf)))) (.seq none .draw (.seq (some []) (.one (.seq none .leaf (.two .leaf (.seq none .leaf (.two .leaf .leaf))))) (.seq none .leaf .leaf))))))) [a0] H R = F.pref_parser_word E Tryd.prog a0 H R := by kernel_rfl
theorem b_pexpr_reader_take (a0 a1 : AV) (H : AH) (R : Kt) : bodyW E Tryd.prog Tryd.f38 (.seq none .leaf (.seq none .leaf (.seq none (.seq none .draw (.two (.seq none .leaf (.seq none .leaf .leaf)) .leaf)) (.seq none .leaf .leaf)))) [a0, a1] H R = F.pexpr_reader_take E Tryd.prog a0 a1 H R := by kernel_rfl
theorem b_pexpr_reader_one (a0 a1 : AV) (H : AH) (R : Kt) : bodyW E Tryd.prog Tryd.f39 (.seq none .leaf (.seq none (.seq none .leaf (.two (.seq none .leaf .leaf) .leaf)) (.seq none (.one (.seq none .leaf (.two (.seq none .leaf (.seq none (.seq none .leaf (.two (.seq none .leaf .leaf) .leaf)) (.seq none .leaf .leaf))) (.seq none .leaf (.two (.seq none .leaf (.seq none (.seq none .leaf (.two (.seq none .leaf .leaf) .leaf)) (.seq none (.seq none .leaf (.two (.seq none .leaf .leaf) .leaf)) (.seq none .leaf .leaf)))) (.seq none .leaf (.two (.seq none .leaf .leaf) (.seq none .leaf (.two (.seq none .leaf .leaf) (.seq none .leaf (.two (.seq none .leaf (.seq none .leaf .leaf)) (.seq none .leaf (.two (.seq none .leaf (.seq none .leaf .leaf)) .leaf))))))))))))) (.seq none .leaf (.seq none .leaf .leaf))))) [a0, a1] H R = F.pexpr_reader_one E Tryd.prog a0 a1 H R := by kernel_rfl
theorem b_strings_ContainsRune (a0 a1 : AV) (H : AH) (R : Kt) : bodyW E Tryd.prog Tryd.f42 (.seq none .leaf (.seq none .leaf .leaf)) [a0, a1] H R = F.strings_ContainsRune E Tryd.prog a0 a1 H R := by kernel_rfl
theorem b_ref_NameCheck (a0 : AV) (H : AH) (R : Kt) : bodyW E Tryd.prog Tryd.f43 (.seq none .leaf (.seq none (.seq none .leaf (.one (.loop [8] (.seq none .leaf (.seq none (.two .leaf .leaf) (.seq none (.one (.seq none .leaf (.seq none .leaf (.seq none .leaf (.seq none .leaf (.two (.seq none .leaf .leaf) .leaf)))))) .leaf)))))) (.seq none (.seq none .leaf (.one (.seq (some [41]) (.seq none .leaf (.two .leaf (.seq none .leaf (.two .leaf (.seq none .leaf (.two .leaf (.seq none .leaf (.two .leaf (.seq none .leaf (.two .leaf (.seq none .leaf (.two .leaf (.seq none .leaf (.two .leaf (.seq none .leaf (.two .leaf (.seq none .leaf (.two .leaf .leaf)))))))))))))))))) (.two (.seq none .leaf .leaf) .leaf)))) (.seq none .leaf .leaf)))) [a0] H R = F.ref_NameCheck E Tryd.prog a0 H R := by kernel_rfl
theorem b_pexpr_reader_word (a0 : AV) (H : AH) (R : Kt) : bodyW E Tryd.prog Tryd.f44 (.seq none .leaf (.seq none .leaf (.seq none .leaf (.seq none (.one (.loop [4] (.seq none (.seq none .leaf (.two .leaf .leaf)) (.one .leaf)))) (.seq none .draw (.seq none (.seq none .leaf (.two (.seq none .leaf .leaf) .leaf)) (.seq none (.seq none .leaf (.two (.seq none .leaf .leaf) .leaf)) (.seq none .leaf (.seq none .leaf .leaf))))))))) [a0] H R = F.pexpr_reader_word E Tryd.prog a0 H R := by kernel_rfl
theorem b_strings_IndexRune_ScV11 (a0 a1 : AV) (H : AH) (R : Kt) : bodyW E Tryd.prog Tryd.f45 (.seq none .leaf (.one (.seq none .leaf (.two (.seq none .leaf .leaf) (.seq none .leaf (.two (.seq none (.seq none .leaf (.one (.loop [] (.seq none .leaf (.seq none (.two .leaf .leaf) (.one (.seq none .leaf (.seq none .leaf (.two (.seq none .leaf .leaf) .leaf))))))))) (.seq none .leaf .leaf)) (.seq none .leaf (.two (.seq none .leaf .leaf) (.one (.seq none .leaf (.seq none .leaf (.seq none .leaf (.seq none .leaf (.seq none (.one (.loop [9] (.seq none (.seq none .leaf (.two .leaf .leaf)) (.one (.one (.seq (some [9]) (.seq none .draw (.two (.seq none .draw (.seq none (.seq none .leaf (.two (.seq none .leaf .leaf) .leaf)) .leaf)) .leaf)) (.seq none (.seq none .leaf (.one (.loop [12] (.seq none (.seq none .leaf (.two .leaf .leaf)) (.seq none (.one (.seq none .draw (.two .leaf .leaf))) .leaf))))) (.seq none (.seq none .leaf .leaf) (.seq none .leaf (.seq none .leaf (.seq none .leaf (.seq none .leaf (.two .leaf .leaf))))))))))))) (.seq none (.seq none .leaf .leaf) (.seq none .leaf (.seq none (.two (.seq none .leaf (.seq none .leaf (.two (.seq none .leaf .leaf) .leaf))) (.one (.seq none .leaf (.seq none .leaf (.seq none .leaf (.one (.loop [] (.seq none (.seq none .leaf (.two .leaf .leaf)) (.seq none (.one (.seq none .leaf (.two (.seq none (.seq none .leaf (.one (.loop [] (.seq none (.seq none .leaf (.two .leaf .leaf)) (.seq none (.one (.seq none .leaf (.two .leaf .leaf))) .leaf))))) (.seq none .leaf .leaf)) .leaf))) .leaf))))))))) (.seq none .leaf .leaf)))))))))))))))))) [a0, a1] H R = F.strings_IndexRune_ScV11 E Tryd.prog a0 a1 H R := by kernel_rfl
theorem b_strings_IndexByte (a0 a1 : AV) (H : AH) (R : Kt) : bodyW E Tryd.prog Tryd.f46 (.seq none .leaf (.seq none .leaf .leaf)) [a0, a1] H R = F.strings_IndexByte E Tryd.prog a0 a1 H R := by kernel_rfl
theorem b_expr_Name (a0 : AV) (H : AH) (R : Kt) : bodyW E Tryd.prog Tryd.f47 (.seq none .leaf (.seq none .leaf .leaf)) [a0] H R = F.expr_Name E Tryd.prog a0 H R := by kernel_rfl
theorem b_unicode_utf8_ValidRune (a0 : AV) (H : AH) (R : Kt) : bodyW E Tryd.prog Tryd.f48 (.seq none .leaf (.seq none (.one (.seq none .leaf (.two (.seq none .leaf .leaf) (.seq none .leaf (.two (.seq none .leaf .leaf) .leaf))))) (.seq none .leaf .leaf))) [a0] H R = F.unicode_utf8_ValidRune E Tryd.prog a0 H R := by kernel_rfl
theorem b_internal_bytealg_Cutover (a0 : AV) (H : AH) (R : Kt) : bodyW E Tryd.prog Tryd.f49 (.seq none .leaf (.seq none .leaf .leaf)) [a0] H R = F.internal_bytealg_Cutover E Tryd.prog a0 H R := by kernel_rfl
theorem b_internal_stringslite_IndexByte (a0 a1 : AV) (H : AH) (R : Kt) : bodyW E Tryd.prog Tryd.f51 (.seq none .leaf (.seq none .leaf .leaf)) [a0, a1] H R = F.internal_stringslite_IndexByte E Tryd.prog a0 a1 H R := by kernel_rfl
theorem b_strings_Trim (a0 a1 : AV) (H : AH) (R : Kt) : bodyW E Tryd.prog Tryd.f52 (.seq none .leaf (.seq none (.seq none .leaf (.two (.seq none .leaf .leaf) .leaf)) (.seq none (.seq none .leaf (.two (.seq none .draw .leaf) .leaf)) (.seq none (.seq none .leaf (.seq none .leaf (.two (.seq none .leaf .leaf) .leaf))) (.seq none .leaf .leaf))))) [a0, a1] H R = F.strings_Trim E Tryd.prog a0 a1 H R := by kernel_rfl
theorem b_strings_trimLeftByte (a0 a1 : AV) (H : AH) (R : Kt) : bodyW E Tryd.prog Tryd.f54 (.seq none .leaf (.seq none (.one (.loop [0] (.seq none (.seq none .leaf (.two .leaf .leaf)) (.one .leaf)))) (.seq none .leaf .leaf))) [a0, a1] H R = F.strings_trimLeftByte E Tryd.prog a0 a1 H R := by kernel_rfl
theorem b_strings_trimRightByte (a0 a1 : AV) (H : AH) (R : Kt) : bodyW E Tryd.prog Tryd.f55 (.seq none .leaf (.seq none (.one (.loop [0] (.seq none (.seq none .leaf (.two .leaf .leaf)) (.one .leaf)))) (.seq none .leaf .leaf))) [a0, a1] H R = F.strings_trimRightByte E Tryd.prog a0 a1 H R := by kernel_rfl
theorem b_strings_makeASCIISet (a0 : AV) (H : AH) (R : Kt) : bodyW E Tryd.prog Tryd.f56 (.seq none .leaf (.seq none (.seq none .leaf (.one (.loop [4] (.seq none (.seq none .leaf (.two .leaf .leaf)) (.seq none (.one (.seq none .leaf (.seq none (.seq none .leaf (.two (.seq none .leaf .leaf) .leaf)) .leaf))) .leaf))))) (.seq none .leaf .leaf))) [a0] H R = F.strings_makeASCIISet E Tryd.prog a0 H R := by kernel_rfl
theorem b_strings_trimLeftASCII (a0 a1 : AV) (H : AH) (R : Kt) : bodyW E Tryd.prog Tryd.f57 (.seq none .leaf (.seq (some [0]) (.one (.loop [0] (.seq none (.seq none .leaf (.two .leaf .leaf)) (.one (.seq none (.seq none .leaf (.two .leaf .leaf)) .leaf))))) (.seq none .leaf .leaf))) [a0, a1] H R = F.strings_trimLeftASCII E Tryd.prog a0 a1 H R := by kernel_rfl
theorem b_strings_trimRightASCII (a0 a1 : AV) (H : AH) (R : Kt) : bodyW E Tryd.prog Tryd.f58 (.seq none .leaf (.seq (some [0]) (.one (.loop [0] (.seq none (.seq none .leaf (.two .leaf .leaf)) (.one (.seq none (.seq none .leaf (.two .leaf .leaf)) .leaf))))) (.seq none .leaf .leaf))) [a0, a1] H R = F.strings_trimRightASCII E Tryd.prog a0 a1 H R := by kernel_rfl
theorem b_strings_trimLeftUnicode (a0 a1 : AV) (H : AH) (R : Kt) : bodyW E Tryd.prog Tryd.f59 (.seq none .leaf (.seq (some [0]) (.one (.loop [0] (.seq none (.seq none .leaf (.two .leaf .leaf)) (.one (.seq none .leaf (.seq none (.seq none .leaf (.two .leaf .leaf)) .leaf)))))) (.seq none .leaf .leaf))) [a0, a1] H R = F.strings_trimLeftUnicode E Tryd.prog a0 a1 H R := by kernel_rfl
theorem b_strings_trimRightUnicode (a0 a1 : AV) (H : AH) (R : Kt) : bodyW E Tryd.prog Tryd.f60 (.seq none .leaf (.seq (some [0]) (.one (.loop [0] (.seq none (.seq none .leaf (.two .leaf .leaf)) (.one (.seq none .leaf (.seq (some [5, 6]) (.seq none .leaf (.two .leaf .leaf)) (.seq none (.seq none .leaf (.two .leaf .leaf)) .leaf))))))) (.seq none .leaf .leaf))) [a0, a1] H R = F.strings_trimRightUnicode E Tryd.prog a0 a1 H R := by kernel_rfl
theorem b_pstrings_asciiSet_contains (a0 a1 : AV) (H : AH) (R : Kt) : bodyW E Tryd.prog Tryd.f61 (.seq none .leaf (.seq none .leaf .leaf)) [a0, a1] H R = F.pstrings_asciiSet_contains E Tryd.prog a0 a1 H R := by kernel_rfl
theorem b_unicode_utf8_DecodeRuneInString (a0 : AV) (H : AH) (R : Kt) : bodyW E Tryd.prog Tryd.f62 (.seq none .leaf (.seq none (.seq none .leaf (.two (.seq none .leaf .leaf) .leaf)) .leaf)) [a0] H R = F.unicode_utf8_DecodeRuneInString E Tryd.prog a0 H R := by kernel_rfl
theorem b_unicode_utf8_DecodeLastRuneInString (a0 : AV) (H : AH) (R : Kt) : bodyW E Tryd.prog Tryd.f63 (.seq none .leaf (.seq none .leaf (.seq none (.seq none .leaf (.two (.seq none .leaf .leaf) .leaf)) (.seq none .leaf (.seq none .leaf (.seq none (.seq none .leaf (.two (.seq none .leaf .leaf) .leaf)) (.seq none .leaf (.seq (some [5]) (.seq none .leaf (.one (.loop [5] (.seq none (.seq none .leaf (.two .leaf .leaf)) (.seq none (.one (.seq none .leaf (.two .leaf .leaf))) .leaf))))) (.seq (some [5]) (.seq none .leaf (.two .leaf .leaf)) (.seq none .leaf (.seq none (.seq none .leaf (.two (.seq none .leaf .leaf) .leaf)) (.seq none .leaf .leaf)))))))))))) [a0] H R = F.unicode_utf8_DecodeLastRuneInString E Tryd.prog a0 H R := by kernel_rfl
theorem b_unicode_utf8_decodeRuneInStringSlow (a0 : AV) (H : AH) (R : Kt) : bodyW E Tryd.prog Tryd.f64 (.seq none .leaf (.seq none .leaf (.seq none (.seq none .leaf (.two (.seq none .leaf .leaf) .leaf)) (.seq none .leaf (.seq none .leaf (.seq none (.seq none .leaf (.two (.seq none .leaf (.seq none .leaf .leaf)) .leaf)) (.seq none .leaf (.seq none .leaf (.seq none (.seq none .leaf (.two (.seq none .leaf .leaf) .leaf)) (.seq none .leaf (.seq none (.seq none .leaf (.two (.seq none .leaf .leaf) .leaf)) (.seq none (.seq none .leaf (.two (.seq none .leaf .leaf) .leaf)) (.seq none .leaf (.seq none (.seq none .leaf (.two (.seq none .leaf .leaf) .leaf)) (.seq none (.seq none .leaf (.two (.seq none .leaf .leaf) .leaf)) (.seq none .leaf (.seq none (.seq none .leaf (.two (.seq none .leaf .leaf) .leaf)) (.seq none .leaf .leaf)))))))))))))))))) [a0] H R = F.unicode_utf8_decodeRuneInStringSlow E Tryd.prog a0 H R := by kernel_rfl
theorem b_unicode_utf8_RuneStart (a0 : AV) (H : AH) (R : Kt) : bodyW E Tryd.prog Tryd.f65 (.seq none .leaf (.seq none .leaf .leaf)) [a0] H R = F.unicode_utf8_RuneStart E Tryd.prog a0 H R := by kernel_rfl
theorem b_expr_Not_Text (a0 : AV) (H : AH) (R : Kt) : bodyW E Tryd.prog Tryd.f83 (.seq none .leaf (.seq none .leaf .leaf)) [a0] H R = F.expr_Not_Text E Tryd.prog a0 H R := by kernel_rfl
theorem b_expr_write (a0 a1 : AV) (H : AH) (R : Kt) : bodyW E Tryd.prog Tryd.f84 (.seq none .leaf (.seq none (.seq none .leaf (.one (.seq none .leaf (.two (.seq none .leaf (.seq none (.seq none .leaf (.two (.seq none .leaf .leaf) .leaf)) (.seq none .leaf .leaf))) (.seq none .leaf (.two (.seq none .leaf (.seq none .leaf .leaf)) (.seq none .leaf (.two (.seq none .leaf (.seq none .leaf .leaf)) (.seq none .leaf (.two (.seq none .leaf (.seq none .leaf .leaf)) (.seq none .leaf (.two (.seq none .leaf (.seq none .leaf .leaf)) (.seq none .leaf (.two (.seq none .leaf (.seq none .leaf .leaf)) (.seq none .leaf (.two (.seq none .leaf (.seq none .leaf .leaf)) .leaf)))))))))))))))) (.seq none .leaf .leaf))) [a0, a1] H R = F.expr_write E Tryd.prog a0 a1 H R := by kernel_rfl
theorem b_expr_join (a0 a1 a2 a3 : AV) (H : AH) (R : Kt) : bodyW E Tryd.prog Tryd.f85 (.seq none .leaf (.seq none .leaf (.seq none (.seq none .leaf (.one (.loop [9, 14] (.seq none .leaf (.seq none (.two .leaf .leaf) (.seq none (.one (.seq none .leaf .leaf)) .leaf)))))) (.seq none (.seq none .leaf (.two (.seq none .leaf .leaf) .leaf)) (.seq none .leaf .leaf))))) [a0, a1, a2, a3] H R = F.expr_join E Tryd.prog a0 a1 a2 a3 H R := by kernel_rfl
theorem b_expr_Const_Text (a0 : AV) (H : AH) (R : Kt) : bodyW E Tryd.prog Tryd.f86 (.seq none .leaf (.seq none .leaf .leaf)) [a0] H R = F.expr_Const_Text E Tryd.prog a0 H R := by kernel_rfl
theorem b_expr_And_Text (a0 : AV) (H : AH) (R : Kt) : bodyW E Tryd.prog Tryd.f87 (.seq none .leaf (.seq none .leaf .leaf)) [a0] H R = F.expr_And_Text E Tryd.prog a0 H R := by kernel_rfl
theorem b_expr_Or_Text (a0 : AV) (H : AH) (R : Kt) : bodyW E Tryd.prog Tryd.f88 (.seq none .leaf (.seq none .leaf .leaf)) [a0] H R = F.expr_Or_Text E Tryd.prog a0 H R := by kernel_rfl
theorem b_expr_Rise_Text (a0 : AV) (H : AH) (R : Kt) : bodyW E Tryd.prog Tryd.f91 (.seq none .leaf (.seq none .leaf .leaf)) [a0] H R = F.expr_Rise_Text E Tryd.prog a0 H R := by kernel_rfl
theorem b_expr_Fall_Text (a0 : AV) (H : AH) (R : Kt) : bodyW E Tryd.prog Tryd.f92 (.seq none .leaf (.seq none .leaf .leaf)) [a0] H R = F.expr_Fall_Text E Tryd.prog a0 H R := by kernel_rfl
theorem b_expr_Bit_Text (a0 : AV) (H : AH) (R : Kt) : bodyW E Tryd.prog Tryd.f93 (.seq none .leaf (.seq none .leaf .leaf)) [a0] H R = F.expr_Bit_Text E Tryd.prog a0 H R := by kernel_rfl
theorem c_law_ExprTidies (a0 : AV) (H : AH) (R : Kt) (h : F.law_ExprTidies E Tryd.prog a0 H R) : ACalls E Tryd.prog 172 [a0] H R :=
  acalls_of_body (show Tryd.prog.funcs[E.fn 172]? = some Tryd.f3 from Tryd.func3) (by kernel_rfl) ((b_law_ExprTidies a0 H R).mpr h)
theorem c_law_read (a0 : AV) (H : AH) (R : Kt) (h : F.law_read E Tryd.prog a0 H R) : ACalls E Tryd.prog 169 [a0] H R :=
  acalls_of_body (show Tryd.prog.funcs[E.fn 169]? = some Tryd.f4 from Tryd.func4) (by kernel_rfl) ((b_law_read a0 H R).mpr h)
theorem c_expr_Text (a0 : AV) (H : AH) (R : Kt) (h : F.expr_Text E Tryd.prog a0 H R) : ACalls E Tryd.prog 127 [a0] H R :=
  acalls_of_body (show Tryd.prog.funcs[E.fn 127]? = some Tryd.f5 from Tryd.func5) (by kernel_rfl) ((b_expr_Text a0 H R).mpr h)
theorem c_expr_Tidy (a0 : AV) (H : AH) (R : Kt) (h : F.expr_Tidy E Tryd.prog a0 H R) : ACalls E Tryd.prog 170 [a0] H R :=
  acalls_of_body (show Tryd.prog.funcs[E.fn 170]? = some Tryd.f6 from Tryd.func6) (by kernel_rfl) ((b_expr_Tidy a0 H R).mpr h)
theorem c_pref_Expr_Tidy (a0 : AV) (H : AH) (R : Kt) (h : F.pref_Expr_Tidy E Tryd.prog a0 H R) : ACalls E Tryd.prog 171 [a0] H R :=
  acalls_of_body (show Tryd.prog.funcs[E.fn 171]? = some Tryd.f7 from Tryd.func7) (by kernel_rfl) ((b_pref_Expr_Tidy a0 H R).mpr h)
theorem c_pref_Expr_Text (a0 : AV) (H : AH) (R : Kt) (h : F.pref_Expr_Text E Tryd.prog a0 H R) : ACalls E Tryd.prog 128 [a0] H R :=
  acalls_of_body (show Tryd.prog.funcs[E.fn 128]? = some Tryd.f8 from Tryd.func8) (by kernel_rfl) ((b_pref_Expr_Text a0 H R).mpr h)
theorem c_ref_ExprParse (a0 : AV) (H : AH) (R : Kt) (h : F.ref_ExprParse E Tryd.prog a0 H R) : ACalls E Tryd.prog 125 [a0] H R :=
  acalls_of_body (show Tryd.prog.funcs[E.fn 125]? = some Tryd.f9 from Tryd.func9) (by kernel_rfl) ((b_ref_ExprParse a0 H R).mpr h)
theorem c_expr_Parse (a0 : AV) (H : AH) (R : Kt) (h : F.expr_Parse E Tryd.prog a0 H R) : ACalls E Tryd.prog 126 [a0] H R :=
  acalls_of_body (show Tryd.prog.funcs[E.fn 126]? = some Tryd.f10 from Tryd.func10) (by kernel_rfl) ((b_expr_Parse a0 H R).mpr h)
theorem c_expr_parts (a0 a1 : AV) (H : AH) (R : Kt) (h : F.expr_parts E Tryd.prog a0 a1 H R) : ACalls E Tryd.prog 173 [a0, a1] H R :=
  acalls_of_body (show Tryd.prog.funcs[E.fn 173]? = some Tryd.f11 from Tryd.func11) (by kernel_rfl) ((b_expr_parts a0 a1 H R).mpr h)
theorem c_pref_Expr_other (a0 : AV) (H : AH) (R : Kt) (h : F.pref_Expr_other E Tryd.prog a0 H R) : ACalls E Tryd.prog 174 [a0] H R :=
  acalls_of_body (show Tryd.prog.funcs[E.fn 174]? = some Tryd.f12 from Tryd.func12) (by kernel_rfl) ((b_pref_Expr_other a0 H R).mpr h)
theorem c_strings_Join (a0 a1 : AV) (H : AH) (R : Kt) (h : F.strings_Join E Tryd.prog a0 a1 H R) : ACalls E Tryd.prog 118 [a0, a1] H R :=
  acalls_of_body (show Tryd.prog.funcs[E.fn 118]? = some Tryd.f13 from Tryd.func13) (by kernel_rfl) ((b_strings_Join a0 a1 H R).mpr h)
theorem c_ref_Bare (a0 : AV) (H : AH) (R : Kt) (h : F.ref_Bare E Tryd.prog a0 H R) : ACalls E Tryd.prog 87 [a0] H R :=
  acalls_of_body (show Tryd.prog.funcs[E.fn 87]? = some Tryd.f14 from Tryd.func14) (by kernel_rfl) ((b_ref_Bare a0 H R).mpr h)
theorem c_pref_parser_whole (a0 a1 : AV) (H : AH) (R : Kt) (h : F.pref_parser_whole E Tryd.prog a0 a1 H R) : ACalls E Tryd.prog 130 [a0, a1] H R :=
  acalls_of_body (show Tryd.prog.funcs[E.fn 130]? = some Tryd.f15 from Tryd.func15) (by kernel_rfl) ((b_pref_parser_whole a0 a1 H R).mpr h)
theorem c_pref_parser_next (a0 : AV) (H : AH) (R : Kt) (h : F.pref_parser_next E Tryd.prog a0 H R) : ACalls E Tryd.prog 131 [a0] H R :=
  acalls_of_body (show Tryd.prog.funcs[E.fn 131]? = some Tryd.f16 from Tryd.func16) (by kernel_rfl) ((b_pref_parser_next a0 H R).mpr h)
theorem c_pref_parser_fail (a0 a1 : AV) (H : AH) (R : Kt) (h : F.pref_parser_fail E Tryd.prog a0 a1 H R) : ACalls E Tryd.prog 132 [a0, a1] H R :=
  acalls_of_body (show Tryd.prog.funcs[E.fn 132]? = some Tryd.f17 from Tryd.func17) (by kernel_rfl) ((b_pref_parser_fail a0 a1 H R).mpr h)
theorem c_pexpr_reader_or (a0 a1 : AV) (H : AH) (R : Kt) (h : F.pexpr_reader_or E Tryd.prog a0 a1 H R) : ACalls E Tryd.prog 133 [a0, a1] H R :=
  acalls_of_body (show Tryd.prog.funcs[E.fn 133]? = some Tryd.f18 from Tryd.func18) (by kernel_rfl) ((b_pexpr_reader_or a0 a1 H R).mpr h)
theorem c_pexpr_reader_blanks (a0 : AV) (H : AH) (R : Kt) (h : F.pexpr_reader_blanks E Tryd.prog a0 H R) : ACalls E Tryd.prog 134 [a0] H R :=
  acalls_of_body (show Tryd.prog.funcs[E.fn 134]? = some Tryd.f19 from Tryd.func19) (by kernel_rfl) ((b_pexpr_reader_blanks a0 H R).mpr h)
theorem c_pexpr_reader_fail (a0 a1 : AV) (H : AH) (R : Kt) (h : F.pexpr_reader_fail E Tryd.prog a0 a1 H R) : ACalls E Tryd.prog 135 [a0, a1] H R :=
  acalls_of_body (show Tryd.prog.funcs[E.fn 135]? = some Tryd.f20 from Tryd.func20) (by kernel_rfl) ((b_pexpr_reader_fail a0 a1 H R).mpr h)
theorem c_expr_parts_c1 (a0 a1 a2 : AV) (H : AH) (R : Kt) (h : F.expr_parts_c1 E Tryd.prog a0 a1 a2 H R) : ACalls E Tryd.prog 175 [a0, a1, a2] H R :=
  acalls_of_body (show Tryd.prog.funcs[E.fn 175]? = some Tryd.f21 from Tryd.func21) (by kernel_rfl) ((b_expr_parts_c1 a0 a1 a2 H R).mpr h)
theorem c_slices_Contains_Lstring_string (a0 a1 : AV) (H : AH) (R : Kt) (h : F.slices_Contains_Lstring_string E Tryd.prog a0 a1 H R) : ACalls E Tryd.prog 5 [a0, a1] H R :=
  acalls_of_body (show Tryd.prog.funcs[E.fn 5]? = some Tryd.f22 from Tryd.func22) (by kernel_rfl) ((b_slices_Contains_Lstring_string a0 a1 H R).mpr h)
theorem c_slices_ContainsFunc_Lexpr_Expr_expr_Expr (a0 a1 : AV) (H : AH) (R : Kt) (h : F.slices_ContainsFunc_Lexpr_Expr_expr_Expr E Tryd.prog a0 a1 H R) : ACalls E Tryd.prog 176 [a0, a1] H R :=
  acalls_of_body (show Tryd.prog.funcs[E.fn 176]? = some Tryd.f23 from Tryd.func23) (by kernel_rfl) ((b_slices_ContainsFunc_Lexpr_Expr_expr_Expr a0 a1 H R).mpr h)
theorem c_pstrings_Builder_Grow (a0 a1 : AV) (H : AH) (R : Kt) (h : F.pstrings_Builder_Grow E Tryd.prog a0 a1 H R) : ACalls E Tryd.prog 119 [a0, a1] H R :=
  acalls_of_body (show Tryd.prog.funcs[E.fn 119]? = some Tryd.f24 from Tryd.func24) (by kernel_rfl) ((b_pstrings_Builder_Grow a0 a1 H R).mpr h)
theorem c_pstrings_Builder_WriteString (a0 a1 : AV) (H : AH) (R : Kt) (h : F.pstrings_Builder_WriteString E Tryd.prog a0 a1 H R) : ACalls E Tryd.prog 120 [a0, a1] H R :=
  acalls_of_body (show Tryd.prog.funcs[E.fn 120]? = some Tryd.f25 from Tryd.func25) (by kernel_rfl) ((b_pstrings_Builder_WriteString a0 a1 H R).mpr h)
theorem c_pstrings_Builder_String (a0 : AV) (H : AH) (R : Kt) (h : F.pstrings_Builder_String E Tryd.prog a0 H R) : ACalls E Tryd.prog 121 [a0] H R :=
  acalls_of_body (show Tryd.prog.funcs[E.fn 121]? = some Tryd.f26 from Tryd.func26) (by kernel_rfl) ((b_pstrings_Builder_String a0 H R).mpr h)
theorem c_pref_parser_row (a0 a1 a2 a3 : AV) (H : AH) (R : Kt) (h : F.pref_parser_row E Tryd.prog a0 a1 a2 a3 H R) : ACalls E Tryd.prog 137 [a0, a1, a2, a3] H R :=
  acalls_of_body (show Tryd.prog.funcs[E.fn 137]? = some Tryd.f27 from Tryd.func27) (by kernel_rfl) ((b_pref_parser_row a0 a1 a2 a3 H R).mpr h)
theorem c_pref_parser_whole_c1 (a0 a1 : AV) (H : AH) (R : Kt) (h : F.pref_parser_whole_c1 E Tryd.prog a0 a1 H R) : ACalls E Tryd.prog 136 [a0, a1] H R :=
  acalls_of_body (show Tryd.prog.funcs[E.fn 136]? = some Tryd.f28 from Tryd.func28) (by kernel_rfl) ((b_pref_parser_whole_c1 a0 a1 H R).mpr h)
theorem c_pref_parser_piece (a0 a1 : AV) (H : AH) (R : Kt) (h : F.pref_parser_piece E Tryd.prog a0 a1 H R) : ACalls E Tryd.prog 141 [a0, a1] H R :=
  acalls_of_body (show Tryd.prog.funcs[E.fn 141]? = some Tryd.f29 from Tryd.func29) (by kernel_rfl) ((b_pref_parser_piece a0 a1 H R).mpr h)
theorem c_pref_parser_skip (a0 : AV) (H : AH) (R : Kt) (h : F.pref_parser_skip E Tryd.prog a0 H R) : ACalls E Tryd.prog 138 [a0] H R :=
  acalls_of_body (show Tryd.prog.funcs[E.fn 138]? = some Tryd.f30 from Tryd.func30) (by kernel_rfl) ((b_pref_parser_skip a0 H R).mpr h)
theorem c_pexpr_reader_several (a0 a1 a2 a3 : AV) (H : AH) (R : Kt) (h : F.pexpr_reader_several E Tryd.prog a0 a1 a2 a3 H R) : ACalls E Tryd.prog 140 [a0, a1, a2, a3] H R :=
  acalls_of_body (show Tryd.prog.funcs[E.fn 140]? = some Tryd.f31 from Tryd.func31) (by kernel_rfl) ((b_pexpr_reader_several a0 a1 a2 a3 H R).mpr h)
theorem c_pexpr_reader_and (a0 a1 : AV) (H : AH) (R : Kt) (h : F.pexpr_reader_and E Tryd.prog a0 a1 H R) : ACalls E Tryd.prog 139 [a0, a1] H R :=
  acalls_of_body (show Tryd.prog.funcs[E.fn 139]? = some Tryd.f32 from Tryd.func32) (by kernel_rfl) ((b_pexpr_reader_and a0 a1 H R).mpr h)
theorem c_slices_Index_Lstring_string (a0 a1 : AV) (H : AH) (R : Kt) (h : F.slices_Index_Lstring_string E Tryd.prog a0 a1 H R) : ACalls E Tryd.prog 13 [a0, a1] H R :=
  acalls_of_body (show Tryd.prog.funcs[E.fn 13]? = some Tryd.f33 from Tryd.func33) (by kernel_rfl) ((b_slices_Index_Lstring_string a0 a1 H R).mpr h)
theorem c_slices_IndexFunc_Lexpr_Expr_expr_Expr (a0 a1 : AV) (H : AH) (R : Kt) (h : F.slices_IndexFunc_Lexpr_Expr_expr_Expr E Tryd.prog a0 a1 H R) : ACalls E Tryd.prog 177 [a0, a1] H R :=
  acalls_of_body (show Tryd.prog.funcs[E.fn 177]? = some Tryd.f34 from Tryd.func34) (by kernel_rfl) ((b_slices_IndexFunc_Lexpr_Expr_expr_Expr a0 a1 H R).mpr h)
theorem c_pstrings_Builder_copyCheck (a0 : AV) (H : AH) (R : Kt) (h : F.pstrings_Builder_copyCheck E Tryd.prog a0 H R) : ACalls E Tryd.prog 122 [a0] H R :=
  acalls_of_body (show Tryd.prog.funcs[E.fn 122]? = some Tryd.f35 from Tryd.func35) (by kernel_rfl) ((b_pstrings_Builder_copyCheck a0 H R).mpr h)
theorem c_pstrings_Builder_grow (a0 a1 : AV) (H : AH) (R : Kt) (h : F.pstrings_Builder_grow E Tryd.prog a0 a1 H R) : ACalls E Tryd.prog 124 [a0, a1] H R :=
  acalls_of_body (show Tryd.prog.funcs[E.fn 124]? = some Tryd.f36 from Tryd.func36) (by kernel_rfl) ((b_pstrings_Builder_grow a0 a1 H R).mpr h)
theorem c_pref_parser_word (a0 : AV) (H : AH) (R : Kt) (h : F.pref_parser_word E Tryd.prog a0 H R) : ACalls E Tryd.prog 142 [a0] H R :=
  acalls_of_body (show Tryd.prog.funcs[E.fn 142]? = some Tryd.f37 from Tryd.func37) (by kernel_rfl) ((b_pref_parser_word a0 H R).mpr h)
theorem c_pexpr_reader_take (a0 a1 : AV) (H : AH) (R : Kt) (h : F.pexpr_reader_take E Tryd.prog a0 a1 H R) : ACalls E Tryd.prog 143 [a0, a1] H R :=
  acalls_of_body (show Tryd.prog.funcs[E.fn 143]? = some Tryd.f38 from Tryd.func38) (by kernel_rfl) ((b_pexpr_reader_take a0 a1 H R).mpr h)
theorem c_pexpr_reader_one (a0 a1 : AV) (H : AH) (R : Kt) (h : F.pexpr_reader_one E Tryd.prog a0 a1 H R) : ACalls E Tryd.prog 144 [a0, a1] H R :=
  acalls_of_body (show Tryd.prog.funcs[E.fn 144]? = some Tryd.f39 from Tryd.func39) (by kernel_rfl) ((b_pexpr_reader_one a0 a1 H R).mpr h)
theorem c_strings_ContainsRune (a0 a1 : AV) (H : AH) (R : Kt) (h : F.strings_ContainsRune E Tryd.prog a0 a1 H R) : ACalls E Tryd.prog 16 [a0, a1] H R :=
  acalls_of_body (show Tryd.prog.funcs[E.fn 16]? = some Tryd.f42 from Tryd.func42) (by kernel_rfl) ((b_strings_ContainsRune a0 a1 H R).mpr h)
theorem c_ref_NameCheck (a0 : AV) (H : AH) (R : Kt) (h : F.ref_NameCheck E Tryd.prog a0 H R) : ACalls E Tryd.prog 2 [a0] H R :=
  acalls_of_body (show Tryd.prog.funcs[E.fn 2]? = some Tryd.f43 from Tryd.func43) (by kernel_rfl) ((b_ref_NameCheck a0 H R).mpr h)
theorem c_pexpr_reader_word (a0 : AV) (H : AH) (R : Kt) (h : F.pexpr_reader_word E Tryd.prog a0 H R) : ACalls E Tryd.prog 145 [a0] H R :=
  acalls_of_body (show Tryd.prog.funcs[E.fn 145]? = some Tryd.f44 from Tryd.func44) (by kernel_rfl) ((b_pexpr_reader_word a0 H R).mpr h)
theorem c_strings_IndexRune_ScV11 (a0 a1 : AV) (H : AH) (R : Kt) (h : F.strings_IndexRune_ScV11 E Tryd.prog a0 a1 H R) : ACalls E Tryd.prog 19 [a0, a1] H R :=
  acalls_of_body (show Tryd.prog.funcs[E.fn 19]? = some Tryd.f45 from Tryd.func45) (by kernel_rfl) ((b_strings_IndexRune_ScV11 a0 a1 H R).mpr h)
theorem c_strings_IndexByte (a0 a1 : AV) (H : AH) (R : Kt) (h : F.strings_IndexByte E Tryd.prog a0 a1 H R) : ACalls E Tryd.prog 21 [a0, a1] H R :=
  acalls_of_body (show Tryd.prog.funcs[E.fn 21]? = some Tryd.f46 from Tryd.func46) (by kernel_rfl) ((b_strings_IndexByte a0 a1 H R).mpr h)
theorem c_expr_Name (a0 : AV) (H : AH) (R : Kt) (h : F.expr_Name E Tryd.prog a0 H R) : ACalls E Tryd.prog 1 [a0] H R :=
  acalls_of_body (show Tryd.prog.funcs[E.fn 1]? = some Tryd.f47 from Tryd.func47) (by kernel_rfl) ((b_expr_Name a0 H R).mpr h)
theorem c_unicode_utf8_ValidRune (a0 : AV) (H : AH) (R : Kt) (h : F.unicode_utf8_ValidRune E Tryd.prog a0 H R) : ACalls E Tryd.prog 22 [a0] H R :=
  acalls_of_body (show Tryd.prog.funcs[E.fn 22]? = some Tryd.f48 from Tryd.func48) (by kernel_rfl) ((b_unicode_utf8_ValidRune a0 H R).mpr h)
theorem c_internal_bytealg_Cutover (a0 : AV) (H : AH) (R : Kt) (h : F.internal_bytealg_Cutover E Tryd.prog a0 H R) : ACalls E Tryd.prog 24 [a0] H R :=
  acalls_of_body (show Tryd.prog.funcs[E.fn 24]? = some Tryd.f49 from Tryd.func49) (by kernel_rfl) ((b_internal_bytealg_Cutover a0 H R).mpr h)
theorem c_internal_stringslite_IndexByte (a0 a1 : AV) (H : AH) (R : Kt) (h : F.internal_stringslite_IndexByte E Tryd.prog a0 a1 H R) : ACalls E Tryd.prog 23 [a0, a1] H R :=
  acalls_of_body (show Tryd.prog.funcs[E.fn 23]? = some Tryd.f51 from Tryd.func51) (by kernel_rfl) ((b_internal_stringslite_IndexByte a0 a1 H R).mpr h)
theorem c_strings_Trim (a0 a1 : AV) (H : AH) (R : Kt) (h : F.strings_Trim E Tryd.prog a0 a1 H R) : ACalls E Tryd.prog 4 [a0, a1] H R :=
  acalls_of_body (show Tryd.prog.funcs[E.fn 4]? = some Tryd.f52 from Tryd.func52) (by kernel_rfl) ((b_strings_Trim a0 a1 H R).mpr h)
theorem c_strings_trimLeftByte (a0 a1 : AV) (H : AH) (R : Kt) (h : F.strings_trimLeftByte E Tryd.prog a0 a1 H R) : ACalls E Tryd.prog 7 [a0, a1] H R :=
  acalls_of_body (show Tryd.prog.funcs[E.fn 7]? = some Tryd.f54 from Tryd.func54) (by kernel_rfl) ((b_strings_trimLeftByte a0 a1 H R).mpr h)
theorem c_strings_trimRightByte (a0 a1 : AV) (H : AH) (R : Kt) (h : F.strings_trimRightByte E Tryd.prog a0 a1 H R) : ACalls E Tryd.prog 6 [a0, a1] H R :=
  acalls_of_body (show Tryd.prog.funcs[E.fn 6]? = some Tryd.f55 from Tryd.func55) (by kernel_rfl) ((b_strings_trimRightByte a0 a1 H R).mpr h)
theorem c_strings_makeASCIISet (a0 : AV) (H : AH) (R : Kt) (h : F.strings_makeASCIISet E Tryd.prog a0 H R) : ACalls E Tryd.prog 8 [a0] H R :=
  acalls_of_body (show Tryd.prog.funcs[E.fn 8]? = some Tryd.f56 from Tryd.func56) (by kernel_rfl) ((b_strings_makeASCIISet a0 H R).mpr h)
theorem c_strings_trimLeftASCII (a0 a1 : AV) (H : AH) (R : Kt) (h : F.strings_trimLeftASCII E Tryd.prog a0 a1 H R) : ACalls E Tryd.prog 10 [a0, a1] H R :=
  acalls_of_body (show Tryd.prog.funcs[E.fn 10]? = some Tryd.f57 from Tryd.func57) (by kernel_rfl) ((b_strings_trimLeftASCII a0 a1 H R).mpr h)
theorem c_strings_trimRightASCII (a0 a1 : AV) (H : AH) (R : Kt) (h : F.strings_trimRightASCII E Tryd.prog a0 a1 H R) : ACalls E Tryd.prog 9 [a0, a1] H R :=
  acalls_of_body (show Tryd.prog.funcs[E.fn 9]? = some Tryd.f58 from Tryd.func58) (by kernel_rfl) ((b_strings_trimRightASCII a0 a1 H R).mpr h)
theorem c_strings_trimLeftUnicode (a0 a1 : AV) (H : AH) (R : Kt) (h : F.strings_trimLeftUnicode E Tryd.prog a0 a1 H R) : ACalls E Tryd.prog 12 [a0, a1] H R :=
  acalls_of_body (show Tryd.prog.funcs[E.fn 12]? = some Tryd.f59 from Tryd.func59) (by kernel_rfl) ((b_strings_trimLeftUnicode a0 a1 H R).mpr h)
theorem c_strings_trimRightUnicode (a0 a1 : AV) (H : AH) (R : Kt) (h : F.strings_trimRightUnicode E Tryd.prog a0 a1 H R) : ACalls E Tryd.prog 11 [a0, a1] H R :=
  acalls_of_body (show Tryd.prog.funcs[E.fn 11]? = some Tryd.f60 from Tryd.func60) (by kernel_rfl) ((b_strings_trimRightUnicode a0 a1 H R).mpr h)
theorem c_pstrings_asciiSet_contains (a0 a1 : AV) (H : AH) (R : Kt) (h : F.pstrings_asciiSet_contains E Tryd.prog a0 a1 H R) : ACalls E Tryd.prog 14 [a0, a1] H R :=
  acalls_of_body (show Tryd.prog.funcs[E.fn 14]? = some Tryd.f61 from Tryd.func61) (by kernel_rfl) ((b_pstrings_asciiSet_contains a0 a1 H R).mpr h)
theorem c_unicode_utf8_DecodeRuneInString (a0 : AV) (H : AH) (R : Kt) (h : F.unicode_utf8_DecodeRuneInString E Tryd.prog a0 H R) : ACalls E Tryd.prog 15 [a0] H R :=
  acalls_of_body (show Tryd.prog.funcs[E.fn 15]? = some Tryd.f62 from Tryd.func62) (by kernel_rfl) ((b_unicode_utf8_DecodeRuneInString a0 H R).mpr h)
theorem c_unicode_utf8_DecodeLastRuneInString (a0 : AV) (H : AH) (R : Kt) (h : F.unicode_utf8_DecodeLastRuneInString E Tryd.prog a0 H R) : ACalls E Tryd.prog 17 [a0] H R :=
  acalls_of_body (show Tryd.prog.funcs[E.fn 17]? = some Tryd.f63 from Tryd.func63) (by kernel_rfl) ((b_unicode_utf8_DecodeLastRuneInString a0 H R).mpr h)
theorem c_unicode_utf8_decodeRuneInStringSlow (a0 : AV) (H : AH) (R : Kt) (h : F.unicode_utf8_decodeRuneInStringSlow E Tryd.prog a0 H R) : ACalls E Tryd.prog 18 [a0] H R :=
  acalls_of_body (show Tryd.prog.funcs[E.fn 18]? = some Tryd.f64 from Tryd.func64) (by kernel_rfl) ((b_unicode_utf8_decodeRuneInStringSlow a0 H R).mpr h)
theorem c_unicode_utf8_RuneStart (a0 : AV) (H : AH) (R : Kt) (h : F.unicode_utf8_RuneStart E Tryd.prog a0 H R) : ACalls E Tryd.prog 20 [a0] H R :=
  acalls_of_body (show Tryd.prog.funcs[E.fn 20]? = some Tryd.f65 from Tryd.func65) (by kernel_rfl) ((b_unicode_utf8_RuneStart a0 H R).mpr h)
theorem c_expr_Not_Text (a0 : AV) (H : AH) (R : Kt) (h : F.expr_Not_Text E Tryd.prog a0 H R) : ACalls E Tryd.prog 150 [a0] H R :=
  acalls_of_body (show Tryd.prog.funcs[E.fn 150]? = some Tryd.f83 from Tryd.func83) (by kernel_rfl) ((b_expr_Not_Text a0 H R).mpr h)
theorem c_expr_write (a0 a1 : AV) (H : AH) (R : Kt) (h : F.expr_write E Tryd.prog a0 a1 H R) : ACalls E Tryd.prog 146 [a0, a1] H R :=
  acalls_of_body (show Tryd.prog.funcs[E.fn 146]? = some Tryd.f84 from Tryd.func84) (by kernel_rfl) ((b_expr_write a0 a1 H R).mpr h)
theorem c_expr_join (a0 a1 a2 a3 : AV) (H : AH) (R : Kt) (h : F.expr_join E Tryd.prog a0 a1 a2 a3 H R) : ACalls E Tryd.prog 148 [a0, a1, a2, a3] H R :=
  acalls_of_body (show Tryd.prog.funcs[E.fn 148]? = some Tryd.f85 from Tryd.func85) (by kernel_rfl) ((b_expr_join a0 a1 a2 a3 H R).mpr h)
theorem c_expr_Const_Text (a0 : AV) (H : AH) (R : Kt) (h : F.expr_Const_Text E Tryd.prog a0 H R) : ACalls E Tryd.prog 151 [a0] H R :=
  acalls_of_body (show Tryd.prog.funcs[E.fn 151]? = some Tryd.f86 from Tryd.func86) (by kernel_rfl) ((b_expr_Const_Text a0 H R).mpr h)
theorem c_expr_And_Text (a0 : AV) (H : AH) (R : Kt) (h : F.expr_And_Text E Tryd.prog a0 H R) : ACalls E Tryd.prog 149 [a0] H R :=
  acalls_of_body (show Tryd.prog.funcs[E.fn 149]? = some Tryd.f87 from Tryd.func87) (by kernel_rfl) ((b_expr_And_Text a0 H R).mpr h)
theorem c_expr_Or_Text (a0 : AV) (H : AH) (R : Kt) (h : F.expr_Or_Text E Tryd.prog a0 H R) : ACalls E Tryd.prog 147 [a0] H R :=
  acalls_of_body (show Tryd.prog.funcs[E.fn 147]? = some Tryd.f88 from Tryd.func88) (by kernel_rfl) ((b_expr_Or_Text a0 H R).mpr h)
theorem c_expr_Rise_Text (a0 : AV) (H : AH) (R : Kt) (h : F.expr_Rise_Text E Tryd.prog a0 H R) : ACalls E Tryd.prog 152 [a0] H R :=
  acalls_of_body (show Tryd.prog.funcs[E.fn 152]? = some Tryd.f91 from Tryd.func91) (by kernel_rfl) ((b_expr_Rise_Text a0 H R).mpr h)
theorem c_expr_Fall_Text (a0 : AV) (H : AH) (R : Kt) (h : F.expr_Fall_Text E Tryd.prog a0 H R) : ACalls E Tryd.prog 153 [a0] H R :=
  acalls_of_body (show Tryd.prog.funcs[E.fn 153]? = some Tryd.f92 from Tryd.func92) (by kernel_rfl) ((b_expr_Fall_Text a0 H R).mpr h)
theorem c_expr_Bit_Text (a0 : AV) (H : AH) (R : Kt) (h : F.expr_Bit_Text E Tryd.prog a0 H R) : ACalls E Tryd.prog 154 [a0] H R :=
  acalls_of_body (show Tryd.prog.funcs[E.fn 154]? = some Tryd.f93 from Tryd.func93) (by kernel_rfl) ((b_expr_Bit_Text a0 H R).mpr h)
end Go.Proofs.YtmeppifnagiamaaDoor
