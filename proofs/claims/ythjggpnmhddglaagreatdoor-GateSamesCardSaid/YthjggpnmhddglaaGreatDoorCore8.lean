/- CONTRACTS: package signalboxref: a whole expression. A CONTRACT OUT OF A WALK OF THE KIT's OWN: a call that leaves all old memory as it was, and answers without memory. CONTRACTS: errors taken apart: plain.Place. CONTRACTS: package signalboxref: expressions are read. CONTRACTS: how expressions are written. CONTRACTS: package expr: what an expression says, and how great it is. WHAT AN EXPRESSION's TEXT TELLS IS THAT EXPRESSION AGAIN: plain. CONTRACTS: package expr: how great an expression is; the keep's fact of it. CONTRACTS OUT OF THE KIT's SHELF: strings.Join, strings.IndexByte. CONTRACTS OUT OF THE KIT's SHELF: what writes a row of texts of the caller's: slices.Sort, slices.Compact. (of the seat YthjggpnmhddglaaGreatDoor) -/
import Derived.Test.YthjggpnmhddglaaGreatDoorCore7
import Derived.Lib.Join
import Derived.Lib.Bytealg
import Derived.Sort.Row
import Derived.Sort.EncStr
import Derived.Sort.Grow
import Derived.Lib.SlicesCompact
namespace Go.Sc
open Go
set_option linter.unusedSimpArgs false
set_option linter.unusedVariables false
set_option linter.unnecessarySimpa false
/-- what the document's reader answers -/
def PR (s : Str) (r : Rs Ex) (x : AV) (cs : List AV) : Prop := match r with
  | .ok e j => x = e.ref ∧ cs = pd s j 0 (-1)
  | .no e p => x.closed ∧ x.scalar = true ∧ ∃ j : Int, cs = pd s j e p
theorem PR.closed {s : Str} {r : Rs Ex} {x : AV} {cs : List AV} (h : PR s r x cs) : x.closed ∧ AV.closedL cs := by
  unfold PR at h
  split at h
  · obtain ⟨rfl, rfl⟩ := h; exact ⟨Ex.ref_closed _, pd_closed _ _ _ _⟩
  · obtain ⟨hz, _, j, rfl⟩ := h; exact ⟨hz, pd_closed _ _ _ _⟩
theorem Ex.refL_len (l : List Ex) : (Ex.refL l).length = l.length := by rw [Ex.refL_map, List.length_map]
theorem Ex.refL_snoc (l : List Ex) (x : Ex) : Ex.refL (l ++ [x]) = Ex.refL l ++ [x.ref] := by simp [Ex.refL_map]
section
variable {E : Env} {P : Program}
/-- what stands at the head of a row's loop -/
def RowI (s : Str) (c : UInt8) (f : Nat → Rs Ex) (i g : Nat) (m : Nat) (t : AV) (H : AH) : Prop :=
  (∃ (n : Nat) (l : List Ex) (j : Nat) (z : Blk) (c' : Nat), Gr 1 z 1 t (Ex.refL l) l.length ∧ l ≠ [] ∧ j ≤ s.length ∧ l.length ≤ j + 1 ∧ s.length < n + (skipTo s j + 1) ∧ m = s.length - j + 1 ∧ H = ⟨[.cells g 4 (pd s j 0 (-1)), z], c'⟩ ∧
    rowR s c f (s.length + 1) i [] = (if s[skipTo s j]? = some c then rowR s c f n (skipTo s j + 1) l else .ok l (skipTo s j))) ∨
  (∃ (e p : Nat) (cs : List AV) (z : Blk) (j : Int) (c' : Nat), rowR s c f (s.length + 1) i [] = .no e p ∧ Gr 1 z 1 t cs cs.length ∧ AV.closedL cs ∧ (∀ x ∈ cs, x.scalar = true) ∧ cs ≠ [] ∧ m = 0 ∧ H = ⟨[.cells g 4 (pd s j e p), z], c'⟩)
set_option maxHeartbeats 1000000 in
theorem row_spec (B : RefReadBodies E P) (s : Str) (hs : s.length < 1000000) (c : UInt8) (hc0 : c ≠ 0) (hc128 : c.toNat < 128) (mk : List Ex → Ex) (hmk : ∀ l, (mk l).ref = .ptrF [S [c], S [], .slN (Ex.refL l) l.length] 0) (f : Nat → Rs Ex) (hgood : GoodR s f) (herr : ErrR f) (kf : Nat) (fsf ccf : Nat → Nat → List AV) (a : Nat)
    (hren : ∀ h g, AV.renL h (fsf 0 g) = fsf (h 0) g ∧ AV.renL h (ccf 0 g) = ccf (h 0) g) (hf : ∀ i, i ≤ s.length → PC E P kf 4 (pd s i 0 (-1)) (fun b g => fsf b g ++ [Z a] ++ ccf b g) (PR s (f i))) (i : Nat) (hi : i ≤ s.length) :
    PC E P 137 4 (pd s i 0 (-1)) (fun b g => [.ptrL b 0 g, By c, Z a, .fn kf (fsf b g) (ccf b g)]) (PR s (allR s c mk f i)) := by
  refine PC.of (fun h g => by simp only [AV.renL, AV.ren, (hren h g).1, (hren h g).2]) (pd_closed _ _ _ _) (fun _ _ h => h.closed) fun n g R hR => B.row _ _ _ _ _ _ ?_
  unfold F.pref_parser_row
  have hbnd : ∀ k : Nat, k ≤ 1000001 → (k + 1) * 8 ≤ mostBytes ∧ k + 1 ≤ mostBytes := fun k hk => by simp [mostBytes]; omega
  refine wCallV.pc (b := 0) (hf i hi) rfl rfl ?_
  intro r cs n1 hr
  have hrow : rowR s c f (s.length + 1) i [] = (match f i with
    | .no e p => .no e p
    | .ok x j => if s[skipTo s j]? = some c then rowR s c f s.length (skipTo s j + 1) [x] else .ok [x] (skipTo s j)) := by
    rw [rowR]; cases f i <;> rfl
  have hrs : r.scalar = true ∧ r.closed := by
    unfold PR at hr
    split at hr
    · obtain ⟨rfl, _⟩ := hr; exact ⟨Ex.ref_scalar _, Ex.ref_closed _⟩
    · exact ⟨hr.2.1, hr.1⟩
  simp only [nd0, Y1n, Y1o, Y1p, Y1q, Y1w, Y1x, Y1y, Y1z, Y20, Y21, Y28, Y2a, AV.cells?, Nat.reduceAdd, Nat.reduceMul]
  refine wNewS.T (l := [r]) (l' := [r]) (fill1 hrs.1) (.refl _) rfl ?_
  simp only [nd0, Y1n, Y1o, Y1p, Y1q, Y1w, Y1x, Y1y, Y1z, Y20, Y21, Y28, Y2a, AV.cells?, Nat.reduceAdd, Nat.reduceMul]
  have hinit : ∃ m, gh1 (RowI s c f i g m) (.slT 1 [r] 1 n1) ⟨[.cells g 4 cs, .tail n1 1], n1 + 1⟩ := by
    cases hx : f i with
    | ok x j =>
      rw [hx] at hr hrow
      obtain ⟨rfl, rfl⟩ := hr
      obtain ⟨a1, a2, a3, a4⟩ := hgood i x j hi hx
      have := skipTo_le s j
      exact ⟨_, gh1.mk (.inl ⟨s.length, [x], j, .tail n1 1, n1 + 1, .mk, by simp, a2, by simp, by omega, rfl, rfl, hrow⟩)⟩
    | no e p =>
      rw [hx] at hr hrow
      obtain ⟨h1, h2, j, rfl⟩ := hr
      exact ⟨_, gh1.mk (.inr ⟨e, p, [r], .tail n1 1, j, n1 + 1, hrow, .mk, ⟨h1, trivial⟩, by simpa using h2, by simp, rfl, rfl⟩)⟩
  obtain ⟨m0, hinit⟩ := hinit
  refine wLoop.one (RowI s c f i g) m0 hinit ?_
  have hfin : ∀ (t : AV) (ys : List AV) (z : Blk) (cs' : List AV) (c' : Nat), Gr 1 z 1 t ys ys.length → AV.closedL ys → ys ≠ [] → (∀ v, (ys = [v] ∧ (v.scalar = true → True) ∨ ys.length ≠ 1 ∧ v = .ptrF [S [c], S [], .slN ys ys.length] 0) → PR s (allR s c mk f i) v cs') →
      wGet (lenA t) ⟨[.cells g 4 cs', z], c'⟩ fun t40 H =>
      wGet (binA .eql t40 (.val (.int .i64 1))) H fun t41 H =>
      wIf t41 (
        wGet (iaddr 1 t (.val (.int .i64 0))) H fun t43 H =>
        wGet (load1 t43 H) H fun t44 H =>
        R t44 H) (
        wGet (convA .string (By c)) H fun t46 H =>
        wAgg (fillA [(.val (.string ⟨#[]⟩)), (.val (.string ⟨#[]⟩)), (.val (.slice none 0 0))] [(0, 1, t46), (2, 1, t)]) H fun t48 H =>
        wNew 3 (AV.cells? t48) H fun t49 H =>
        R t49 H) := by
    intro t ys z cs' c' hg hcc hne hP
    rw [hg.len]
    simp only [nd0, Y1n, Y1o, Y1p, Y1q, Y1w, Y1x, Y1y, Y1z, Y20, Y21, Y28, Y2a, AV.cells?, Nat.reduceAdd, Nat.reduceMul]
    by_cases h1 : ys.length = 1
    · obtain ⟨y, rfl⟩ := List.length_eq_one_iff.1 h1
      simp only [nd0, Y1n, Y1o, Y1p, Y1q, Y1w, Y1x, Y1y, Y1z, Y20, Y21, Y28, Y2a, AV.cells?, Nat.reduceAdd, Nat.reduceMul, show (((1 : Nat)) : Int) = 1 from rfl]
      rw [hg.at (k := .i64) (i := 0) (by simp)]
      simp only [nd0, Y1n, Y1o, Y1p, Y1q, Y1w, Y1x, Y1y, Y1z, Y20, Y21, Y28, Y2a, AV.cells?, Nat.reduceAdd, Nat.reduceMul, show ((0 : Int).toNat * 1) = 0 from rfl]
      exact hR _ _ cs' [z] c' (.same _) (hP y (.inl ⟨rfl, fun _ => trivial⟩))
    · simp only [nd0, Y1n, Y1o, Y1p, Y1q, Y1w, Y1x, Y1y, Y1z, Y20, Y21, Y28, Y2a, AV.cells?, Nat.reduceAdd, Nat.reduceMul, decide_eq_false (show ¬ (ys.length : Int) = 1 by omega), conv_byte c hc128]
      rw [show (AV.val (.string ⟨#[]⟩)) = S [] from rfl, fillA_one rfl (by simp), fillA_one hg.scalar (by simp)]
      simp only [nd0, Y1n, Y1o, Y1p, Y1q, Y1w, Y1x, Y1y, Y1z, Y20, Y21, Y28, Y2a, AV.cells?, Nat.reduceAdd, Nat.reduceMul, fillA_nil]
      refine wNew.F (l := [S [c], S [], t]) (l' := [S [c], S [], .slN ys ys.length]) rfl (.cons (.refl _) (.cons (.refl _) (.one hg.sub))) ?_
      exact hR _ _ cs' [z] c' (.same _) (hP _ (.inr ⟨h1, rfl⟩))
  have p0 : ∀ j e p, (pd s j e p)[0]? = some (S s) := fun _ _ _ => rfl
  have p1 : ∀ j e p, (pd s j e p)[1]? = some (Z j) := fun _ _ _ => rfl
  have p2 : ∀ j e p, (pd s j e p)[2]? = some (Z e) := fun _ _ _ => rfl
  rintro m t H (⟨n, l, j, z, c', hg, hl, hj, hlj, hn, rfl, rfl, hrw⟩ | ⟨e, p, cs, z, j, c', hrw, hg, hcc, hsc, hne, rfl, rfl⟩)
  · -- so far none is wrong
    have b1 := skipTo_le s j
    have b2 := skipTo_len hj
    simp only [nd0, Y1n, Y1o, Y1p, Y1q, Y1w, Y1x, Y1y, Y1z, Y20, Y21, Y28, Y2a, AV.cells?, Nat.reduceAdd, Nat.reduceMul, p2, decide_eq_true (show (0 : Int) = 0 from rfl)]
    refine wCall.pc (b := 0) (rnext_spec B s j 0 (-1) hj hs) rfl rfl ?_
    rintro r cs n2 ⟨rfl, rfl⟩
    simp only [nd0, Y1n, Y1o, Y1p, Y1q, Y1w, Y1x, Y1y, Y1z, Y20, Y21, Y28, Y2a, AV.cells?, Nat.reduceAdd, Nat.reduceMul]
    by_cases hc : s[skipTo s j]? = some c
    · have hlt := lt_of_get hc
      rw [if_pos hc] at hrw
      rw [decide_eq_true ((nextC_eq hc0).2 hc)]
      refine wIf_true.2 ?_
      simp only [nd0, Y1n, Y1o, Y1p, Y1q, Y1w, Y1x, Y1y, Y1z, Y20, Y21, Y28, Y2a, AV.cells?, Nat.reduceAdd, Nat.reduceMul, p1]
      rw [binA_succ (by omega)]
      simp only [nd0, Y1n, Y1o, Y1p, Y1q, Y1w, Y1x, Y1y, Y1z, Y20, Y21, Y28, Y2a, AV.cells?, Nat.reduceAdd, Nat.reduceMul]
      rw [store1_L rfl]
      simp only [nd0, Y1n, Y1o, Y1p, Y1q, Y1w, Y1x, Y1y, Y1z, Y20, Y21, Y28, Y2a, AV.cells?, Nat.reduceAdd, Nat.reduceMul, show (1 : Nat) < (pd s (skipTo s j) 0 (-1)).length from (by show 1 < 4; omega)]
      refine wCallV.pc (b := 0) (hf (skipTo s j + 1) (by omega)) rfl rfl ?_
      intro r cs n3 hr
      obtain ⟨n, rfl⟩ : ∃ k, n = k + 1 := ⟨n - 1, by omega⟩
      have hst : rowR s c f (n + 1) (skipTo s j + 1) l = (match f (skipTo s j + 1) with
        | .no e p => .no e p
        | .ok x k => if s[skipTo s k]? = some c then rowR s c f n (skipTo s k + 1) (l ++ [x]) else .ok (l ++ [x]) (skipTo s k)) := by rw [rowR] <;> (cases f (skipTo s j + 1) <;> rfl)
      rw [hst] at hrw
      cases hx : f (skipTo s j + 1) with
      | no e p =>
        rw [hx] at hr hrw
        obtain ⟨k1, k2, jj, rfl⟩ := hr
        refine wNewS.F' (l := [r]) (fill1 k2) rfl ?_
        refine wApp.one hg rfl (Ex.refL_len l) (.refl _) k2 (hbnd _ (by omega)) ?_
        intro z' x' c2 hg'
        have hg2 : Gr 1 z' 1 x' (Ex.refL l ++ [r]) (Ex.refL l ++ [r]).length := by rw [List.length_append, Ex.refL_len]; exact hg'
        refine back1.mk 0 (by omega) (.inr ⟨e, p, Ex.refL l ++ [r], z', jj, c2, hrw, hg2, ?_, ?_, by simp, rfl, rfl⟩)
        · rw [AV.closedL_iff]; intro x hx
          rcases List.mem_append.1 hx with hx | hx
          · exact AV.closedL_iff.1 (Ex.refL_closed l) x hx
          · simp at hx; subst hx; exact k1
        · intro x hx
          rcases List.mem_append.1 hx with hx | hx
          · rw [Ex.refL_map] at hx; obtain ⟨y, _, rfl⟩ := List.mem_map.1 hx; exact Ex.ref_scalar y
          · simp at hx; subst hx; exact k2
      | ok x jj =>
        rw [hx] at hr hrw
        obtain ⟨rfl, rfl⟩ := hr
        obtain ⟨a1, a2, a3, a4⟩ := hgood _ x jj (by omega) hx
        have b3 := skipTo_le s jj
        refine wNewS.F' (l := [x.ref]) (fill1 (Ex.ref_scalar x)) rfl ?_
        refine wApp.one hg rfl (Ex.refL_len l) (.refl _) (Ex.ref_scalar x) (hbnd _ (by omega)) ?_
        intro z' x' c2 hg'
        have hg2 : Gr 1 z' 1 x' (Ex.refL (l ++ [x])) (l ++ [x]).length := by rw [Ex.refL_snoc, List.length_append]; exact hg'
        refine back1.mk (s.length - jj + 1) (by omega) (.inl ⟨n, l ++ [x], jj, z', c2, hg2, by simp, a2, by simp; omega, by omega, rfl, rfl, hrw⟩)
    · rw [if_neg hc] at hrw
      rw [decide_eq_false (fun h => hc ((nextC_eq hc0).1 h))]
      refine wIf_false.2 ?_
      refine hfin t (Ex.refL l) z _ _ (by rw [Ex.refL_len]; exact hg) (Ex.refL_closed l) (by rw [Ex.refL_map]; simpa using hl) fun v hv => ?_
      unfold allR
      rw [hrw]
      refine ⟨?_, rfl⟩
      rcases hv with ⟨h1, _⟩ | ⟨h1, rfl⟩
      · rw [Ex.refL_map] at h1
        match l, h1 with
        | [x], h1 => simp at h1; simp [foldR, h1]
      · rw [Ex.refL_len] at h1 ⊢
        rw [← hmk]
        match l, h1, hl with
        | x :: y :: r, _, _ => rfl
  · have he : e ≠ 0 := rowR_err herr _ _ _ hrw
    simp only [nd0, Y1n, Y1o, Y1p, Y1q, Y1w, Y1x, Y1y, Y1z, Y20, Y21, Y28, Y2a, AV.cells?, Nat.reduceAdd, Nat.reduceMul, p2, decide_eq_false (show ¬ (e : Int) = 0 by omega)]
    refine hfin t cs z _ _ hg hcc hne fun v hv => ?_
    unfold allR
    rw [hrw]
    rcases hv with ⟨h1, _⟩ | ⟨h1, rfl⟩
    · subst h1
      exact ⟨hcc.1, hsc v (by simp), j, rfl⟩
    · exact ⟨⟨trivial, trivial, hcc, trivial⟩, rfl, j, rfl⟩
end
end Go.Sc
namespace Go.Sc
open Go Go.RowKit
section
variable {E : Env} {P : Program}
theorem FX.ofCalls {k : Nat} {fn : Func} {args : List AV} {r : AV} (hf : P.funcs[E.fn k]? = some fn) (hn : (fn.name == "runtime.NumGoroutine") = false) (hb : fn.body.isNone = false) (ca : AV.closedL args) (hfl : r.flat) (hcl : r.closed)
    (h : ∀ (c : Cx) (vs : List Value), (∀ b, c.fz b → b < c.w.heap.size) → (∀ g cs, E.gl g = some cs → CRel E c cs (E.gn g) 0) → LRel E c args vs →
      Calls P (E.fn k) vs.toArray c.w fun e w' => ∃ v, e = .returned v ∧ Below c.w.heap.size c.w w' ∧ VRel E c r v) : FX E P k args r where
  ca := ca
  cr := hcl
  ok := by
    intro n c vs hH hv o a next Q hnext
    have hrun : (callFunc (E.fn k) vs.toArray).run P c.w = .ok (.enter (E.fn k) vs.toArray) c.w := by
      have hn' : ¬ ((fn.name == "runtime.NumGoroutine") = true) := by rw [hn]; simp
      have hb' : ¬ (fn.body.isNone = true) := by rw [hb]; simp
      simp only [callFunc, Sem.run_bind, run_program, Result.andThen_ok, hf, if_neg hn', if_neg hb', Sem.run_pure]
    rw [hrun]
    simp only [Oper.upon]
    have hgen : ∀ b, c.gen b = none := fun b => hH.out b (by simp)
    refine (h c vs hH.fzlt (fun g cs e => (hH.glob g cs e).2) hv).mono ?_
    rintro e w' ⟨v, rfl, bel, hrv⟩
    have hle : c.le { c with w := w' } := ⟨Nat.le_refl _, fun b hb => ⟨hb, bel.block b (hH.fzlt b hb)⟩, fun b o hb => ⟨.inr hb, cell_of_heap (bel.block b (hH.fclt b o hb)) _ _⟩, fun _ _ _ e => ⟨e, rfl, rfl, rfl, rfl⟩, fun _ _ _ _ _ h => h⟩
    have hL : Later c { c with w := w' } := {
      le := hle
      os := bel.os
      tape := bel.tape
      output := bel.output
      size := bel.size
      keep := fun i hi _ => bel.block i hi
      own := fun b hb => .inl ⟨b, hb, rfl⟩
      fz := fun i hi => .inl hi
      fc := fun i j hi => .inl hi }
    refine hnext v w' ⟨r, { c with w := w' }, ⟨[], n⟩, rfl, rfl, ⟨hH.ctr, hH.out, by simp, fun b hb => absurd (hgen b) hb, by simp, fun b _ hb => absurd (hgen b) hb, fun b hb => absurd (hgen b) hb, fun b hb => Nat.lt_of_lt_of_le (hH.fzlt b hb) bel.size, fun b j hb => Nat.lt_of_lt_of_le (hH.fclt b j hb) bel.size, hH.globLe hle⟩, VRel.ofFlat r v hfl hrv, hL⟩
/-- api.Tell: the code in an error -/
theorem FX.tell {k g X : Nat} {fn : Func} {ev : Value} (hf : P.funcs[E.fn k]? = some fn) (hn : (fn.name == "runtime.NumGoroutine") = false) (hb : fn.body.isNone = false) (hty : E.ty 1 = X) (hgl : E.gl g = some [.val ev])
    (h0 : ∀ w, Calls P (E.fn k) #[.nilIface] w fun e w' => e = .returned (.int .i64 0) ∧ Below w.heap.size w w')
    (h1 : ∀ z w, w.cell? ⟨E.gn g, 0, none⟩ = some ev → Calls P (E.fn k) #[.iface X (.int .i64 z)] w fun e w' => e = .returned (.int .i64 z) ∧ Below w.heap.size w w') (e : Int) : FX E P k [Er e] (Z e) := by
  refine FX.ofCalls hf hn hb (by simp [AV.closedL, Er_closed]) (by simp [AV.flat]) (by simp [AV.closed]) fun c vs _ hg hv => ?_
  obtain ⟨v, rfl, hr⟩ := hv.one'
  by_cases he : e = 0
  · subst he
    simp only [Er, if_true, VRel] at hr
    subst hr
    refine (h0 c.w).mono fun e w' h => ?_
    exact ⟨_, h.1, h.2, by simp [VRel]⟩
  · simp only [Er, he, if_false, VRel] at hr
    obtain ⟨u, rfl, _, rfl⟩ := hr
    have hc := hg g _ hgl
    simp only [CRel, VRel] at hc
    obtain ⟨⟨_, u, hu, rfl⟩, _⟩ := hc
    rw [hty]
    refine (h1 e c.w hu).mono fun e w' h => ?_
    exact ⟨_, h.1, h.2, by simp [VRel]⟩
/-- of an error at a place -/
theorem FX.tellAt {k g T : Nat} {fn : Func} {ev : Value} (hf : P.funcs[E.fn k]? = some fn) (hn : (fn.name == "runtime.NumGoroutine") = false) (hb : fn.body.isNone = false) (hty : E.ty 2 = T) (hgl : E.gl g = some [.val ev])
    (h1 : ∀ z p w, w.cell? ⟨E.gn g, 0, none⟩ = some ev → w.cell? p = some (.int .i64 z) → Calls P (E.fn k) #[.iface T (.pointer (some p))] w fun e w' => e = .returned (.int .i64 z) ∧ Below w.heap.size w w') (e p : Int) : FX E P k [At e p] (Z e) := by
  refine FX.ofCalls hf hn hb (by simp [AV.closedL, At, AV.closed]) (by simp [AV.flat]) (by simp [AV.closed]) fun c vs _ hg hv => ?_
  obtain ⟨v, rfl, hr⟩ := hv.one'
  simp only [At, VRel, CRel] at hr
  obtain ⟨u, rfl, _, b, o, rfl, ⟨_, x, hx, rfl⟩, _⟩ := hr
  have hc := hg g _ hgl
  simp only [CRel, VRel] at hc
  obtain ⟨⟨_, u, hu, rfl⟩, _⟩ := hc
  rw [hty]
  refine (h1 e ⟨b, o, none⟩ c.w hu hx).mono fun e w' h => ?_
  exact ⟨_, h.1, h.2, by simp [VRel]⟩
end
end Go.Sc
namespace Go.Sc
open Go
set_option linter.unusedSimpArgs false
set_option linter.unusedVariables false
structure PlaceBodies (E : Env) (P : Program) : Prop where
  place : Body1 E P 84 F.plain_Place
  tell : ∀ e, FX E P 53 [Er e] (Z e)
  tellAt : ∀ e p, FX E P 53 [At e p] (Z e)
  noUnwrap : HasM E P 6 1 false
section
variable {E : Env} {P : Program}
theorem Place_spec (B : PlaceBodies E P) (e : Int) : FX E P 84 [Er e] (.tup [Z e, Z (-1)]) := by
  refine FX.of' (by simp [AV.closedL, Er_closed]) (by simp [AV.closed, AV.closedL]) fun n R hR => B.place _ _ _ ?_
  unfold F.plain_Place
  refine wCall.fx (B.tell e) fun n => ?_
  refine wJoin.zero (fun H => True) ?_ (fun H _ => hR _ _ rfl)
  refine wLoop.one (fun m t H => t = Er e) 0 (gh1.mk rfl) ?_
  rintro m t H rfl
  by_cases he : e = 0
  · subst he
    rw [Er_zero]
    simp only [nd0, Y1n, Y1o, Y1p, Y1q, Y1w, Y1x, Y1y, Y1z, Y20, Y21, Y28, Y2a, AV.cells?, Nat.reduceAdd, Nat.reduceMul]
    exact gh0.mk trivial
  · rw [Er_ne he]
    simp only [nd0, Y1n, Y1o, Y1p, Y1q, Y1w, Y1x, Y1y, Y1z, Y20, Y21, Y28, Y2a, AV.cells?, Nat.reduceAdd, Nat.reduceMul, show assertA 2 (.val (.pointer none)) (.ifc 1 (Z e)) = some (.tup [nilP, .val (.bool false)]) from rfl]
    refine ⟨.inr ⟨1, _, false, rfl, B.noUnwrap, ?_⟩⟩
    simp only [nd0, Y1n, Y1o, Y1p, Y1q, Y1w, Y1x, Y1y, Y1z, Y20, Y21, Y28, Y2a, AV.cells?, Nat.reduceAdd, Nat.reduceMul]
    exact gh0.mk trivial
theorem at_spec (B : PlaceBodies E P) (hB : Body2 E P 77 F.law_at) (c e p : Int) : FX E P 77 [Er c, .agg [Z e, Z p]] (Bo (decide (c = e) && decide (-1 = p))) := by
  refine FX.of' (by simp [AV.closedL, Er_closed, AV.closed]) (by simp [AV.closed]) fun n R hR => hB _ _ _ _ ?_
  unfold F.law_at
  refine wNew.F' (l := [Z e, Z p]) rfl ?_
  refine wCall.fx (Place_spec B c) fun n => ?_
  simp only [nd0, Y1n, Y1o, Y1p, Y1q, Y1w, Y1x, Y1y, Y1z, Y20, Y21, Y28, Y2a, AV.cells?, Nat.reduceAdd, Nat.reduceMul]
  by_cases h : c = e
  · simp only [nd0, Y1n, Y1o, Y1p, Y1q, Y1w, Y1x, Y1y, Y1z, Y20, Y21, Y28, Y2a, AV.cells?, Nat.reduceAdd, Nat.reduceMul, decide_eq_true h]
    exact hR _ _ (by rw [decide_eq_true h]; simp)
  · simp only [nd0, Y1n, Y1o, Y1p, Y1q, Y1w, Y1x, Y1y, Y1z, Y20, Y21, Y28, Y2a, AV.cells?, Nat.reduceAdd, Nat.reduceMul, decide_eq_false h]
    exact hR _ _ (by rw [decide_eq_false h]; simp)
theorem Bare_spec (hB : Body1 E P 87 F.ref_Bare) (e : Int) : FX E P 87 [Z e] (.agg [Z e, Z (-1)]) := by
  refine FX.of' (by simp [AV.closedL, AV.closed]) (by simp [AV.closed, AV.closedL]) fun n R hR => hB _ _ _ ?_
  unfold F.ref_Bare
  refine wNew.L rfl ?_
  refine ⟨⟨[Z e, Z (-1)], rfl, ?_⟩⟩
  simp only [nd0, Y1n, Y1o, Y1p, Y1q, Y1w, Y1x, Y1y, Y1z, Y20, Y21, Y28, Y2a, AV.cells?, Nat.reduceAdd, Nat.reduceMul]
  rw [storeN_L (n := 2) (xs := [Z e, Z (-1)]) rfl rfl]
  simp only [nd0, Y1n, Y1o, Y1p, Y1q, Y1w, Y1x, Y1y, Y1z, Y20, Y21, Y28, Y2a, AV.cells?, Nat.reduceAdd, Nat.reduceMul, show ∀ a b a' b' : AV, putL [a, b] 0 [a', b'] = some [a', b'] from fun _ _ _ _ => rfl, show retPack [some (.agg [Z e, Z (-1)])] = some (.agg [Z e, Z (-1)]) from rfl]
  exact hR _ _ rfl
end
end Go.Sc
namespace Go.Sc
open Go
set_option linter.unusedSimpArgs false
set_option linter.unusedVariables false
set_option linter.unnecessarySimpa false
section
variable {E : Env} {P : Program}
/-- how the document's reader of pieces is told -/
def PieceOk (E : Env) (P : Program) (s : Str) (f : Nat → Rs Ex) (a : Nat) : Prop := ∀ i, i ≤ s.length → PC E P 141 4 (pd s i 0 (-1)) (fun b g => [.ptrL b 0 g, Z a]) (PR s (f i))
theorem whole1_spec (B : RefReadBodies E P) (s : Str) (hs : s.length < 1000000) (f : Nat → Rs Ex) (hgood : GoodR s f) (herr : ErrR f) (a : Nat) (hf : PieceOk E P s f a) (i : Nat) (hi : i ≤ s.length) :
    PC E P 136 4 (pd s i 0 (-1)) (fun b g => [Z a, .ptrF [.ptrL b 0 g] 0]) (PR s (andR s f i)) := by
  refine PC.of (fun _ _ => rfl) (pd_closed _ _ _ _) (fun _ _ h => h.closed) fun n g R hR => B.whole1 _ _ _ _ ?_
  unfold F.pref_parser_whole_c1
  simp only [nd0, Y1n, Y1o, Y1p, Y1q, Y1w, Y1x, Y1y, Y1z, Y20, Y21, Y28, Y2a, AV.cells?, Nat.reduceAdd, Nat.reduceMul]
  refine wCall.pc (b := 0) (row_spec B s hs 38 (by decide) (by decide) .and (fun _ => rfl) f hgood herr 141 (fun b g => [.ptrL b 0 g]) (fun _ _ => []) a (fun _ _ => ⟨rfl, rfl⟩) hf i hi) rfl rfl ?_
  intro r cs n hr
  exact hR _ _ cs [] n (.same _) hr
theorem whole_spec (B : RefReadBodies E P) (s : Str) (hs : s.length < 1000000) (f : Nat → Rs Ex) (hgood : GoodR s f) (herr : ErrR f) (a : Nat) (hf : PieceOk E P s f a) (i : Nat) (hi : i ≤ s.length) :
    PC E P 130 4 (pd s i 0 (-1)) (fun b g => [.ptrL b 0 g, Z a]) (PR s (orR s f i)) := by
  refine PC.of (fun _ _ => rfl) (pd_closed _ _ _ _) (fun _ _ h => h.closed) fun n g R hR => B.whole _ _ _ _ ?_
  unfold F.pref_parser_whole
  refine wNew.F' (l := [.ptrL 0 0 g]) rfl ?_
  simp only [nd0, Y1n, Y1o, Y1p, Y1q, Y1w, Y1x, Y1y, Y1z, Y20, Y21, Y28, Y2a, AV.cells?, Nat.reduceAdd, Nat.reduceMul]
  refine wCall.pc (b := 0) (row_spec B s hs 124 (by decide) (by decide) .or (fun _ => rfl) (andR s f) (andR_good hgood) (allR_err herr) 136 (fun _ _ => []) (fun b g => [.ptrF [.ptrL b 0 g] 0]) a (fun _ _ => ⟨rfl, rfl⟩) (whole1_spec B s hs f hgood herr a hf) i hi) rfl rfl ?_
  intro r cs n hr
  exact hR _ _ cs [] n (.same _) hr
theorem or_join {b1 b2 : Bool} {g : Nat} {cs : List AV} {x : Nat} {k : KN 1} {n : Nat}
    (h : ∀ n, k (Bo (b1 || b2)) ⟨[.cells g 4 cs], n⟩) : wJoin 1 (fun J => wIf (Bo b1) (J (Bo b1) ⟨[.cells g 4 cs], n⟩) (J (Bo b2) ⟨[.cells g 4 cs], n⟩)) k := by
  refine wJoin.one (fun t H => t = Bo (b1 || b2) ∧ ∃ n, H = ⟨[.cells g 4 cs], n⟩) ?_ ?_
  · cases b1
    · exact wIf_false.2 (gh1.mk ⟨rfl, _, rfl⟩)
    · exact wIf_true.2 (gh1.mk ⟨rfl, _, rfl⟩)
  · rintro t H ⟨rfl, n, rfl⟩
    exact h n
set_option maxHeartbeats 2000000 in
theorem piece_spec (B : RefReadBodies E P) (s : Str) (hs : s.length < 1000000) : ∀ (d : Nat), d ≤ 20 → PieceOk E P s (oneR s d) (20 - d) := by
  intro d
  induction d with
  | zero =>
    intro _ i hi
    refine PC.of (fun _ _ => rfl) (pd_closed _ _ _ _) (fun _ _ h => h.closed) fun n g R hR => B.piece _ _ _ _ ?_
    unfold F.pref_parser_piece
    unfold pd
    simp only [nd0, Y1n, Y1o, Y1p, Y1q, Y1w, Y1x, Y1y, Y1z, Y20, Y21, Y28, Y2a, AV.cells?, Nat.reduceAdd, Nat.reduceMul, show decide ((0 : Int) = 0) = true from rfl, show decide ((20 : Int) ≤ ((20 - 0 : Nat) : Int)) = true from rfl]
    refine wCall.pc (b := 0) (rfail_spec B s i 4 hi hs) rfl rfl ?_
    rintro r cs n2 ⟨rfl, rfl⟩
    exact hR _ _ _ [] n2 (.same _) ⟨trivial, rfl, _, rfl⟩
  | succ d ih =>
    intro hd i hi
    have ih := ih (by omega)
    have hgood := oneR_good s d
    have herr := oneR_err s d
    refine PC.of (fun _ _ => rfl) (pd_closed _ _ _ _) (fun _ _ h => h.closed) fun n g R hR => B.piece _ _ _ _ ?_
    unfold F.pref_parser_piece
    have hsc : ∀ x : AV, x.scalar = true → fillA (List.replicate 1 [nilP]).flatten [(0, 1, x)] = some [x] := fun x h => fill1 h
    have hadd : binA .add (Z ((20 - (d + 1) : Nat) : Int)) (Z 1) = some (Z ((20 - d : Nat) : Int)) := by
      rw [binA_add (by omega)]; congr 3; omega
    have p1 : ∀ j e p, (pd s j e p)[1]? = some (Z j) := fun _ _ _ => rfl
    have p2 : ∀ j e p, (pd s j e p)[2]? = some (Z e) := fun _ _ _ => rfl
    have plen : ∀ j e p, (1 : Nat) < (pd s j e p).length := fun _ _ _ => by show 1 < 4; omega
    have hset : ∀ j e p j', (pd s j e p).set 1 (Z j') = pd s j' e p := fun _ _ _ _ => rfl
    simp only [nd0, Y1n, Y1o, Y1p, Y1q, Y1w, Y1x, Y1y, Y1z, Y20, Y21, Y28, Y2a, AV.cells?, Nat.reduceAdd, Nat.reduceMul, p2, show decide ((0 : Int) = 0) = true from rfl, decide_eq_false (show ¬ (20 : Int) ≤ ((20 - (d + 1) : Nat) : Int) by omega)]
    refine wCall.pc (b := 0) (rnext_spec B s i 0 (-1) hi hs) rfl rfl ?_
    rintro r cs n2 ⟨rfl, rfl⟩
    have hk := skipTo_len hi
    have hid := skipTo_idem s i
    have hnx := fun (c : UInt8) (hc : c ≠ 0) => nextC_eq (s := s) (i := i) hc
    have hget := fun (c : UInt8) => nextC_get (s := s) (i := i) (c := c)
    unfold oneR at hR
    generalize skipTo s i = k at hk hid hR hnx hget
    generalize nextC s i = N at hnx hget
    have hstep : ∀ n, k + 1 ≤ s.length → binA .add (Z (k : Int)) (Z 1) = some (Z ((k + 1 : Nat) : Int)) ∧ store1 (.ptrL 0 (0 + 1) g) (Z ((k + 1 : Nat) : Int)) ⟨[.cells g 4 (pd s k 0 (-1))], n⟩ = some ⟨[.cells g 4 (pd s ((k + 1 : Nat) : Int) 0 (-1))], n⟩ := fun n h => by
      refine ⟨binA_succ (by omega), ?_⟩
      rw [store1_L rfl]
      simp [blkDo, pd]
    simp only [nd0, Y1n, Y1o, Y1p, Y1q, Y1w, Y1x, Y1y, Y1z, Y20, Y21, Y28, Y2a, AV.cells?, Nat.reduceAdd, Nat.reduceMul]
    have e33 : (N.toNat : Int) = 33 ↔ s[k]? = some 33 := hnx 33 (by decide)
    by_cases h33 : s[k]? = some 33
    · rw [if_pos h33] at hR
      have hlt := lt_of_get h33
      simp only [nd0, Y1n, Y1o, Y1p, Y1q, Y1w, Y1x, Y1y, Y1z, Y20, Y21, Y28, Y2a, AV.cells?, Nat.reduceAdd, Nat.reduceMul, decide_eq_true (e33.2 h33), p1]
      rw [binA_succ (by omega)]
      simp only [nd0, Y1n, Y1o, Y1p, Y1q, Y1w, Y1x, Y1y, Y1z, Y20, Y21, Y28, Y2a, AV.cells?, Nat.reduceAdd, Nat.reduceMul]
      rw [store1_L rfl]
      simp only [nd0, Y1n, Y1o, Y1p, Y1q, Y1w, Y1x, Y1y, Y1z, Y20, Y21, Y28, Y2a, AV.cells?, Nat.reduceAdd, Nat.reduceMul, plen, hset, hadd]
      refine wCall.pc (b := 0) (ih (k + 1) (by omega)) rfl rfl ?_
      intro r cs n3 hr
      cases hx : oneR s d (k + 1) with
      | no e p =>
        rw [hx] at hr hR
        obtain ⟨h1, h2, j, rfl⟩ := hr
        refine wNewS.F' (l := [r]) (hsc r h2) rfl ?_
        simp only [nd0, Y1n, Y1o, Y1p, Y1q, Y1w, Y1x, Y1y, Y1z, Y20, Y21, Y28, Y2a, AV.cells?, Nat.reduceAdd, Nat.reduceMul, show fillA [S [], S [], nilS] [(0, 1, S [33]), (2, 1, .slN [r] 1)] = some [S [33], S [], .slN [r] 1] from rfl]
        refine wNew.F' rfl ?_
        exact hR _ _ _ [] n3 (.same _) ⟨⟨trivial, trivial, ⟨h1, trivial⟩, trivial⟩, rfl, j, rfl⟩
      | ok x j =>
        rw [hx] at hr hR
        obtain ⟨rfl, rfl⟩ := hr
        refine wNewS.F' (l := [x.ref]) (hsc _ (Ex.ref_scalar x)) rfl ?_
        simp only [nd0, Y1n, Y1o, Y1p, Y1q, Y1w, Y1x, Y1y, Y1z, Y20, Y21, Y28, Y2a, AV.cells?, Nat.reduceAdd, Nat.reduceMul, show fillA [S [], S [], nilS] [(0, 1, S [33]), (2, 1, .slN [x.ref] 1)] = some [S [33], S [], .slN [x.ref] 1] from rfl]
        refine wNew.F' rfl ?_
        exact hR _ _ _ [] n3 (.same _) ⟨rfl, rfl⟩
    rw [if_neg h33] at hR
    simp only [nd0, Y1n, Y1o, Y1p, Y1q, Y1w, Y1x, Y1y, Y1z, Y20, Y21, Y28, Y2a, AV.cells?, Nat.reduceAdd, Nat.reduceMul, decide_eq_false (fun h => h33 (e33.1 h))]
    have e40 : (N.toNat : Int) = 40 ↔ s[k]? = some 40 := hnx 40 (by decide)
    by_cases h40 : s[k]? = some 40
    · rw [if_pos h40] at hR
      have hlt := lt_of_get h40
      simp only [nd0, Y1n, Y1o, Y1p, Y1q, Y1w, Y1x, Y1y, Y1z, Y20, Y21, Y28, Y2a, AV.cells?, Nat.reduceAdd, Nat.reduceMul, decide_eq_true (e40.2 h40), p1]
      rw [binA_succ (by omega)]
      simp only [nd0, Y1n, Y1o, Y1p, Y1q, Y1w, Y1x, Y1y, Y1z, Y20, Y21, Y28, Y2a, AV.cells?, Nat.reduceAdd, Nat.reduceMul]
      rw [store1_L rfl]
      simp only [nd0, Y1n, Y1o, Y1p, Y1q, Y1w, Y1x, Y1y, Y1z, Y20, Y21, Y28, Y2a, AV.cells?, Nat.reduceAdd, Nat.reduceMul, plen, hset, hadd]
      refine wCall.pc (b := 0) (whole_spec B s hs (oneR s d) hgood herr _ ih (k + 1) (by omega)) rfl rfl ?_
      intro r cs n3 hr
      cases hx : orR s (oneR s d) (k + 1) with
      | no e p =>
        rw [hx] at hr hR
        have he : e ≠ 0 := allR_err (allR_err herr) _ _ _ hx
        obtain ⟨h1, h2, j, rfl⟩ := hr
        simp only [nd0, Y1n, Y1o, Y1p, Y1q, Y1w, Y1x, Y1y, Y1z, Y20, Y21, Y28, Y2a, AV.cells?, Nat.reduceAdd, Nat.reduceMul, p2, p1, decide_eq_false (show ¬ (e : Int) = 0 by omega), binA_add']
        rw [store1_L rfl]
        simp only [nd0, Y1n, Y1o, Y1p, Y1q, Y1w, Y1x, Y1y, Y1z, Y20, Y21, Y28, Y2a, AV.cells?, Nat.reduceAdd, Nat.reduceMul, plen, hset]
        exact hR _ _ (pd s _ e p) [] n3 (.same _) ⟨h1, h2, _, rfl⟩
      | ok x j =>
        rw [hx] at hr hR
        obtain ⟨rfl, rfl⟩ := hr
        obtain ⟨a1, a2, a3, a4⟩ := orR_good hgood _ x j (by omega) hx
        have b2 := skipTo_len a2
        simp only [nd0, Y1n, Y1o, Y1p, Y1q, Y1w, Y1x, Y1y, Y1z, Y20, Y21, Y28, Y2a, AV.cells?, Nat.reduceAdd, Nat.reduceMul, p2, show decide ((0 : Int) = 0) = true from rfl]
        refine wCall.pc (b := 0) (rnext_spec B s j 0 (-1) a2 hs) rfl rfl ?_
        rintro r cs n4 ⟨rfl, rfl⟩
        simp only [closeR] at hR
        have e41 : ((nextC s j).toNat : Int) = 41 ↔ s[skipTo s j]? = some 41 := nextC_eq (c := 41) (by decide)
        by_cases h41 : s[skipTo s j]? = some 41
        · rw [if_pos h41] at hR
          have hlt2 := lt_of_get h41
          simp only [nd0, Y1n, Y1o, Y1p, Y1q, Y1w, Y1x, Y1y, Y1z, Y20, Y21, Y28, Y2a, AV.cells?, Nat.reduceAdd, Nat.reduceMul, decide_eq_true (e41.2 h41), p1]
          rw [binA_succ (by omega)]
          simp only [nd0, Y1n, Y1o, Y1p, Y1q, Y1w, Y1x, Y1y, Y1z, Y20, Y21, Y28, Y2a, AV.cells?, Nat.reduceAdd, Nat.reduceMul]
          rw [store1_L rfl]
          simp only [nd0, Y1n, Y1o, Y1p, Y1q, Y1w, Y1x, Y1y, Y1z, Y20, Y21, Y28, Y2a, AV.cells?, Nat.reduceAdd, Nat.reduceMul, plen, hset]
          exact hR _ _ (pd s _ 0 (-1)) [] n4 (.same _) ⟨rfl, rfl⟩
        · rw [if_neg h41] at hR
          simp only [nd0, Y1n, Y1o, Y1p, Y1q, Y1w, Y1x, Y1y, Y1z, Y20, Y21, Y28, Y2a, AV.cells?, Nat.reduceAdd, Nat.reduceMul, decide_eq_false (fun h => h41 (e41.1 h))]
          refine wCall.pc (b := 0) (rfail_spec B s (skipTo s j) 3 b2 hs) rfl rfl ?_
          rintro r cs n5 ⟨rfl, rfl⟩
          exact hR _ _ _ [] n5 (.same _) ⟨trivial, rfl, _, by rw [skipTo_idem]⟩
    rw [if_neg h40] at hR
    simp only [nd0, Y1n, Y1o, Y1p, Y1q, Y1w, Y1x, Y1y, Y1z, Y20, Y21, Y28, Y2a, AV.cells?, Nat.reduceAdd, Nat.reduceMul, decide_eq_false (fun h => h40 (e40.1 h))]
    have e48 : (N.toNat : Int) = 48 ↔ s[k]? = some 48 := hnx 48 (by decide)
    have e49 : (N.toNat : Int) = 49 ↔ s[k]? = some 49 := hnx 49 (by decide)
    have e94 : (N.toNat : Int) = 94 ↔ s[k]? = some 94 := hnx 94 (by decide)
    have e126 : (N.toNat : Int) = 126 ↔ s[k]? = some 126 := hnx 126 (by decide)
    refine or_join (x := 0) fun n3 => ?_
    by_cases hk1 : s[k]? = some 48 ∨ s[k]? = some 49
    · have hb : (decide ((N.toNat : Int) = 48) || decide ((N.toNat : Int) = 49)) = true := by
        rcases hk1 with h | h
        · rw [decide_eq_true (e48.2 h)]; rfl
        · rw [decide_eq_true (e49.2 h), Bool.or_true]
      have hlt : k < s.length := by rcases hk1 with h | h <;> exact lt_of_get h
      have hN : N.toNat < 128 := by rcases hk1 with h | h <;> rw [hget _ h] <;> decide
      rw [hb]
      simp only [nd0, Y1n, Y1o, Y1p, Y1q, Y1w, Y1x, Y1y, Y1z, Y20, Y21, Y28, Y2a, AV.cells?, Nat.reduceAdd, Nat.reduceMul, p1]
      rw [binA_succ (by omega)]
      simp only [nd0, Y1n, Y1o, Y1p, Y1q, Y1w, Y1x, Y1y, Y1z, Y20, Y21, Y28, Y2a, AV.cells?, Nat.reduceAdd, Nat.reduceMul]
      rw [store1_L rfl]
      simp only [nd0, Y1n, Y1o, Y1p, Y1q, Y1w, Y1x, Y1y, Y1z, Y20, Y21, Y28, Y2a, AV.cells?, Nat.reduceAdd, Nat.reduceMul, plen, hset, conv_byte N hN, show fillA [S [], S [], nilS] [(0, 1, S [N])] = some [S [N], S [], nilS] from rfl]
      refine wNew.F' rfl ?_
      rcases hk1 with h | h
      · rw [if_pos h] at hR
        rw [hget _ h]
        exact hR _ _ (pd s _ 0 (-1)) [] n3 (.same _) ⟨rfl, rfl⟩
      · rw [if_neg (by rw [h]; decide), if_pos h] at hR
        rw [hget _ h]
        exact hR _ _ (pd s _ 0 (-1)) [] n3 (.same _) ⟨rfl, rfl⟩
    have h48 : ¬ s[k]? = some 48 := fun h => hk1 (.inl h)
    have h49 : ¬ s[k]? = some 49 := fun h => hk1 (.inr h)
    rw [if_neg h48, if_neg h49] at hR
    have hb : (decide ((N.toNat : Int) = 48) || decide ((N.toNat : Int) = 49)) = false := by
      rw [decide_eq_false (fun h => h48 (e48.1 h)), decide_eq_false (fun h => h49 (e49.1 h))]; rfl
    rw [hb]
    simp only [nd0, Y1n, Y1o, Y1p, Y1q, Y1w, Y1x, Y1y, Y1z, Y20, Y21, Y28, Y2a, AV.cells?, Nat.reduceAdd, Nat.reduceMul]
    refine or_join (x := 0) fun n4 => ?_
    by_cases hk2 : s[k]? = some 94 ∨ s[k]? = some 126
    · have hb : (decide ((N.toNat : Int) = 94) || decide ((N.toNat : Int) = 126)) = true := by
        rcases hk2 with h | h
        · rw [decide_eq_true (e94.2 h)]; rfl
        · rw [decide_eq_true (e126.2 h), Bool.or_true]
      have hlt : k < s.length := by rcases hk2 with h | h <;> exact lt_of_get h
      have hN : N.toNat < 128 := by rcases hk2 with h | h <;> rw [hget _ h] <;> decide
      rw [hb]
      simp only [nd0, Y1n, Y1o, Y1p, Y1q, Y1w, Y1x, Y1y, Y1z, Y20, Y21, Y28, Y2a, AV.cells?, Nat.reduceAdd, Nat.reduceMul, p1]
      rw [binA_succ (by omega)]
      simp only [nd0, Y1n, Y1o, Y1p, Y1q, Y1w, Y1x, Y1y, Y1z, Y20, Y21, Y28, Y2a, AV.cells?, Nat.reduceAdd, Nat.reduceMul]
      rw [store1_L rfl]
      simp only [nd0, Y1n, Y1o, Y1p, Y1q, Y1w, Y1x, Y1y, Y1z, Y20, Y21, Y28, Y2a, AV.cells?, Nat.reduceAdd, Nat.reduceMul, plen, hset, conv_byte N hN]
      refine wCall.pc (b := 0) (rword_spec B s (k + 1) (by omega) hs) rfl rfl ?_
      intro r cs n5 hr
      have hR2 : ∀ x cs, PR s ((wordR s (k + 1)).map (if N = 94 then Ex.rise else Ex.fall)) x cs → ∀ n, R x ⟨[.cells g 4 cs], n⟩ := by
        intro x cs hp n
        refine hR x x cs [] n (.same _) ?_
        rcases hk2 with h | h
        · rw [if_pos h]
          rw [if_pos (hget _ h)] at hp
          exact hp
        · rw [if_neg (by rw [h]; decide), if_pos h]
          rw [if_neg (by rw [hget _ h]; decide)] at hp
          exact hp
      have hNx : N = 94 ∨ N = 126 := by rcases hk2 with h | h; exact .inl (hget _ h); exact .inr (hget _ h)
      cases hx : wordR s (k + 1) with
      | no e p =>
        rw [hx] at hr hR2
        obtain ⟨w, rfl, j, rfl⟩ := hr
        simp only [nd0, Y1n, Y1o, Y1p, Y1q, Y1w, Y1x, Y1y, Y1z, Y20, Y21, Y28, Y2a, AV.cells?, Nat.reduceAdd, Nat.reduceMul, show fillA [S [], S [], nilS] [(0, 1, S [N]), (1, 1, S w)] = some [S [N], S w, nilS] from rfl]
        refine wNew.F' rfl ?_
        exact hR2 (.ptrF [S [N], S w, nilS] 0) (pd s j e p) ⟨⟨trivial, trivial, trivial, trivial⟩, rfl, j, rfl⟩ _
      | ok w j =>
        rw [hx] at hr hR2
        obtain ⟨rfl, rfl⟩ := hr
        simp only [nd0, Y1n, Y1o, Y1p, Y1q, Y1w, Y1x, Y1y, Y1z, Y20, Y21, Y28, Y2a, AV.cells?, Nat.reduceAdd, Nat.reduceMul, show fillA [S [], S [], nilS] [(0, 1, S [N]), (1, 1, S w)] = some [S [N], S w, nilS] from rfl]
        refine wNew.F' rfl ?_
        refine hR2 _ _ ⟨?_, rfl⟩ _
        rcases hNx with rfl | rfl <;> rfl
    have h94 : ¬ s[k]? = some 94 := fun h => hk2 (.inl h)
    have h126 : ¬ s[k]? = some 126 := fun h => hk2 (.inr h)
    rw [if_neg h94, if_neg h126] at hR
    have hb : (decide ((N.toNat : Int) = 94) || decide ((N.toNat : Int) = 126)) = false := by
      rw [decide_eq_false (fun h => h94 (e94.1 h)), decide_eq_false (fun h => h126 (e126.1 h))]; rfl
    rw [hb]
    simp only [nd0, Y1n, Y1o, Y1p, Y1q, Y1w, Y1x, Y1y, Y1z, Y20, Y21, Y28, Y2a, AV.cells?, Nat.reduceAdd, Nat.reduceMul]
    refine wCall.pc (b := 0) (rword_spec B s k hk hs) rfl rfl ?_
    intro r cs n5 hr
    cases hx : wordR s k with
    | no e p =>
      rw [hx] at hr hR
      obtain ⟨w, rfl, j, rfl⟩ := hr
      simp only [nd0, Y1n, Y1o, Y1p, Y1q, Y1w, Y1x, Y1y, Y1z, Y20, Y21, Y28, Y2a, AV.cells?, Nat.reduceAdd, Nat.reduceMul, show fillA [S [], S [], nilS] [(0, 1, S [98, 105, 116]), (1, 1, S w)] = some [S [98, 105, 116], S w, nilS] from rfl]
      refine wNew.F' rfl ?_
      exact hR _ _ _ [] n5 (.same _) ⟨⟨trivial, trivial, trivial, trivial⟩, rfl, j, rfl⟩
    | ok w j =>
      rw [hx] at hr hR
      obtain ⟨rfl, rfl⟩ := hr
      simp only [nd0, Y1n, Y1o, Y1p, Y1q, Y1w, Y1x, Y1y, Y1z, Y20, Y21, Y28, Y2a, AV.cells?, Nat.reduceAdd, Nat.reduceMul, show fillA [S [], S [], nilS] [(0, 1, S [98, 105, 116]), (1, 1, S w)] = some [S [98, 105, 116], S w, nilS] from rfl]
      refine wNew.F' rfl ?_
      exact hR _ _ _ [] n5 (.same _) ⟨rfl, rfl⟩
/-- what the document's ExprParse answers -/
def refParseA (s : Str) : AV := if 2000 < s.length then .tup [nilP, .agg [Z 4, Z (-1)]] else match parseR s with
  | .ok x _ => .tup [x.ref, .agg [Z 0, Z (-1)]]
  | .no e p => .tup [nilP, .agg [Z e, Z p]]
theorem refParseA_closed (s : Str) : (refParseA s).closed := by
  unfold refParseA
  split
  · exact ⟨trivial, ⟨trivial, trivial, trivial⟩, trivial⟩
  split
  · exact ⟨Ex.ref_closed _, ⟨trivial, trivial, trivial⟩, trivial⟩
  · exact ⟨trivial, ⟨trivial, trivial, trivial⟩, trivial⟩
theorem ret_pf (a : AV) (b : List AV) : retPack [some a, some (.agg b)] = some (.tup [a, .agg b]) := rfl
theorem Bare_spec' (B : RefReadBodies E P) (e : Int) : FX E P 87 [Z e] (.agg [Z e, Z (-1)]) := Bare_spec B.bare e
theorem ExprParse_spec (B : RefReadBodies E P) (s : Str) : FX E P 125 [S s] (refParseA s) := by
  refine FX.of' ⟨trivial, trivial⟩ (refParseA_closed s) fun n R hR => B.parse _ _ _ ?_
  have gfine : gptr E 5 = .ptrF [Z 0, Z (-1)] 0 := by simp [gptr, B.fine]
  unfold F.ref_ExprParse
  unfold refParseA at hR
  refine wNew.L (l := [Z 0, Z 0]) rfl ?_
  simp only [nd0, Y1n, Y1o, Y1p, Y1q, Y1w, Y1x, Y1y, Y1z, Y20, Y21, Y28, Y2a, AV.cells?, Nat.reduceAdd, Nat.reduceMul]
  by_cases hl : 2000 < s.length
  · rw [if_pos hl] at hR
    simp only [nd0, Y1n, Y1o, Y1p, Y1q, Y1w, Y1x, Y1y, Y1z, Y20, Y21, Y28, Y2a, AV.cells?, Nat.reduceAdd, Nat.reduceMul, decide_eq_true (show (2000 : Int) < (s.length : Int) by omega)]
    refine wCall.fx (Bare_spec' B 4) fun n => ?_
    simp only [nd0, Y1n, Y1o, Y1p, Y1q, Y1w, Y1x, Y1y, Y1z, Y20, Y21, Y28, Y2a, AV.cells?, Nat.reduceAdd, Nat.reduceMul]
    rw [storeN_L (n := 2) (xs := [Z 4, Z (-1)]) rfl rfl]
    simp only [nd0, Y1n, Y1o, Y1p, Y1q, Y1w, Y1x, Y1y, Y1z, Y20, Y21, Y28, Y2a, AV.cells?, Nat.reduceAdd, Nat.reduceMul, put_two, ret_pf]
    exact hR _ _ rfl
  rw [if_neg hl] at hR
  simp only [nd0, Y1n, Y1o, Y1p, Y1q, Y1w, Y1x, Y1y, Y1z, Y20, Y21, Y28, Y2a, AV.cells?, Nat.reduceAdd, Nat.reduceMul, decide_eq_false (show ¬ (2000 : Int) < (s.length : Int) by omega), gfine, show fillA [S [], Z 0, Z 0, Z 0] [(0, 1, S s), (2, 2, .agg [Z 0, Z (-1)])] = some (pd s 0 0 (-1)) from rfl, show (AV.val (.string ⟨#[]⟩)) = S [] from rfl]
  refine wNew.L (l := pd s 0 0 (-1)) rfl ?_
  have hs : s.length < 1000000 := by omega
  have hgood := oneR_good s 20
  have herr := oneR_err s 20
  simp only [nd0, Y1n, Y1o, Y1p, Y1q, Y1w, Y1x, Y1y, Y1z, Y20, Y21, Y28, Y2a, AV.cells?, Nat.reduceAdd, Nat.reduceMul]
  refine wCall.pc (b := 1) (whole_spec B s hs (oneR s 20) hgood herr 0 (piece_spec B s hs 20 (by omega)) 0 (by omega)) rfl rfl ?_
  intro r cs n2 hr
  have p1 : ∀ j e p, (pd s j e p)[1]? = some (Z j) := fun _ _ _ => rfl
  have p2 : ∀ j e p, (pd s j e p)[2]? = some (Z e) := fun _ _ _ => rfl
  have psub : ∀ j e p, subL (pd s j e p) 2 2 = some [Z e, Z p] := fun _ _ _ => rfl
  unfold parseR at hR
  cases hx : orR s (oneR s 20) 0 with
  | no e p =>
    rw [hx] at hr hR
    have he : e ≠ 0 := allR_err (allR_err herr) _ _ _ hx
    obtain ⟨h1, h2, j, rfl⟩ := hr
    refine wJoin.zero (fun H => ∃ c, H = ⟨[.cells n 2 [Z 0, Z 0], .cells (n + 1) 4 (pd s j e p)], c⟩) ?_ ?_
    · simp only [nd0, Y1n, Y1o, Y1p, Y1q, Y1w, Y1x, Y1y, Y1z, Y20, Y21, Y28, Y2a, AV.cells?, Nat.reduceAdd, Nat.reduceMul, p2, decide_eq_false (show ¬ (e : Int) = 0 by omega)]
      exact gh0.mk ⟨_, rfl⟩
    · rintro H ⟨c, rfl⟩
      simp only [nd0, Y1n, Y1o, Y1p, Y1q, Y1w, Y1x, Y1y, Y1z, Y20, Y21, Y28, Y2a, AV.cells?, Nat.reduceAdd, Nat.reduceMul, p2, decide_eq_false (show ¬ (e : Int) = 0 by omega), psub, and_self, true_and]
      rw [storeN_L (n := 2) (xs := [Z e, Z p]) rfl rfl]
      simp only [nd0, Y1n, Y1o, Y1p, Y1q, Y1w, Y1x, Y1y, Y1z, Y20, Y21, Y28, Y2a, AV.cells?, Nat.reduceAdd, Nat.reduceMul, put_two, ret_pf]
      exact hR _ _ rfl
  | ok x j =>
    rw [hx] at hr hR
    obtain ⟨rfl, rfl⟩ := hr
    obtain ⟨a1, a2, a3, a4⟩ := orR_good hgood _ x j (by omega) hx
    have b2 := skipTo_len a2
    refine wJoin.zero (fun H => ∃ c, H = ⟨[.cells n 2 [Z 0, Z 0], .cells (n + 1) 4 (if skipTo s j < s.length then pd s (skipTo s j) 3 (skipTo s j) else pd s (skipTo s j) 0 (-1))], c⟩) ?_ ?_
    · simp only [nd0, Y1n, Y1o, Y1p, Y1q, Y1w, Y1x, Y1y, Y1z, Y20, Y21, Y28, Y2a, AV.cells?, Nat.reduceAdd, Nat.reduceMul, p2, show decide ((0 : Int) = 0) = true from rfl]
      refine wCall.pc (b := 1) (rnext_spec B s j 0 (-1) a2 hs) rfl rfl ?_
      rintro r cs n4 ⟨rfl, rfl⟩
      have hfail : skipTo s j < s.length → ∀ c, wCall E P 132 [.ptrL 1 0 (n + 1), Z 3] ⟨[.cells n 2 [Z 0, Z 0], .cells (n + 1) 4 (pd s (skipTo s j) 0 (-1))], c⟩ fun _ H => gh0 (fun H => ∃ c, H = ⟨[.cells n 2 [Z 0, Z 0], .cells (n + 1) 4 (if skipTo s j < s.length then pd s (skipTo s j) 3 (skipTo s j) else pd s (skipTo s j) 0 (-1))], c⟩) H := fun hlt c => by
        refine wCall.pc (b := 1) (rfail_spec B s (skipTo s j) 3 b2 hs) rfl rfl ?_
        rintro r cs n5 ⟨rfl, rfl⟩
        refine gh0.mk ⟨n5, ?_⟩
        rw [if_pos hlt, skipTo_idem]; rfl
      by_cases hz : nextC s j = 0
      · simp only [nd0, Y1n, Y1o, Y1p, Y1q, Y1w, Y1x, Y1y, Y1z, Y20, Y21, Y28, Y2a, AV.cells?, Nat.reduceAdd, Nat.reduceMul, hz, show decide ((((0 : UInt8).toNat : Nat) : Int) = 0) = true from rfl, p2, p1, show decide ((0 : Int) = 0) = true from rfl]
        by_cases hlt : skipTo s j < s.length
        · simp only [nd0, Y1n, Y1o, Y1p, Y1q, Y1w, Y1x, Y1y, Y1z, Y20, Y21, Y28, Y2a, AV.cells?, Nat.reduceAdd, Nat.reduceMul, decide_eq_true (show ((skipTo s j : Nat) : Int) < (s.length : Int) by omega)]
          exact hfail hlt _
        · simp only [nd0, Y1n, Y1o, Y1p, Y1q, Y1w, Y1x, Y1y, Y1z, Y20, Y21, Y28, Y2a, AV.cells?, Nat.reduceAdd, Nat.reduceMul, decide_eq_false (show ¬ ((skipTo s j : Nat) : Int) < (s.length : Int) by omega)]
          exact gh0.mk ⟨_, by rw [if_neg hlt]⟩
      · have hlt : skipTo s j < s.length := by
          have : ¬ s.length ≤ skipTo s j := fun h => hz (by unfold nextC; rw [List.getElem?_eq_none h]; rfl)
          omega
        have hz2 : ¬ ((nextC s j).toNat : Int) = 0 := fun h => hz (UInt8.toNat_inj.1 (by simp; omega))
        simp only [nd0, Y1n, Y1o, Y1p, Y1q, Y1w, Y1x, Y1y, Y1z, Y20, Y21, Y28, Y2a, AV.cells?, Nat.reduceAdd, Nat.reduceMul, decide_eq_false hz2]
        exact hfail hlt _
    · rintro H ⟨c, rfl⟩
      by_cases hlt : skipTo s j < s.length
      · simp only [if_pos hlt] at hR ⊢
        simp only [nd0, Y1n, Y1o, Y1p, Y1q, Y1w, Y1x, Y1y, Y1z, Y20, Y21, Y28, Y2a, AV.cells?, Nat.reduceAdd, Nat.reduceMul, p2, show decide ((3 : Int) = 0) = false from rfl, psub, and_self, true_and]
        rw [storeN_L (n := 2) (xs := [Z 3, Z (skipTo s j)]) rfl rfl]
        simp only [nd0, Y1n, Y1o, Y1p, Y1q, Y1w, Y1x, Y1y, Y1z, Y20, Y21, Y28, Y2a, AV.cells?, Nat.reduceAdd, Nat.reduceMul, put_two, ret_pf]
        exact hR _ _ rfl
      · simp only [if_neg hlt] at hR ⊢
        simp only [nd0, Y1n, Y1o, Y1p, Y1q, Y1w, Y1x, Y1y, Y1z, Y20, Y21, Y28, Y2a, AV.cells?, Nat.reduceAdd, Nat.reduceMul, p2, show decide ((0 : Int) = 0) = true from rfl, psub, and_self, true_and, gfine]
        rw [storeN_L (n := 2) (xs := [Z 0, Z (-1)]) rfl rfl]
        simp only [nd0, Y1n, Y1o, Y1p, Y1q, Y1w, Y1x, Y1y, Y1z, Y20, Y21, Y28, Y2a, AV.cells?, Nat.reduceAdd, Nat.reduceMul, put_two, ret_pf]
        exact hR _ _ rfl
end
end Go.Sc
namespace Go.Sc
open Go
set_option linter.unusedSimpArgs false
set_option linter.unusedVariables false
set_option linter.unnecessarySimpa false
theorem binA_cat {s t : Str} (h : s.length + t.length ≤ 4611686018427387904) : binA .add (S s) (S t) = some (S (s ++ t)) := by
  have h1 : ¬ (((⟨s.toArray⟩ : ByteArray).size + (⟨t.toArray⟩ : ByteArray).size : Nat) : Int) > IntKind.i64.max := by
    simp [ByteArray.size, IntKind.max, IntKind.bits, IntKind.signed]; omega
  simp only [binA, strBin, if_neg h1, Option.map_some]
  congr 3
def Ex.kind : Ex → Str
  | .k b => if b then [49] else [48]
  | .bit _ => [98, 105, 116]
  | .rise _ => [94]
  | .fall _ => [126]
  | .not _ => [33]
  | .and _ => [38]
  | .or _ => [124]
def Ex.nm : Ex → Str
  | .bit s => s
  | .rise s => s
  | .fall s => s
  | _ => []
def Ex.of : Ex → AV
  | .not x => .slN [x.ref] 1
  | .and l => .slN (Ex.refL l) l.length
  | .or l => .slN (Ex.refL l) l.length
  | _ => nilS
theorem Ex.ref_eq (x : Ex) : x.ref = .ptrF [S x.kind, S x.nm, x.of] 0 := by cases x <;> rfl
theorem Ex.wt_mem {x : Ex} : ∀ {l : List Ex}, x ∈ l → x.wt ≤ Ex.wtL l
  | y :: l, h => by
    rcases List.mem_cons.1 h with rfl | h
    · simp only [Ex.wtL]; omega
    · have := Ex.wt_mem h; simp only [Ex.wtL]; omega
theorem Ex.fine_mem {x : Ex} : ∀ {l : List Ex}, Ex.fineL l → x ∈ l → x.fine
  | y :: l, h, hx => by
    rcases List.mem_cons.1 hx with rfl | hx
    · exact h.1
    · exact Ex.fine_mem h.2 hx
theorem Ex.len_wtL : ∀ {l : List Ex}, Ex.fineL l → l.length ≤ Ex.wtL l
  | [], _ => by simp
  | x :: l, h => by
    have h2 := Ex.len_wtL h.2
    have : 1 ≤ x.wt := by
      have h1 := h.1
      cases x with
      | bit s => cases s with
        | nil => simp [Ex.fine, nameOk] at h1
        | cons a b => simp [Ex.wt]
      | _ => simp only [Ex.wt]; omega
    simp only [Ex.wtL, List.length_cons]; omega
theorem Lm_S {l : List Str} : Lm S l = .slN (l.map fun s => S s) l.length := rfl
section
variable {E : Env} {P : Program}
theorem asA {k k' : Nat} {z a : AV} : assertA k z (.ifc k' a) = some (if k' = k then .tup [a, Bo true] else .tup [z, Bo false]) := by
  simp only [assertA]; split <;> rfl
end
end Go.Sc
namespace Go.Sc.F
open Go Go.Sc
set_option linter.unusedVariables false
/-- signalbox/expr.Size -/
def expr_Size (E : Env) (P : Program) (a0 : AV) (H : AH) (R : Kt) : Prop :=
  wNew 1 (some [(.val (.int .i64 0))]) H fun t3 H =>
  wPut (store1 t3 (.val (.int .i64 0)) H) fun _u H =>
  wCall E P 161 [a0, (.fn 160 [] [t3])] H fun t6 H =>
  wGet (load1 t3 H) H fun t7 H =>
  R t7 H

/-- signalbox/expr.walk -/
def expr_walk (E : Env) (P : Program) (a0 a1 : AV) (H : AH) (R : Kt) : Prop :=
  wCallV E P a1 [a0] H fun t13 H =>
  wGet (assertA 10 (.agg [(.val (.nilIface))]) a0) H fun t15 H =>
  wGet (extractA t15 1) H fun t16 H =>
  wGet (extractA t15 0) H fun t17 H =>
  wIf t16 (
    wNew 1 (some [(.val (.nilIface))]) H fun t4 H =>
    wPut (storeN 1 t4 t17 H) fun _u H =>
    wGet (faddr 0 t4) H fun t18 H =>
    wGet (load1 t18 H) H fun t19 H =>
    wCall E P 161 [t19, a1] H fun t21 H =>
    R (.tup []) H) (
    wGet (assertA 9 (.val (.slice none 0 0)) a0) H fun t22 H =>
    wGet (extractA t22 1) H fun t23 H =>
    wGet (extractA t22 0) H fun t24 H =>
    wIf t23 (
      wGet (lenA t24) H fun t26 H =>
      wLoop 1 (fun I1 => I1 (.val (.int .i64 0)) H) fun I1 t27 H =>
        wGet (binA .lss t27 t26) H fun t28 H =>
        wIf t28 (
          wGet (iaddr 1 t24 t27) H fun t29 H =>
          wGet (load1 t29 H) H fun t30 H =>
          wCall E P 161 [t30, a1] H fun t33 H =>
          wGet (binA .add t27 (.val (.int .i64 1))) H fun t34 H =>
          I1 t34 H) (
          R (.tup []) H)) (
      wGet (assertA 8 (.val (.slice none 0 0)) a0) H fun t35 H =>
      wGet (extractA t35 1) H fun t36 H =>
      wGet (extractA t35 0) H fun t37 H =>
      wIf t36 (
        wGet (lenA t37) H fun t39 H =>
        wLoop 1 (fun I2 => I2 (.val (.int .i64 0)) H) fun I2 t40 H =>
          wGet (binA .lss t40 t39) H fun t41 H =>
          wIf t41 (
            wGet (iaddr 1 t37 t40) H fun t42 H =>
            wGet (load1 t42 H) H fun t43 H =>
            wCall E P 161 [t43, a1] H fun t46 H =>
            wGet (binA .add t40 (.val (.int .i64 1))) H fun t47 H =>
            I2 t47 H) (
            R (.tup []) H)) (
        R (.tup []) H)))

/-- signalbox/expr.Size$1 -/
def expr_Size_c1 (E : Env) (P : Program) (a0 a1 : AV) (H : AH) (R : Kt) : Prop :=
  wGet (load1 a1 H) H fun t3 H =>
  wGet (binA .add t3 (.val (.int .i64 1))) H fun t4 H =>
  wPut (store1 a1 t4 H) fun _u H =>
  R (.tup []) H

end Go.Sc.F
namespace Go.Sc
open Go
set_option linter.unusedSimpArgs false
set_option linter.unusedVariables false
set_option linter.unnecessarySimpa false
/-! ### what it says -/
mutual
def Ex.says (p q : Str → Bool) : Ex → Bool
  | .k b => b
  | .bit s => p s
  | .rise s => p s && !q s
  | .fall s => !p s && q s
  | .not x => !x.says p q
  | .and l => Ex.allL p q l
  | .or l => Ex.anyL p q l
def Ex.allL (p q : Str → Bool) : List Ex → Bool
  | [] => true
  | x :: l => x.says p q && Ex.allL p q l
def Ex.anyL (p q : Str → Bool) : List Ex → Bool
  | [] => false
  | x :: l => x.says p q || Ex.anyL p q l
end
theorem Ex.allL_eq (p q : Str → Bool) : ∀ l : List Ex, Ex.allL p q l = l.all fun x => x.says p q
  | [] => rfl
  | x :: l => by simp [Ex.allL, Ex.allL_eq p q l]
theorem Ex.anyL_eq (p q : Str → Bool) : ∀ l : List Ex, Ex.anyL p q l = l.any fun x => x.says p q
  | [] => rfl
  | x :: l => by simp [Ex.anyL, Ex.anyL_eq p q l]
mutual
def Ex.size : Ex → Nat
  | .not x => x.size + 1
  | .and l => Ex.sizeL l + 1
  | .or l => Ex.sizeL l + 1
  | _ => 1
def Ex.sizeL : List Ex → Nat
  | [] => 0
  | x :: l => x.size + Ex.sizeL l
end
mutual
theorem Ex.size_wt : ∀ x : Ex, x.fine → x.size ≤ x.wt
  | .k _, _ => by simp [Ex.size, Ex.wt]
  | .bit s, h => by
    cases s with
    | nil => simp [Ex.fine, nameOk] at h
    | cons a b => simp [Ex.size, Ex.wt]
  | .rise _, _ => by simp [Ex.size, Ex.wt]
  | .fall _, _ => by simp [Ex.size, Ex.wt]
  | .not x, h => by have := Ex.size_wt x h; simp only [Ex.size, Ex.wt]; omega
  | .and l, h => by have := Ex.sizeL_wt l h.2; simp only [Ex.size, Ex.wt]; omega
  | .or l, h => by have := Ex.sizeL_wt l h.2; simp only [Ex.size, Ex.wt]; omega
theorem Ex.sizeL_wt : ∀ l : List Ex, Ex.fineL l → Ex.sizeL l ≤ Ex.wtL l
  | [], _ => by simp [Ex.sizeL, Ex.wtL]
  | x :: l, h => by have h1 := Ex.size_wt x h.1; have h2 := Ex.sizeL_wt l h.2; simp only [Ex.sizeL, Ex.wtL]; omega
end
/-- a question of names -/
structure Asks (E : Env) (P : Program) (f : AV) (p : Str → Bool) : Prop where
  ok : ∃ k cc, f = .fn k [] cc ∧ AV.closedL cc ∧ ∀ s, FX E P k ([S s] ++ cc) (Bo (p s))
theorem Asks.closed {E : Env} {P : Program} {f : AV} {p : Str → Bool} (h : Asks E P f p) : f.closed := by
  obtain ⟨k, cc, rfl, h, _⟩ := h.ok
  exact ⟨trivial, h⟩
theorem Asks.scalar {E : Env} {P : Program} {f : AV} {p : Str → Bool} (h : Asks E P f p) : f.scalar = true := by
  obtain ⟨k, cc, rfl, h, _⟩ := h.ok
  rfl
theorem Asks.call {E : Env} {P : Program} {f : AV} {p : Str → Bool} (h : Asks E P f p) (s : Str) {H : AH} {K : Kt} (hK : ∀ n, K (Bo (p s)) ⟨H.bs, n⟩) : wCallV E P f [S s] H K := by
  obtain ⟨k, cc, rfl, _, h⟩ := h.ok
  exact wCallV.fx (fs := []) (h s) hK
/-- a list of texts, or nil -/
def TXL (a : AV) (l : List Str) : Prop := (a = nilS ∧ l = []) ∨ a = Lm S l
theorem TXL.closed {a : AV} {l : List Str} (h : TXL a l) : a.closed := by
  rcases h with ⟨rfl, _⟩ | rfl
  · trivial
  · exact closed_S l
theorem TXL.scalar {a : AV} {l : List Str} (h : TXL a l) : a.scalar = true := by
  rcases h with ⟨rfl, _⟩ | rfl <;> rfl
theorem TXL.len {a : AV} {l : List Str} (h : TXL a l) : lenA a = some (Z l.length) := by
  rcases h with ⟨rfl, rfl⟩ | rfl <;> rfl
section
variable {E : Env} {P : Program}
end
end Go.Sc
namespace Go.Sc
open Go
set_option linter.unusedSimpArgs false
set_option linter.unusedVariables false
/-! ### how deep -/
/-! ### what stands behind -/
def T9 (r : Str) : Prop := r = [] ∨ ∃ c r', r = c :: r' ∧ (c = 32 ∨ c = 41)
def fnb (r : Str) : Option UInt8 := (r.dropWhile (· == 32)).head?
def TO (r : Str) : Prop := T9 r ∧ fnb r ≠ some 38 ∧ fnb r ≠ some 124
/-! ### names -/
/-! ### blanks ahead count for nothing -/
end Go.Sc
namespace Go.Sc
open Go
set_option linter.unusedSimpArgs false
set_option linter.unusedVariables false
set_option linter.unnecessarySimpa false
structure SizeBodies (E : Env) (P : Program) : Prop where
  size : Body1 E P 156 F.expr_Size
  size1 : Body2 E P 160 F.expr_Size_c1
  walk : Body2 E P 161 F.expr_walk
section
variable {E : Env} {P : Program}
theorem size1_spec (B : SizeBodies E P) (y : Ex) (n : Nat) (hn : n < 1000000000) : PC E P 160 1 [Z n] (fun b g => [y.enc, .ptrL b 0 g]) (fun r cs => r = .tup [] ∧ cs = [Z ((n + 1 : Nat) : Int)]) := by
  refine PC.of (fun f g => by simp only [AV.renL, AV.ren, AV.ren_closed _ (Ex.enc_closed y)]) ⟨trivial, trivial⟩ (by rintro r cs ⟨rfl, rfl⟩; exact ⟨trivial, trivial, trivial⟩) fun c g R hR => B.size1 _ _ _ _ ?_
  unfold F.expr_Size_c1
  simp only [nd0, Y1n, Y1o, Y1p, Y1q, Y1w, Y1x, Y1y, Y1z, Y20, Y21, Y28, Y2a, AV.cells?, Nat.reduceAdd, Nat.reduceMul]
  rw [binA_succ (by omega)]
  simp only [nd0, Y1n, Y1o, Y1p, Y1q, Y1w, Y1x, Y1y, Y1z, Y20, Y21, Y28, Y2a, AV.cells?, Nat.reduceAdd, Nat.reduceMul]
  rw [store1_L rfl]
  simp only [nd0, Y1n, Y1o, Y1p, Y1q, Y1w, Y1x, Y1y, Y1z, Y20, Y21, Y28, Y2a, AV.cells?, Nat.reduceAdd, Nat.reduceMul, Nat.reduceLT]
  exact hR _ _ [Z ((n + 1 : Nat) : Int)] [] c (.same _) ⟨rfl, rfl⟩
theorem walkL_spec (B : SizeBodies E P) (l : List Ex) (hl : ∀ x ∈ l, ∀ n : Nat, n + x.size < 1000000000 → PC E P 161 1 [Z n] (fun b g => [x.enc, .fn 160 [] [.ptrL b 0 g]]) (fun r cs => r = .tup [] ∧ cs = [Z ((n + x.size : Nat) : Int)])) (hlen : l.length < 1000000000) (n : Nat) (hn : n + Ex.sizeL l < 1000000000) {g c : Nat} {R : Kt} (rest : List Blk)
    (hR : ∀ c, R (.tup []) ⟨.cells g 1 [Z ((n + Ex.sizeL l : Nat) : Int)] :: rest, c⟩) :
    wLoop 1 (fun I1 => I1 (Z 0) ⟨.cells g 1 [Z n] :: rest, c⟩) fun I1 t27 H =>
      wGet (binA .lss t27 (Z l.length)) H fun t28 H =>
      wIf t28 (
        wGet (iaddr 1 (.slN (Ex.encL l) l.length) t27) H fun t29 H =>
        wGet (load1 t29 H) H fun t30 H =>
        wCall E P 161 [t30, .fn 160 [] [.ptrL 0 0 g]] H fun t33 H =>
        wGet (binA .add t27 (.val (.int .i64 1))) H fun t34 H =>
        I1 t34 H) (
        R (.tup []) H) := by
  refine wLoop.one (fun m i H => ∃ pre r c, l = pre ++ r ∧ i = Z pre.length ∧ m = r.length ∧ H = ⟨.cells g 1 [Z ((n + Ex.sizeL pre : Nat) : Int)] :: rest, c⟩) l.length (gh1.mk ⟨[], l, c, rfl, rfl, rfl, by simp [Ex.sizeL]⟩) ?_
  rintro m i H ⟨pre, r, c, rfl, rfl, rfl, rfl⟩
  have happ : ∀ a b : List Ex, Ex.sizeL (a ++ b) = Ex.sizeL a + Ex.sizeL b := fun a b => by
    induction a with
    | nil => simp [Ex.sizeL]
    | cons x a ih => simp only [List.cons_append, Ex.sizeL, ih]; omega
  cases r with
  | nil =>
    rw [List.append_nil] at hR ⊢
    simp only [nd0, Y1n, Y1o, Y1p, Y1q, Y1w, Y1x, Y1y, Y1z, Y20, Y21, Y28, Y2a, AV.cells?, Nat.reduceAdd, Nat.reduceMul, Int.lt_irrefl]
    exact hR c
  | cons x r =>
    rw [happ] at hn
    simp only [Ex.sizeL] at hn
    simp only [nd0, Y1n, Y1o, Y1p, Y1q, Y1w, Y1x, Y1y, Y1z, Y20, Y21, Y28, Y2a, AV.cells?, Nat.reduceAdd, Nat.reduceMul, decide_eq_true (show (pre.length : Int) < ((pre ++ x :: r).length : Int) by simp; omega)]
    rw [iaddr_Nn lt_mid]
    simp only [nd0, Y1n, Y1o, Y1p, Y1q, Y1w, Y1x, Y1y, Y1z, Y20, Y21, Y28, Y2a, AV.cells?, Nat.reduceAdd, Nat.reduceMul, show (Ex.encL (pre ++ x :: r))[pre.length]? = some x.enc by rw [Ex.encL_map]; simp]
    refine wCall.pc (b := 0) (hl x (by simp) (n + Ex.sizeL pre) (by omega)) rfl rfl ?_
    rintro rr cs n3 ⟨rfl, rfl⟩
    rw [binA_succ (by simp at hlen; omega)]
    simp only [nd0, Y1n, Y1o, Y1p, Y1q, Y1w, Y1x, Y1y, Y1z, Y20, Y21, Y28, Y2a, AV.cells?, Nat.reduceAdd, Nat.reduceMul]
    refine back1.mk r.length (by simp) ⟨pre ++ [x], r, n3, by simp, by simp, rfl, ?_⟩
    rw [happ]
    simp only [Ex.sizeL]
    congr 5; omega
theorem walk_spec (B : SizeBodies E P) : ∀ (k : Nat) (x : Ex), x.wt < k → x.wt ≤ 1000000 → x.fine → ∀ n : Nat, n + x.size < 1000000000 → PC E P 161 1 [Z n] (fun b g => [x.enc, .fn 160 [] [.ptrL b 0 g]]) (fun r cs => r = .tup [] ∧ cs = [Z ((n + x.size : Nat) : Int)]) := by
  intro k
  induction k with
  | zero => intro x h; omega
  | succ k ih =>
    intro x hx hw hf n hn
    refine PC.of (fun f g => by simp only [AV.renL, AV.ren, AV.ren_closed _ (Ex.enc_closed x)]) ⟨trivial, trivial⟩ (by rintro r cs ⟨rfl, rfl⟩; exact ⟨trivial, trivial, trivial⟩) fun c g R hR => B.walk _ _ _ _ ?_
    unfold F.expr_walk
    have h1 : 1 ≤ x.size := by cases x <;> simp [Ex.size]
    refine wCallV.pc (b := 0) (size1_spec B x n (by omega)) rfl rfl ?_
    rintro r cs c2 ⟨rfl, rfl⟩
    have fin : ∀ rest c, x.size = 1 → R (.tup []) ⟨.cells g 1 [Z ((n + 1 : Nat) : Int)] :: rest, c⟩ := fun rest c h => hR _ _ _ rest c (.same _) ⟨rfl, by rw [h]⟩
    cases x with
    | k b => simp only [Ex.enc]; simp only [nd0, Y1n, Y1o, Y1p, Y1q, Y1w, Y1x, Y1y, Y1z, Y20, Y21, Y28, Y2a, AV.cells?, Nat.reduceAdd, Nat.reduceMul, asA, show (11 : Nat) = 10 ↔ False by decide, show (11 : Nat) = 9 ↔ False by decide, show (11 : Nat) = 8 ↔ False by decide]; exact fin [] c2 rfl
    | bit b => simp only [Ex.enc]; simp only [nd0, Y1n, Y1o, Y1p, Y1q, Y1w, Y1x, Y1y, Y1z, Y20, Y21, Y28, Y2a, AV.cells?, Nat.reduceAdd, Nat.reduceMul, asA, show (14 : Nat) = 10 ↔ False by decide, show (14 : Nat) = 9 ↔ False by decide, show (14 : Nat) = 8 ↔ False by decide]; exact fin [] c2 rfl
    | rise b => simp only [Ex.enc]; simp only [nd0, Y1n, Y1o, Y1p, Y1q, Y1w, Y1x, Y1y, Y1z, Y20, Y21, Y28, Y2a, AV.cells?, Nat.reduceAdd, Nat.reduceMul, asA, show (12 : Nat) = 10 ↔ False by decide, show (12 : Nat) = 9 ↔ False by decide, show (12 : Nat) = 8 ↔ False by decide]; exact fin [] c2 rfl
    | fall b => simp only [Ex.enc]; simp only [nd0, Y1n, Y1o, Y1p, Y1q, Y1w, Y1x, Y1y, Y1z, Y20, Y21, Y28, Y2a, AV.cells?, Nat.reduceAdd, Nat.reduceMul, asA, show (13 : Nat) = 10 ↔ False by decide, show (13 : Nat) = 9 ↔ False by decide, show (13 : Nat) = 8 ↔ False by decide]; exact fin [] c2 rfl
    | not y =>
      simp only [Ex.enc]
      simp only [Ex.wt] at hw hx
      simp only [Ex.size] at hn hR
      simp only [nd0, Y1n, Y1o, Y1p, Y1q, Y1w, Y1x, Y1y, Y1z, Y20, Y21, Y28, Y2a, AV.cells?, Nat.reduceAdd, Nat.reduceMul, asA, show (10 : Nat) = 10 ↔ True by decide]
      refine wNew.L (l := [nilE]) rfl ?_
      simp only [nd0, Y1n, Y1o, Y1p, Y1q, Y1w, Y1x, Y1y, Y1z, Y20, Y21, Y28, Y2a, AV.cells?, Nat.reduceAdd, Nat.reduceMul]
      rw [storeN_L (n := 1) (xs := [y.enc]) rfl (by simp [Ex.enc_scalar])]
      simp only [nd0, Y1n, Y1o, Y1p, Y1q, Y1w, Y1x, Y1y, Y1z, Y20, Y21, Y28, Y2a, AV.cells?, Nat.reduceAdd, Nat.reduceMul, show putL [nilE] 0 [y.enc] = some [y.enc] from rfl]
      refine wCall.pc (b := 0) (ih y (by omega) (by omega) hf (n + 1) (by omega)) rfl rfl ?_
      rintro r cs c3 ⟨rfl, rfl⟩
      refine hR _ _ _ _ c3 (.same _) ⟨rfl, ?_⟩
      congr 3; omega
    | and l =>
      simp only [Ex.enc]
      simp only [Ex.wt] at hw hx
      simp only [Ex.size] at hn hR
      have hll := Ex.len_wtL hf.2
      simp only [nd0, Y1n, Y1o, Y1p, Y1q, Y1w, Y1x, Y1y, Y1z, Y20, Y21, Y28, Y2a, AV.cells?, Nat.reduceAdd, Nat.reduceMul, asA, show (9 : Nat) = 10 ↔ False by decide, show (9 : Nat) = 9 ↔ True by decide]
      refine walkL_spec B l (fun y hy => ih y (by have := Ex.wt_mem hy; omega) (by have := Ex.wt_mem hy; omega) (Ex.fine_mem hf.2 hy)) (by omega) (n + 1) (by omega) [] fun c => ?_
      refine hR _ _ _ [] c (.same _) ⟨rfl, ?_⟩
      congr 3; omega
    | or l =>
      simp only [Ex.enc]
      simp only [Ex.wt] at hw hx
      simp only [Ex.size] at hn hR
      have hll := Ex.len_wtL hf.2
      simp only [nd0, Y1n, Y1o, Y1p, Y1q, Y1w, Y1x, Y1y, Y1z, Y20, Y21, Y28, Y2a, AV.cells?, Nat.reduceAdd, Nat.reduceMul, asA, show (8 : Nat) = 10 ↔ False by decide, show (8 : Nat) = 9 ↔ False by decide, show (8 : Nat) = 8 ↔ True by decide]
      refine walkL_spec B l (fun y hy => ih y (by have := Ex.wt_mem hy; omega) (by have := Ex.wt_mem hy; omega) (Ex.fine_mem hf.2 hy)) (by omega) (n + 1) (by omega) [] fun c => ?_
      refine hR _ _ _ [] c (.same _) ⟨rfl, ?_⟩
      congr 3; omega
theorem Size_spec (B : SizeBodies E P) (x : Ex) (hw : x.wt ≤ 1000000) (hf : x.fine) : FX E P 156 [x.enc] (Z x.size) := by
  refine FX.of' ⟨Ex.enc_closed x, trivial⟩ trivial fun n R hR => B.size _ _ _ ?_
  unfold F.expr_Size
  refine wNew.L (l := [Z 0]) rfl ?_
  simp only [nd0, Y1n, Y1o, Y1p, Y1q, Y1w, Y1x, Y1y, Y1z, Y20, Y21, Y28, Y2a, AV.cells?, Nat.reduceAdd, Nat.reduceMul]
  rw [store1_L rfl]
  simp only [nd0, Y1n, Y1o, Y1p, Y1q, Y1w, Y1x, Y1y, Y1z, Y20, Y21, Y28, Y2a, AV.cells?, Nat.reduceAdd, Nat.reduceMul, Nat.reduceLT]
  have := Ex.size_wt x hf
  refine wCall.pc (b := 0) (walk_spec B (x.wt + 1) x (by omega) hw hf 0 (by omega)) rfl rfl ?_
  rintro r cs c2 ⟨rfl, rfl⟩
  simp only [nd0, Y1n, Y1o, Y1p, Y1q, Y1w, Y1x, Y1y, Y1z, Y20, Y21, Y28, Y2a, AV.cells?, Nat.reduceAdd, Nat.reduceMul]
  exact hR _ _ (by simp)
end
/-! ### a fact: an expression of two -/
section
variable {E : Env} {P : Program}
end
end Go.Sc
namespace Go.Sc
set_option linter.unusedSimpArgs false
open Go Go.RowKit
section
variable {E : Env} {P : Program}
theorem indexByte_idx (c : UInt8) : ∀ s : Str, Lib.indexByte s c = idx s c
  | [] => by simp [Lib.indexByte, idx]
  | x :: s => by
    have ih := indexByte_idx c s
    unfold Lib.indexByte
    by_cases h : x = c
    · subst h; simp [idx]
    · have h' : ¬ c = x := fun e => h e.symm
      have hb : (x == c) = false := by simpa using h
      by_cases hm : c ∈ s
      · simp [idx, hm, h, h', ih, List.idxOf_cons, hb] <;> omega
      · simp [idx, hm, h, h', ih]
theorem FX.indexByte {k : Nat} {fn : Func} (hf : P.funcs[E.fn k]? = some fn) (hn : (fn.name == "runtime.NumGoroutine") = false) (hb : fn.body.isNone = false)
    (h : ∀ (s : ByteArray) (c : Int) (w : World), Calls P (E.fn k) #[.string s, .int .u8 c] w fun e w' => e = .returned (.int .i64 (Lib.indexByte s.data.toList c.toNat.toUInt8)) ∧ w' = w) (s : Str) (c : UInt8) : FX E P k [S s, By c] (Z (idx s c)) := by
  refine FX.ofCalls hf hn hb (by simp [AV.closedL, AV.closed]) (by simp [AV.flat]) (by simp [AV.closed]) fun cx vs _ _ hv => ?_
  simp only [LRel, VRel] at hv
  obtain ⟨v0, _, rfl, rfl, v1, _, rfl, rfl, rfl⟩ := hv
  refine (h ⟨s.toArray⟩ c.toNat cx.w).mono ?_
  rintro e w' ⟨rfl, rfl⟩
  refine ⟨_, rfl, Below.refl _ _, ?_⟩
  have e1 : (((c.toNat : Nat) : Int).toNat).toUInt8 = c := by simp
  rw [e1, indexByte_idx]
  simp [VRel]
end
end Go.Sc
namespace Go.Sc
open Go Go.RowKit Go.Sort Go.Proofs
set_option linter.unusedSimpArgs false
set_option linter.unusedVariables false
section
variable {E : Env} {P : Program} {c : Cx} {H : AH}
theorem HRel.more (h : HRel E c H) (os : Array Obj) : HRel E { c with w := grow c.w os } H ∧ Later c { c with w := grow c.w os } := by
  have hsame : ∀ k, k < c.w.heap.size → (grow c.w os).heap[k]? = c.w.heap[k]? := fun k hk => by
    show (c.w.heap ++ os)[k]? = _
    rw [Array.getElem?_append_left hk]
  have hsz : c.w.heap.size ≤ (grow c.w os).heap.size := by show c.w.heap.size ≤ (c.w.heap ++ os).size; simp
  have hL : Later c { c with w := grow c.w os } := {
    le := ⟨Nat.le_refl _, fun b hb => ⟨hb, hsame b (h.fzlt b hb)⟩, fun k j hk => ⟨.inr hk, cell_of_heap (hsame k (h.fclt k j hk)) _ _⟩, fun b g _ e => ⟨e, rfl, rfl, rfl, rfl⟩, fun _ _ _ _ _ hj => hj⟩
    os := rfl
    tape := rfl
    output := rfl
    size := hsz
    keep := fun k hk _ => hsame k hk
    own := fun b hb => .inl ⟨b, hb, rfl⟩
    fz := fun k hk => .inl hk
    fc := fun k j hk => .inl hk }
  exact ⟨⟨h.ctr, h.out, fun b x e => (h.blk b x e).mono hL.le rfl rfl rfl rfl rfl (fun hd => hsame _ (h.lt b (h.live' e hd))), h.apart, h.solid, h.inj, fun b hb => Nat.lt_of_lt_of_le (h.lt b hb) hsz, fun b hb => Nat.lt_of_lt_of_le (h.fzlt b hb) hsz, fun b j hb => Nat.lt_of_lt_of_le (h.fclt b j hb) hsz, h.globLe hL.le⟩, hL⟩
theorem rel_texts : ∀ {l : List Str} {vs : List Value}, LRel E c (l.map fun s => S s) vs → vs = l.map encStr
  | [], vs, h => by simpa [LRel] using h
  | s :: l, vs, h => by
    simp only [List.map_cons, LRel] at h
    obtain ⟨u, us, rfl, hu, h⟩ := h
    simp only [VRel] at hu
    rw [rel_texts h, hu]
    rfl
theorem texts_rel : ∀ {l : List Str}, LRel E c (l.map fun s => S s) (l.map encStr)
  | [] => by simp [LRel]
  | s :: l => by simp only [List.map_cons, LRel]; exact ⟨_, _, rfl, by simp only [VRel], texts_rel⟩
/-- where a row of texts lies -/
theorem HRel.row (h : HRel E c H) {b g : Nat} {l : List Str} (hb : H.bs[b]? = some (.cells g 1 (l.map fun s => S s))) : ∃ p0 rest e, c.w.heap[c.al b]? = some (.cells (p0 ++ l.map encStr ++ rest).toArray e (0, 0)) ∧ p0.length = c.base b ∧ c.gen b = some g ∧ c.sz b = 1 ∧ c.csz b = (p0 ++ l.map encStr ++ rest).length := by
  have hB := h.blk b _ hb
  simp only [BRel] at hB
  obtain ⟨h1, h2, h3, arr, e, h4, h5, p0, pre, rest, rfl, h7, h8⟩ := hB
  have := rel_texts h8
  subst this
  exact ⟨p0, rest, e, h4, h7, h2, h3, h5⟩
theorem HRel.holds (h : HRel E c H) {b g : Nat} {l : List Str} (hb : H.bs[b]? = some (.cells g 1 (l.map fun s => S s))) : Holds encStr c.w (c.al b) (c.base b) l.toArray := by
  obtain ⟨p0, rest, e, h4, h7, -⟩ := h.row hb
  intro j hj
  simp at hj
  rw [← h7]
  refine ⟨?_, ?_⟩
  · simp only [World.cell?, h4]
    simp [List.getElem?_append_right, List.getElem?_append_left, hj]
  · simp [World.frozen?, h4]
theorem HRel.putTexts (h : HRel E c H) {b g : Nat} {l l' : List Str} (hl : l'.length = l.length) (hb : H.bs[b]? = some (.cells g 1 (l.map fun s => S s))) (q : Nat) (os : Array Obj) :
    HRel E { c with w := grow (putRow encStr (Sort.ahead c.w q) (c.al b) (c.base b) l'.toArray) os } ⟨H.bs.set b (.cells g 1 (l'.map fun s => S s)), H.ctr⟩ ∧ Later c { c with w := grow (putRow encStr (Sort.ahead c.w q) (c.al b) (c.base b) l'.toArray) os } := by
  obtain ⟨p0, rest, e, h4, h7, -⟩ := h.row hb
  have hlt := h.lt (b := b) (h.live' hb)
  have hheap : (putRow encStr (Sort.ahead c.w q) (c.al b) (c.base b) l'.toArray).heap = c.w.heap.setIfInBounds (c.al b) (.cells (p0 ++ l'.map encStr ++ rest).toArray e (0, 0)) := by
    have hput : putCells encStr (c.base b) l'.toArray (p0 ++ l.map encStr ++ rest).toArray = (p0 ++ l'.map encStr ++ rest).toArray := by
      apply Array.ext_getElem?
      intro k
      unfold putCells
      simp only [Array.getElem?_mapIdx, List.size_toArray, List.getElem?_toArray, ← h7]
      by_cases h1 : k < p0.length
      · rw [List.append_assoc, List.append_assoc, List.getElem?_append_left h1, List.getElem?_append_left h1]
        have : ¬ (p0.length ≤ k ∧ k < p0.length + l'.length) := by omega
        simp only [if_neg this]
        cases p0[k]? <;> rfl
      · by_cases h2 : k < p0.length + l'.length
        · have e1 : (p0 ++ l'.map encStr ++ rest)[k]? = some (encStr (l'[k - p0.length]'(by omega))) := by
            rw [List.getElem?_append_left (by simp; omega), List.getElem?_append_right (by omega), List.getElem?_map, List.getElem?_eq_getElem (by omega)]; rfl
          have e2 : ∃ v, (p0 ++ l.map encStr ++ rest)[k]? = some v := ⟨_, List.getElem?_eq_getElem (by simp; omega)⟩
          obtain ⟨v, e2⟩ := e2
          rw [e1, e2]
          have : (p0.length ≤ k ∧ k < p0.length + l'.length) := by omega
          simp only [Option.map_some, if_pos this]
          congr 2
          simp [getElem!_pos, show k - p0.length < l'.length by omega]
        · have : ¬ (p0.length ≤ k ∧ k < p0.length + l'.length) := by omega
          simp only [if_neg this]
          rw [List.getElem?_append_right (by simp; omega), List.getElem?_append_right (by simp; omega)]
          simp only [List.length_append, List.length_map, hl]
          cases rest[k - (p0.length + l.length)]? <;> rfl
    apply Array.ext_getElem?
    intro k
    unfold putRow mapBlock
    show (c.w.heap.modify (c.al b) _)[k]? = _
    rw [Array.getElem?_modify, Array.getElem?_setIfInBounds]
    by_cases hk : c.al b = k
    · subst hk
      rw [if_pos rfl, if_pos rfl, h4, if_pos hlt]
      simp only [Option.map_some, onCells, hput]
    · rw [if_neg hk, if_neg hk]
  obtain ⟨k1, k2⟩ := h.setRow (w' := putRow encStr (Sort.ahead c.w q) (c.al b) (c.base b) l'.toArray) hb h4 h7 (pre' := l'.map encStr) (by simp [hl]) texts_rel hheap rfl rfl rfl
  obtain ⟨k3, k4⟩ := k1.more os
  exact ⟨k3, k2.trans k4⟩
/-- a walk of the kit's, as a call of ours -/
theorem ACalls.ofWalk {k : Nat} {fn : Func} {args : List AV} {R : Kt} (hf : P.funcs[E.fn k]? = some fn) (hn : (fn.name == "runtime.NumGoroutine") = false) (hb : fn.body.isNone = false)
    (h : ∀ (c : Cx) (vs : List Value), HRel E c H → LRel E c args vs → Calls P (E.fn k) vs.toArray c.w fun e w' => ∃ v r c' H', e = .returned v ∧ c'.w = w' ∧ R r H' ∧ HRel E c' H' ∧ VRel E c' r v ∧ Later c c') : ACalls E P k args H R := by
  intro c vs hH hv o a next Q hnext
  have hrun : (callFunc (E.fn k) vs.toArray).run P c.w = .ok (.enter (E.fn k) vs.toArray) c.w := by
    have hn' : ¬ ((fn.name == "runtime.NumGoroutine") = true) := by rw [hn]; simp
    have hb' : ¬ (fn.body.isNone = true) := by rw [hb]; simp
    simp only [callFunc, Sem.run_bind, run_program, Result.andThen_ok, hf, if_neg hn', if_neg hb', Sem.run_pure]
  rw [hrun]
  simp only [Oper.upon]
  refine (h c vs hH hv).mono ?_
  rintro e w' ⟨v, r, c', H', rfl, h1, h2, h3, h4, h5⟩
  exact hnext v w' ⟨r, c', H', h1, h2, h3, h4, h5⟩
def sortS (l : List Str) : List Str := l.mergeSort fun x y => decide (x ≤ y)
theorem sortS_length (l : List Str) : (sortS l).length = l.length := by simp [sortS]
/-- slices.Sort of texts -/
theorem sort_calls {k : Nat} {fn : Func} (hf : P.funcs[E.fn k]? = some fn) (hn : (fn.name == "runtime.NumGoroutine") = false) (hbd : fn.body.isNone = false)
    (h0 : ∀ (p : Option Addr) (cap : Nat) (w : World), Calls P (E.fn k) #[.slice p 0 cap] w fun e w' => e = .returned (.tuple #[]) ∧ w' = w)
    (h1 : ∀ (blk off cap : Nat) (ss : List (List UInt8)) (w : World), Holds encStr w blk off ss.toArray → blk < w.heap.size → ss.length < 4611686018427387904 → Calls P (E.fn k) #[.slice (some ⟨blk, off, none⟩) ss.length cap] w fun e w' =>
      e = .returned (.tuple #[]) ∧ ∃ n os, w' = grow (putRow encStr (Sort.ahead w n) blk off (ss.mergeSort fun x y => decide (x ≤ y)).toArray) os)
    {b g : Nat} {l : List Str} (hl : l.length < 4611686018427387904) (hb : H.bs[b]? = some (.cells g 1 (l.map fun s => S s))) : ACalls E P k [.slL b 0 l.length g] H fun r H' => r = .tup [] ∧ H' = ⟨H.bs.set b (.cells g 1 ((sortS l).map fun s => S s)), H.ctr⟩ := by
  refine ACalls.ofWalk hf hn hbd fun c vs hH hv => ?_
  obtain ⟨v, rfl, hr⟩ := hv.one'
  simp only [VRel] at hr
  obtain ⟨_, p, cap, rfl, hcap, hp⟩ := hr
  obtain ⟨p0, rest, e, h4, h7, hg, _⟩ := hH.row hb
  rcases hp hg with hz | ⟨rfl, _⟩
  · subst hz
    have hl0 : l = [] := List.eq_nil_of_length_eq_zero (by omega)
    subst hl0
    refine (h0 (some p) 0 c.w).mono ?_
    rintro e w' ⟨rfl, rfl⟩
    obtain ⟨k1, k2⟩ := hH.more #[]
    refine ⟨_, .tup [], c, H, rfl, rfl, ⟨rfl, ?_⟩, hH, by simp [VRel, LRel], Later.refl c⟩
    have : sortS [] = [] := by simp [sortS]
    rw [this]
    have hlt := lt_of_get hb
    have : H.bs[b] = .cells g 1 (([] : List Str).map fun s => S s) := by rw [List.getElem?_eq_getElem hlt] at hb; injection hb
    rw [← this, List.set_getElem_self]
  · refine (h1 (c.al b) (c.base b) cap l c.w (hH.holds hb) (hH.lt b (hH.live' hb)) hl).mono ?_
    rintro e w' ⟨rfl, n, os, rfl⟩
    obtain ⟨k1, k2⟩ := hH.putTexts (l' := sortS l) (sortS_length l) hb n os
    exact ⟨_, .tup [], _, _, rfl, rfl, ⟨rfl, rfl⟩, k1, by simp [VRel, LRel], k2⟩
def packS (l : List Str) : List Str := Lib.compact l
theorem packS_length (l : List Str) : (packS l).length ≤ l.length := by
  have h := List.length_filter_le (Lib.keeps l.toArray) (List.range l.length)
  simp only [packS, Lib.compact, Lib.compactUpTo, List.length_map]
  simpa using h
theorem packS_mem {l : List Str} {x : Str} : x ∈ packS l ↔ x ∈ l := by
  simp only [packS, Lib.compact, Lib.compactUpTo, List.mem_map, List.mem_filter, List.mem_range]
  constructor
  · rintro ⟨j, ⟨hj, _⟩, rfl⟩
    have : (l.toArray)[j]! = l[j] := by simp [getElem!_pos, hj]
    rw [this]; exact List.getElem_mem hj
  · intro hx
    obtain ⟨j, hj, rfl⟩ := List.getElem_of_mem hx
    induction j with
    | zero => exact ⟨0, ⟨hj, by simp [Lib.keeps]⟩, by simp [getElem!_pos, hj]⟩
    | succ j ih =>
      by_cases hk : Lib.keeps l.toArray (j + 1) = true
      · exact ⟨j + 1, ⟨hj, hk⟩, by simp [getElem!_pos, hj]⟩
      · have heq : (l.toArray)[j + 1]! = (l.toArray)[j]! := by
          simp only [Lib.keeps] at hk
          simpa using hk
        have h1 : (l.toArray)[j + 1]! = l[j + 1] := by simp [getElem!_pos, hj]
        have h2 : (l.toArray)[j]! = l[j] := by simp [getElem!_pos, show j < l.length by omega]
        obtain ⟨i, hi, he⟩ := ih (by omega) (List.getElem_mem (by omega))
        exact ⟨i, hi, by rw [he, ← h2, ← heq, h1]⟩
theorem sortS_mem {l : List Str} {x : Str} : x ∈ sortS l ↔ x ∈ l := by simp [sortS]
/-- slices.Compact of texts -/
theorem compact_calls {k : Nat} {fn : Func} (hf : P.funcs[E.fn k]? = some fn) (hn : (fn.name == "runtime.NumGoroutine") = false) (hbd : fn.body.isNone = false)
    (h0 : ∀ (a : Option Addr) (cap : Nat) (w : World), Calls P (E.fn k) #[.slice a 0 cap] w fun e w' => e = .returned (.slice a 0 cap) ∧ w' = w)
    (h1 : ∀ (blk off cap : Nat) (zs : List (List UInt8)) (w : World), Holds encStr w blk off zs.toArray → zs.length ≤ 9223372036854775807 → zs.length ≤ cap → Calls P (E.fn k) #[.slice (some ⟨blk, off, none⟩) zs.length cap] w fun e w' =>
      e = .returned (.slice (some ⟨blk, off, none⟩) (Lib.compact zs).length cap) ∧ ∃ q, w' = putRow encStr (Sort.ahead w q) blk off (Lib.compact zs ++ List.replicate (zs.length - (Lib.compact zs).length) []).toArray)
    {b g : Nat} {l : List Str} (hl : l.length < 4611686018427387904) (hb : H.bs[b]? = some (.cells g 1 (l.map fun s => S s))) : ACalls E P k [.slL b 0 l.length g] H fun r H' => r = .slL b 0 (packS l).length g ∧ H' = ⟨H.bs.set b (.cells g 1 ((packS l ++ List.replicate (l.length - (packS l).length) []).map fun s => S s)), H.ctr⟩ := by
  refine ACalls.ofWalk hf hn hbd fun c vs hH hv => ?_
  obtain ⟨v, rfl, hr⟩ := hv.one'
  simp only [VRel] at hr
  obtain ⟨hgl, p, cap, rfl, hcap, hp⟩ := hr
  obtain ⟨p0, rest, e, h4, h7, hg, _⟩ := hH.row hb
  have hpl := packS_length l
  rcases hp hg with hz | ⟨rfl, hroom⟩
  · subst hz
    have hl0 : l = [] := List.eq_nil_of_length_eq_zero (by omega)
    subst hl0
    have hp0 : packS [] = [] := List.eq_nil_of_length_eq_zero (by simpa using hpl)
    refine (h0 (some p) 0 c.w).mono ?_
    rintro e w' ⟨rfl, rfl⟩
    refine ⟨_, .slL b 0 (packS []).length g, c, H, rfl, rfl, ⟨rfl, ?_⟩, hH, ?_, Later.refl c⟩
    · rw [hp0]
      have hlt := lt_of_get hb
      have : H.bs[b] = .cells g 1 (([] : List Str).map fun s => S s) := by rw [List.getElem?_eq_getElem hlt] at hb; injection hb
      simp only [List.length_nil, Nat.sub_self, List.replicate_zero, List.append_nil]
      rw [← this, List.set_getElem_self]
    · simp only [VRel]
      exact ⟨hgl, p, 0, by rw [hp0]; rfl, by rw [hp0]; exact Nat.le_refl _, fun _ => .inl rfl⟩
  · refine (h1 (c.al b) (c.base b) cap l c.w (hH.holds hb) (by omega) hcap).mono ?_
    rintro e w' ⟨rfl, q, rfl⟩
    obtain ⟨k1, k2⟩ := hH.putTexts (l' := packS l ++ List.replicate (l.length - (packS l).length) []) (by simp; omega) hb q #[]
    rw [grow_empty] at k1 k2
    refine ⟨_, .slL b 0 (packS l).length g, _, _, rfl, rfl, ⟨rfl, rfl⟩, k1, ?_, k2⟩
    simp only [VRel]
    exact ⟨hgl, _, cap, rfl, Nat.le_trans hpl hcap, fun _ => .inr ⟨rfl, hroom⟩⟩
theorem FX.sortNil {k : Nat} {fn : Func} (hf : P.funcs[E.fn k]? = some fn) (hn : (fn.name == "runtime.NumGoroutine") = false) (hbd : fn.body.isNone = false)
    (h0 : ∀ (p : Option Addr) (cap : Nat) (w : World), Calls P (E.fn k) #[.slice p 0 cap] w fun e w' => e = .returned (.tuple #[]) ∧ w' = w) : FX E P k [nilS] (.tup []) := by
  refine FX.ofCalls hf hn hbd ⟨trivial, trivial⟩ trivial trivial fun c vs _ _ hv => ?_
  obtain ⟨v, rfl, hr⟩ := hv.one'
  simp only [VRel] at hr
  subst hr
  refine (h0 none 0 c.w).mono ?_
  rintro e w' ⟨rfl, rfl⟩
  exact ⟨_, rfl, Below.refl _ _, by simp [VRel, LRel]⟩
theorem FX.compactNil {k : Nat} {fn : Func} (hf : P.funcs[E.fn k]? = some fn) (hn : (fn.name == "runtime.NumGoroutine") = false) (hbd : fn.body.isNone = false)
    (h0 : ∀ (a : Option Addr) (cap : Nat) (w : World), Calls P (E.fn k) #[.slice a 0 cap] w fun e w' => e = .returned (.slice a 0 cap) ∧ w' = w) : FX E P k [nilS] nilS := by
  refine FX.ofCalls hf hn hbd ⟨trivial, trivial⟩ trivial trivial fun c vs _ _ hv => ?_
  obtain ⟨v, rfl, hr⟩ := hv.one'
  simp only [VRel] at hr
  subst hr
  refine (h0 none 0 c.w).mono ?_
  rintro e w' ⟨rfl, rfl⟩
  exact ⟨_, rfl, Below.refl _ _, by simp [VRel]⟩
end
end Go.Sc
namespace Go.Sc.F
open Go Go.Sc
set_option linter.unusedVariables false
/-- (*signalbox/signalboxref.Expr).Eval -/
def pref_Expr_Eval (E : Env) (P : Program) (a0 a1 a2 : AV) (H : AH) (R : Kt) : Prop :=
  wGet (nilA a0) H fun t11 H =>
  wGet (faddr 0 t11) H fun t12 H =>
  wGet (load1 t12 H) H fun t13 H =>
  wGet (binA .eql t13 (.val (.string ⟨#[49]⟩))) H fun t15 H =>
  wIf t15 (
    R (.val (.bool true)) H) (
    wGet (binA .eql t13 (.val (.string ⟨#[98, 105, 116]⟩))) H fun t17 H =>
    wIf t17 (
      wGet (nilA a0) H fun t20 H =>
      wGet (faddr 1 t20) H fun t21 H =>
      wGet (load1 t21 H) H fun t22 H =>
      wCallV E P a1 [t22] H fun t23 H =>
      R t23 H) (
      wGet (binA .eql t13 (.val (.string ⟨#[94]⟩))) H fun t25 H =>
      wIf t25 (
        wGet (nilA a0) H fun t28 H =>
        wGet (faddr 1 t28) H fun t29 H =>
        wGet (load1 t29 H) H fun t30 H =>
        wCallV E P a1 [t30] H fun t31 H =>
        wGuard t31 true H (fun k => k a2 H) fun t33 H =>
        wGuard t31 true H (fun k => k a0 H) fun t34 H =>
        wGuard t31 true H (fun k => wGet (nilA t34) H k) fun t35 H =>
        wGuard t31 true H (fun k => wGet (faddr 1 t35) H k) fun t36 H =>
        wGuard t31 true H (fun k => wGet (load1 t36 H) H k) fun t37 H =>
        wGuard t31 true H (fun k => wCallV E P t33 [t37] H k) fun t38 H =>
        wGuard t31 true H (fun k => wGet (unA .not t38) H k) fun t39 H =>
        wGet (pickA t31 t39 (.val (.bool false))) H fun t40 H =>
        R t40 H) (
        wGet (binA .eql t13 (.val (.string ⟨#[126]⟩))) H fun t42 H =>
        wIf t42 (
          wGet (nilA a0) H fun t45 H =>
          wGet (faddr 1 t45) H fun t46 H =>
          wGet (load1 t46 H) H fun t47 H =>
          wCallV E P a2 [t47] H fun t48 H =>
          wGuard t48 true H (fun k => k a1 H) fun t50 H =>
          wGuard t48 true H (fun k => k a0 H) fun t51 H =>
          wGuard t48 true H (fun k => wGet (nilA t51) H k) fun t52 H =>
          wGuard t48 true H (fun k => wGet (faddr 1 t52) H k) fun t53 H =>
          wGuard t48 true H (fun k => wGet (load1 t53 H) H k) fun t54 H =>
          wGuard t48 true H (fun k => wCallV E P t50 [t54] H k) fun t55 H =>
          wGuard t48 true H (fun k => wGet (unA .not t55) H k) fun t56 H =>
          wGet (pickA t48 t56 (.val (.bool false))) H fun t57 H =>
          R t57 H) (
          wGet (binA .eql t13 (.val (.string ⟨#[33]⟩))) H fun t59 H =>
          wIf t59 (
            wGet (nilA a0) H fun t61 H =>
            wGet (faddr 2 t61) H fun t62 H =>
            wGet (load1 t62 H) H fun t63 H =>
            wGet (iaddr 1 t63 (.val (.int .i64 0))) H fun t64 H =>
            wGet (load1 t64 H) H fun t65 H =>
            wCall E P 180 [t65, a1, a2] H fun t68 H =>
            wGet (unA .not t68) H fun t69 H =>
            R t69 H) (
            wJoin 1 (fun J1 =>
              wGet (binA .eql t13 (.val (.string ⟨#[38]⟩))) H fun t71 H =>
              wIf t71 (
                J1 t71 H) (
                wGet (binA .eql t13 (.val (.string ⟨#[124]⟩))) H fun t72 H =>
                J1 t72 H)) fun t70 H =>
              wIf t70 (
                wGet (nilA a0) H fun t74 H =>
                wGet (faddr 2 t74) H fun t75 H =>
                wGet (load1 t75 H) H fun t76 H =>
                wGet (lenA t76) H fun t77 H =>
                wLoop 2 (fun I2 => I2 (.val (.int .i64 0)) (.val (.int .i64 0)) H) fun I2 t7 t78 H =>
                  wGet (binA .lss t78 t77) H fun t79 H =>
                  wIf t79 (
                    wJoin 1 (fun J3 =>
                      wGet (iaddr 1 t76 t78) H fun t80 H =>
                      wGet (load1 t80 H) H fun t81 H =>
                      wCall E P 180 [t81, a1, a2] H fun t85 H =>
                      wIf t85 (
                        wGet (binA .add t7 (.val (.int .i64 1))) H fun t87 H =>
                        J3 t87 H) (
                        J3 t7 H)) fun t7_1 H =>
                      wGet (binA .add t78 (.val (.int .i64 1))) H fun t88 H =>
                      I2 t7_1 t88 H) (
                    wGet (nilA a0) H fun t90 H =>
                    wGet (faddr 0 t90) H fun t91 H =>
                    wGet (load1 t91 H) H fun t92 H =>
                    wGet (binA .eql t92 (.val (.string ⟨#[124]⟩))) H fun t93 H =>
                    wGuard t93 true H (fun k => k t7 H) fun t95 H =>
                    wGuard t93 true H (fun k => wGet (binA .gtr t95 (.val (.int .i64 0))) H k) fun t96 H =>
                    wGet (pickA t93 t96 (.val (.bool false))) H fun t97 H =>
                    wGuard t97 false H (fun k => k t7 H) fun t99 H =>
                    wGuard t97 false H (fun k => k a0 H) fun t100 H =>
                    wGuard t97 false H (fun k => wGet (nilA t100) H k) fun t101 H =>
                    wGuard t97 false H (fun k => wGet (faddr 2 t101) H k) fun t102 H =>
                    wGuard t97 false H (fun k => wGet (load1 t102 H) H k) fun t103 H =>
                    wGuard t97 false H (fun k => wGet (lenA t103) H k) fun t104 H =>
                    wGuard t97 false H (fun k => wGet (binA .eql t99 t104) H k) fun t105 H =>
                    wGet (pickA t97 (.val (.bool true)) t105) H fun t106 H =>
                    R t106 H)) (
                R (.val (.bool false)) H))))))

/-- signalbox/expr.Names -/
def expr_Names (E : Env) (P : Program) (a0 : AV) (H : AH) (R : Kt) : Prop :=
  wCall E P 190 [a0, (.fn 189 [] [])] H fun t4 H =>
  R t4 H

/-- (*signalbox/signalboxref.Expr).Names -/
def pref_Expr_Names (E : Env) (P : Program) (a0 : AV) (H : AH) (R : Kt) : Prop :=
  wCall E P 191 [a0, (.val (.string ⟨#[98, 105, 116, 94, 126]⟩))] H fun t4 H =>
  R t4 H

/-- signalbox/expr.Edges -/
def expr_Edges (E : Env) (P : Program) (a0 : AV) (H : AH) (R : Kt) : Prop :=
  wCall E P 190 [a0, (.fn 192 [] [])] H fun t4 H =>
  R t4 H

/-- (*signalbox/signalboxref.Expr).Edges -/
def pref_Expr_Edges (E : Env) (P : Program) (a0 : AV) (H : AH) (R : Kt) : Prop :=
  wCall E P 191 [a0, (.val (.string ⟨#[94, 126]⟩))] H fun t4 H =>
  R t4 H

/-- (*signalbox/signalboxref.Expr).Size -/
def pref_Expr_Size (E : Env) (P : Program) (a0 : AV) (H : AH) (R : Kt) : Prop :=
  wGet (nilA a0) H fun t7 H =>
  wGet (faddr 2 t7) H fun t8 H =>
  wGet (load1 t8 H) H fun t9 H =>
  wGet (lenA t9) H fun t10 H =>
  wLoop 2 (fun I1 => I1 (.val (.int .i64 1)) (.val (.int .i64 0)) H) fun I1 t3 t11 H =>
    wGet (binA .lss t11 t10) H fun t12 H =>
    wIf t12 (
      wGet (iaddr 1 t9 t11) H fun t13 H =>
      wGet (load1 t13 H) H fun t14 H =>
      wCall E P 186 [t14] H fun t17 H =>
      wGet (binA .add t3 t17) H fun t18 H =>
      wGet (binA .add t11 (.val (.int .i64 1))) H fun t19 H =>
      I1 t18 t19 H) (
      R t3 H)

/-- signalbox/expr.sorted -/
def expr_sorted (E : Env) (P : Program) (a0 a1 : AV) (H : AH) (R : Kt) : Prop :=
  wNew 1 (AV.cells? a1) H fun t3 H =>
  wNew 1 (some [(.val (.slice none 0 0))]) H fun t5 H =>
  wCall E P 161 [a0, (.fn 193 [] [t3, t5])] H fun t8 H =>
  wGet (load1 t5 H) H fun t9 H =>
  wCall E P 194 [t9] H fun t10 H =>
  wGet (load1 t5 H) H fun t11 H =>
  wCall E P 195 [t11] H fun t12 H =>
  R t12 H

/-- signalbox/expr.Names$1 -/
def expr_Names_c1 (E : Env) (P : Program) (a0 : AV) (H : AH) (R : Kt) : Prop :=
  wGet (assertA 14 (.val (.string ⟨#[]⟩)) a0) H fun t7 H =>
  wGet (extractA t7 1) H fun t8 H =>
  wGet (extractA t7 0) H fun t9 H =>
  wIf t8 (
    R t9 H) (
    wGet (assertA 12 (.val (.string ⟨#[]⟩)) a0) H fun t11 H =>
    wGet (extractA t11 1) H fun t12 H =>
    wGet (extractA t11 0) H fun t13 H =>
    wIf t12 (
      R t13 H) (
      wGet (assertA 13 (.val (.string ⟨#[]⟩)) a0) H fun t15 H =>
      wGet (extractA t15 1) H fun t16 H =>
      wGet (extractA t15 0) H fun t17 H =>
      wIf t16 (
        R t17 H) (
        R (.val (.string ⟨#[]⟩)) H)))

/-- (*signalbox/signalboxref.Expr).named -/
def pref_Expr_named (E : Env) (P : Program) (a0 a1 : AV) (H : AH) (R : Kt) : Prop :=
  wNew 1 (AV.cells? a1) H fun t3 H =>
  wNew 1 (some [(.val (.slice none 0 0))]) H fun t5 H =>
  wNew 1 (some [(.val (.nilFunc))]) H fun t6 H =>
  wPut (store1 t6 (.fn 196 [] [t3, t5, t6]) H) fun _u H =>
  wGet (load1 t6 H) H fun t8 H =>
  wCallV E P t8 [a0] H fun t10 H =>
  wGet (load1 t5 H) H fun t11 H =>
  R t11 H

/-- signalbox/expr.Edges$1 -/
def expr_Edges_c1 (E : Env) (P : Program) (a0 : AV) (H : AH) (R : Kt) : Prop :=
  wGet (assertA 12 (.val (.string ⟨#[]⟩)) a0) H fun t6 H =>
  wGet (extractA t6 1) H fun t7 H =>
  wGet (extractA t6 0) H fun t8 H =>
  wIf t7 (
    R t8 H) (
    wGet (assertA 13 (.val (.string ⟨#[]⟩)) a0) H fun t10 H =>
    wGet (extractA t10 1) H fun t11 H =>
    wGet (extractA t10 0) H fun t12 H =>
    wIf t11 (
      R t12 H) (
      R (.val (.string ⟨#[]⟩)) H))

/-- signalbox/expr.sorted$1 -/
def expr_sorted_c1 (E : Env) (P : Program) (a0 a1 a2 : AV) (H : AH) (R : Kt) : Prop :=
  wGet (load1 a1 H) H fun t5 H =>
  wCallV E P t5 [a0] H fun t7 H =>
  wGet (binA .neq t7 (.val (.string ⟨#[]⟩))) H fun t9 H =>
  wIf t9 (
    wGet (load1 a2 H) H fun t10 H =>
    wNewS 1 1 (fillA (List.replicate 1 [(.val (.string ⟨#[]⟩))]).flatten [(0, 1, t7)]) H fun t12 H =>
    wApp 1 16 t10 t12 H fun t13 H =>
    wPut (store1 a2 t13 H) fun _u H =>
    R (.tup []) H) (
    R (.tup []) H)

/-- (*signalbox/signalboxref.Expr).named$1 -/
def pref_Expr_named_c1 (E : Env) (P : Program) (a0 a1 a2 a3 : AV) (H : AH) (R : Kt) : Prop :=
  wJoin 0 (fun J1 =>
    wGet (nilA a0) H fun t9 H =>
    wGet (faddr 1 t9) H fun t10 H =>
    wGet (load1 t10 H) H fun t11 H =>
    wGet (binA .neq t11 (.val (.string ⟨#[]⟩))) H fun t12 H =>
    wGuard t12 true H (fun k => wGet (load1 a1 H) H k) fun t14 H =>
    wGuard t12 true H (fun k => k a0 H) fun t15 H =>
    wGuard t12 true H (fun k => wGet (nilA t15) H k) fun t16 H =>
    wGuard t12 true H (fun k => wGet (faddr 0 t16) H k) fun t17 H =>
    wGuard t12 true H (fun k => wGet (load1 t17 H) H k) fun t18 H =>
    wGuard t12 true H (fun k => wCall E P 199 [t14, t18] H k) fun t19 H =>
    wGet (pickA t12 t19 (.val (.bool false))) H fun t20 H =>
    wIf t20 (
      wLoop 1 (fun I2 => I2 (.val (.int .i64 0)) H) fun I2 t5 H =>
        wGet (load1 a2 H) H fun t22 H =>
        wGet (lenA t22) H fun t23 H =>
        wGet (binA .lss t5 t23) H fun t24 H =>
        wGuard t24 true H (fun k => wGet (load1 a2 H) H k) fun t26 H =>
        wGuard t24 true H (fun k => k t5 H) fun t27 H =>
        wGuard t24 true H (fun k => wGet (iaddr 1 t26 t27) H k) fun t28 H =>
        wGuard t24 true H (fun k => wGet (load1 t28 H) H k) fun t29 H =>
        wGuard t24 true H (fun k => k a0 H) fun t30 H =>
        wGuard t24 true H (fun k => wGet (nilA t30) H k) fun t31 H =>
        wGuard t24 true H (fun k => wGet (faddr 1 t31) H k) fun t32 H =>
        wGuard t24 true H (fun k => wGet (load1 t32 H) H k) fun t33 H =>
        wGuard t24 true H (fun k => wGet (binA .lss t29 t33) H k) fun t34 H =>
        wGet (pickA t24 t34 (.val (.bool false))) H fun t35 H =>
        wIf t35 (
          wGet (binA .add t5 (.val (.int .i64 1))) H fun t37 H =>
          I2 t37 H) (
          wGet (load1 a2 H) H fun t39 H =>
          wGet (lenA t39) H fun t40 H =>
          wGet (binA .eql t5 t40) H fun t41 H =>
          wGuard t41 false H (fun k => wGet (load1 a2 H) H k) fun t43 H =>
          wGuard t41 false H (fun k => k t5 H) fun t44 H =>
          wGuard t41 false H (fun k => wGet (iaddr 1 t43 t44) H k) fun t45 H =>
          wGuard t41 false H (fun k => wGet (load1 t45 H) H k) fun t46 H =>
          wGuard t41 false H (fun k => k a0 H) fun t47 H =>
          wGuard t41 false H (fun k => wGet (nilA t47) H k) fun t48 H =>
          wGuard t41 false H (fun k => wGet (faddr 1 t48) H k) fun t49 H =>
          wGuard t41 false H (fun k => wGet (load1 t49 H) H k) fun t50 H =>
          wGuard t41 false H (fun k => wGet (binA .neq t46 t50) H k) fun t51 H =>
          wGet (pickA t41 (.val (.bool true)) t51) H fun t52 H =>
          wIf t52 (
            wGet (load1 a2 H) H fun t53 H =>
            wNewS 1 1 (fillA (List.replicate 1 [(.val (.string ⟨#[]⟩))]).flatten [(0, 1, (.val (.string ⟨#[]⟩)))]) H fun t54 H =>
            wApp 1 16 t53 t54 H fun t55 H =>
            wPut (store1 a2 t55 H) fun _u H =>
            wGet (load1 a2 H) H fun t56 H =>
            wGet (binA .add t5 (.val (.int .i64 1))) H fun t58 H =>
            wGet (sliceA 1 t56 (some t58) none H) H fun t59 H =>
            wGet (load1 a2 H) H fun t60 H =>
            wGet (sliceA 1 t60 (some t5) none H) H fun t62 H =>
            wDo (copyA 1 t59 t62 H) fun t63 H =>
            wGet (load1 a2 H) H fun t64 H =>
            wGet (nilA a0) H fun t67 H =>
            wGet (faddr 1 t67) H fun t68 H =>
            wGet (load1 t68 H) H fun t69 H =>
            wGet (iaddr 1 t64 t5) H fun t70 H =>
            wPut (store1 t70 t69 H) fun _u H =>
            J1 H) (
            J1 H))) (
      J1 H)) fun H =>
    wGet (nilA a0) H fun t72 H =>
    wGet (faddr 2 t72) H fun t73 H =>
    wGet (load1 t73 H) H fun t74 H =>
    wGet (lenA t74) H fun t75 H =>
    wLoop 1 (fun I3 => I3 (.val (.int .i64 0)) H) fun I3 t76 H =>
      wGet (binA .lss t76 t75) H fun t77 H =>
      wIf t77 (
        wGet (iaddr 1 t74 t76) H fun t78 H =>
        wGet (load1 t78 H) H fun t79 H =>
        wGet (load1 a3 H) H fun t80 H =>
        wCallV E P t80 [t79] H fun t82 H =>
        wGet (binA .add t76 (.val (.int .i64 1))) H fun t83 H =>
        I3 t83 H) (
        R (.tup []) H)

end Go.Sc.F
