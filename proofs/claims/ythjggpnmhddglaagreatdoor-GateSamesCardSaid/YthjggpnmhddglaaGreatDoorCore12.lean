/- CONTRACTS: the reference's cases, GateSame. PLAIN LAWS OF TABLES: the reference's marks: in which round two states are parted. CONTRACTS: the reference's tables: apart. CONTRACTS: the reference's tables: Blocks, Least; the law's helpers. THE LAW BlockBlocks, out of the contracts. THE LAW GateMakes, out of the contracts. THE LAW GateSames, out of the contracts. A PACKAGE-LEVEL NUMBER THAT MAY BE ANY: told to the contract of a row; strings.Contains out of the kit's shelf. errors.As(err, *Errno): Go's own text walked, after the guide's worked walk (its toy 'toyas'). errors.As at *At. api.Tell: the code in an error. (of the seat YthjggpnmhddglaaGreatDoor) -/
import Derived.Test.YthjggpnmhddglaaGreatDoorCore11
import Derived.SizedLaws
import Derived.Shelf.Vars
import Derived.Lib.IndexMore
import Derived.Test.YthjggpnmhddglaaGreatDoorProg
import Derived.WalkKit
import Derived.LaidEql
import Derived.Stop.Asserts
import Derived.RowKitTokens
import Derived.Below
namespace Go.Sc
open Go
set_option linter.unusedSimpArgs false
set_option linter.unusedVariables false
set_option linter.unnecessarySimpa false
/-- names, edges: what is of them in the k-th case -/
def isK (N D : List Str) (k : Nat) : Str → Bool := fun s => bitsK (N.length + D.length) k (ixN N s + 1)
def wasK (N D : List Str) (k : Nat) : Str → Bool := fun s => bitsK (N.length + D.length) k (N.length + ixN D s + 1)
def eqK (N D : List Str) (x y : Ex) (k : Nat) : Bool := decide (x.says (isK N D k) (wasK N D k) = y.says (isK N D k) (wasK N D k))
def getF (p q : AV) (from_ : Nat) (l : List Str) : AV := .fn 249 [] [p, q, .ptrF [Z from_] 0, .ptrF [Lm S l] 0]
section
variable {E : Env} {P : Program}
theorem get1_spec (B : RefSameBodies E P) {V k f : Nat} {l : List Str} (hV : V ≤ 8) (hk : k < 2 ^ V) (hf : f + l.length ≤ V) {s : Str} (hs : s ∈ l) (h0 : s ≠ []) : FX E P 249 ([S s] ++ [.ptrF [Z k] 0, .ptrF [Z V] 0, .ptrF [Z f] 0, .ptrF [Lm S l] 0]) (Bo (bitsK V k (f + ixN l s + 1))) := by
  refine FX.of' ⟨trivial, ⟨trivial, trivial⟩, ⟨trivial, trivial⟩, ⟨trivial, trivial⟩, ⟨closed_S _, trivial⟩, trivial⟩ trivial fun n R hR => B.get1 _ _ _ _ _ _ _ ?_
  unfold F.ref_cases_c1_c1
  have h8 := pow8 hV
  have hix := ixN_lt hs
  simp only [nd0, Y1n, Y1o, Y1p, Y1q, Y1w, Y1x, Y1y, Y1z, Y20, Y21, Y28, Y2a, AV.cells?, Nat.reduceAdd, Nat.reduceMul]
  rw [binA_sub (by omega)]
  simp only [nd0, Y1n, Y1o, Y1p, Y1q, Y1w, Y1x, Y1y, Y1z, Y20, Y21, Y28, Y2a, AV.cells?, Nat.reduceAdd, Nat.reduceMul]
  rw [binA_sub (by omega)]
  simp only [nd0, Y1n, Y1o, Y1p, Y1q, Y1w, Y1x, Y1y, Y1z, Y20, Y21, Y28, Y2a, AV.cells?, Nat.reduceAdd, Nat.reduceMul]
  refine wCall.fx (rindex_spec B.index l s (by omega)) fun n1 => ?_
  simp only [nd0, Y1n, Y1o, Y1p, Y1q, Y1w, Y1x, Y1y, Y1z, Y20, Y21, Y28, Y2a, AV.cells?, Nat.reduceAdd, Nat.reduceMul, and_self, true_and]
  rw [show idxQ l s = (ixN l s : Nat) by unfold idxQ; rw [if_neg h0, ixN_of hs]]
  rw [binA_sub (by omega)]
  simp only [nd0, Y1n, Y1o, Y1p, Y1q, Y1w, Y1x, Y1y, Y1z, Y20, Y21, Y28, Y2a, AV.cells?, Nat.reduceAdd, Nat.reduceMul, show ((V : Int) - 1 - (f : Int) - (ixN l s : Nat)) = ((V - (f + ixN l s + 1) : Nat) : Int) by omega]
  rw [shr_is (by omega)]
  simp only [nd0, Y1n, Y1o, Y1p, Y1q, Y1w, Y1x, Y1y, Y1z, Y20, Y21, Y28, Y2a, AV.cells?, Nat.reduceAdd, Nat.reduceMul]
  have hlt : k / 2 ^ (V - (f + ixN l s + 1)) < 1000000 := Nat.lt_of_le_of_lt (Nat.div_le_self _ _) (by omega)
  rw [and_is hlt]
  simp only [nd0, Y1n, Y1o, Y1p, Y1q, Y1w, Y1x, Y1y, Y1z, Y20, Y21, Y28, Y2a, AV.cells?, Nat.reduceAdd, Nat.reduceMul]
  refine hR _ _ ?_
  congr 2
  unfold bitsK
  rw [Nat.testBit_eq_decide_div_mod_eq]
  exact decide_eq_decide.2 (by omega)
theorem get_spec (B : RefSameBodies E P) (l : List Str) (f : Nat) (p q : AV) (H : AH) : ACalls E P 248 [Lm S l, Z f, p, q] H fun r H' => r = getF p q f l ∧ H' = H := by
  refine B.get _ _ _ _ _ _ ?_
  unfold F.ref_cases_c1
  refine wNew.F' (l := [Lm S l]) rfl ?_
  refine wNew.F' (l := [Z f]) rfl ?_
  exact ⟨rfl, rfl⟩
theorem getF_asks (B : RefSameBodies E P) {V k f : Nat} {l : List Str} (hV : V ≤ 8) (hk : k < 2 ^ V) (hf : f + l.length ≤ V) (h0 : ∀ s ∈ l, s ≠ []) : AsksOn E P (getF (.ptrF [Z k] 0) (.ptrF [Z V] 0) f l) (fun s => bitsK V k (f + ixN l s + 1)) (fun s => s ∈ l) :=
  ⟨249, _, rfl, ⟨⟨trivial, trivial⟩, ⟨trivial, trivial⟩, ⟨trivial, trivial⟩, ⟨closed_S _, trivial⟩, trivial⟩, fun s hs => get1_spec B hV hk hf hs (h0 s hs)⟩
def lookF (g : Nat) (x y : Ex) : AV := .fn 245 [] [.ptrL 0 0 g, .ptrF [x.ref] 0, .ptrF [y.ref] 0]
structure Two (x y : Ex) (N D : List Str) : Prop where
  fx : x.fine
  fy : y.fine
  wx : x.wt ≤ 1000000
  wy : y.wt ≤ 1000000
  ox : x.on (fun s => s ∈ N) (fun s => s ∈ D)
  oy : y.on (fun s => s ∈ N) (fun s => s ∈ D)
  hn : ∀ s ∈ N, s ≠ []
  hd : ∀ s ∈ D, s ≠ []
  hl : N.length + D.length ≤ 8
theorem look1_spec (B : RefSameBodies E P) {x y : Ex} {N D : List Str} (h : Two x y N D) {k : Nat} (hk : k < 2 ^ (N.length + D.length)) {g g1 gk b1 bk : Nat} {tl : List Blk} {c : Nat} (hb1 : (.cells g 1 [Bo true] :: tl)[b1]? = some (.cells g1 1 [Z ((N.length + D.length : Nat) : Int)])) (hbk : (.cells g 1 [Bo true] :: tl)[bk]? = some (.cells gk 1 [Z k])) :
    ACalls E P 245 [getF (.ptrL bk 0 gk) (.ptrL b1 0 g1) 0 N, getF (.ptrL bk 0 gk) (.ptrL b1 0 g1) N.length D, .ptrL 0 0 g, .ptrF [x.ref] 0, .ptrF [y.ref] 0] ⟨.cells g 1 [Bo true] :: tl, c⟩
      fun r H' => r = Bo (!eqK N D x y k) ∧ ∃ c', H' = ⟨.cells g 1 [Bo (eqK N D x y k)] :: tl, c'⟩ := by
  have key : ∀ (z : Ex) (c : Nat), z.fine → z.wt ≤ 1000000 → z.on (fun s => s ∈ N) (fun s => s ∈ D) → ACalls E P 180 [z.ref, getF (.ptrL bk 0 gk) (.ptrL b1 0 g1) 0 N, getF (.ptrL bk 0 gk) (.ptrL b1 0 g1) N.length D] ⟨.cells g 1 [Bo true] :: tl, c⟩ fun r H' => r = Bo (z.says (isK N D k) (wasK N D k)) ∧ ∃ n, H' = ⟨.cells g 1 [Bo true] :: tl, n⟩ := by
    intro z c hf hw ho
    have a1 := getF_asks B (V := N.length + D.length) (k := k) (f := 0) (l := N) h.hl hk (by omega) h.hn
    have a2 := getF_asks B (V := N.length + D.length) (k := k) (f := N.length) (l := D) h.hl hk (by omega) h.hd
    have hE := refEval_spec1 B.r a1 a2 (z.wt + 1) z (by omega) hw hf ho
    have hfr : ∀ (f : Nat) (l : List Str), Fk ⟨.cells g 1 [Bo true] :: tl, c⟩ S0 (getF (.ptrL bk 0 gk) (.ptrL b1 0 g1) f l) (getF (.ptrF [Z k] 0) (.ptrF [Z ((N.length + D.length : Nat) : Int)] 0) f l) := fun f l =>
      Fk.fn .nil (.cons (Fk.ptrF 1 hbk rfl (FkL.same _)) (.cons (Fk.ptrF 1 hb1 rfl (FkL.same _)) (.cons (.same _) (.cons (.same _) .nil))))
    refine (hE.fr.borrow (H := ⟨.cells g 1 [Bo true] :: tl, c⟩) (.cons (.same _) (.cons (hfr _ _) (.cons (hfr _ _) .nil))) (fun _ e => e ▸ (by simp [AV.flat]))).mono fun r H' hr => ⟨r, H', .refl _ _, ?_⟩
    obtain ⟨rfl, hr2⟩ := hr
    have e1 : (fun s => bitsK (N.length + D.length) k (0 + ixN N s + 1)) = isK N D k := by funext s; unfold isK; rw [Nat.zero_add]
    exact ⟨by rw [e1]; rfl, hr2⟩
  refine B.same1 _ _ _ _ _ _ _ ?_
  unfold F.ref_GateSame_c1
  simp only [nd0, Y1n, Y1o, Y1p, Y1q, Y1w, Y1x, Y1y, Y1z, Y20, Y21, Y28, Y2a, AV.cells?, Nat.reduceAdd, Nat.reduceMul]
  refine ⟨_, key x c h.fx h.wx h.ox, ?_⟩
  rintro r H' ⟨rfl, n1, rfl⟩
  simp only [nd0, Y1n, Y1o, Y1p, Y1q, Y1w, Y1x, Y1y, Y1z, Y20, Y21, Y28, Y2a, AV.cells?, Nat.reduceAdd, Nat.reduceMul, and_self, true_and]
  refine ⟨_, key y n1 h.fy h.wy h.oy, ?_⟩
  rintro r H' ⟨rfl, n2, rfl⟩
  simp only [nd0, Y1n, Y1o, Y1p, Y1q, Y1w, Y1x, Y1y, Y1z, Y20, Y21, Y28, Y2a, AV.cells?, Nat.reduceAdd, Nat.reduceMul]
  rw [store1_L rfl]
  simp only [nd0, Y1n, Y1o, Y1p, Y1q, Y1w, Y1x, Y1y, Y1z, Y20, Y21, Y28, Y2a, AV.cells?, Nat.reduceAdd, Nat.reduceMul, Nat.reduceLT]
  refine ⟨?_, n2, ?_⟩
  · unfold eqK
    cases x.says (isK N D k) (wasK N D k) <;> cases y.says (isK N D k) (wasK N D k) <;> rfl
  · unfold eqK
    cases x.says (isK N D k) (wasK N D k) <;> cases y.says (isK N D k) (wasK N D k) <;> rfl
def CasesR (x y : Ex) (N D : List Str) (g : Nat) (r : AV) (H : AH) : Prop := r = .tup [] ∧ ∃ b tl c, H = ⟨.cells g 1 [Bo b] :: tl, c⟩ ∧ (b = true ↔ ∀ k, k < 2 ^ (N.length + D.length) → eqK N D x y k = true)
theorem cases_spec (B : RefSameBodies E P) {x y : Ex} {N D : List Str} (h : Two x y N D) (g c : Nat) : ACalls E P 247 [Lm S N, Lm S D, lookF g x y] ⟨[.cells g 1 [Bo true]], c⟩ (CasesR x y N D g) := by
  refine B.cases _ _ _ _ _ ?_
  unfold F.ref_cases
  have hl := h.hl
  have h8 := pow8 hl
  have hp1 : 1 ≤ 2 ^ (N.length + D.length) := Nat.one_le_two_pow
  simp only [nd0, Y1n, Y1o, Y1p, Y1q, Y1w, Y1x, Y1y, Y1z, Y20, Y21, Y28, Y2a, AV.cells?, Nat.reduceAdd, Nat.reduceMul, show lenA (Lm S N) = some (Z N.length) from rfl, show lenA (Lm S D) = some (Z D.length) from rfl]
  rw [binA_add (by omega), show (N.length : Int) + (D.length : Int) = ((N.length + D.length : Nat) : Int) by omega]
  simp only [nd0, Y1n, Y1o, Y1p, Y1q, Y1w, Y1x, Y1y, Y1z, Y20, Y21, Y28, Y2a, AV.cells?, Nat.reduceAdd, Nat.reduceMul]
  refine wNew.L (l := [Z 0]) rfl ?_
  simp only [nd0, Y1n, Y1o, Y1p, Y1q, Y1w, Y1x, Y1y, Y1z, Y20, Y21, Y28, Y2a, AV.cells?, Nat.reduceAdd, Nat.reduceMul]
  rw [store1_L rfl]
  simp only [nd0, Y1n, Y1o, Y1p, Y1q, Y1w, Y1x, Y1y, Y1z, Y20, Y21, Y28, Y2a, AV.cells?, Nat.reduceAdd, Nat.reduceMul, Nat.reduceLT]
  rw [shl_is hl]
  simp only [nd0, Y1n, Y1o, Y1p, Y1q, Y1w, Y1x, Y1y, Y1z, Y20, Y21, Y28, Y2a, AV.cells?, Nat.reduceAdd, Nat.reduceMul]
  rw [binA_sub (by omega)]
  simp only [nd0, Y1n, Y1o, Y1p, Y1q, Y1w, Y1x, Y1y, Y1z, Y20, Y21, Y28, Y2a, AV.cells?, Nat.reduceAdd, Nat.reduceMul]
  refine wNew.L (l := [Z 0]) rfl ?_
  simp only [nd0, Y1n, Y1o, Y1p, Y1q, Y1w, Y1x, Y1y, Y1z, Y20, Y21, Y28, Y2a, AV.cells?, Nat.reduceAdd, Nat.reduceMul]
  rw [store1_L rfl]
  simp only [nd0, Y1n, Y1o, Y1p, Y1q, Y1w, Y1x, Y1y, Y1z, Y20, Y21, Y28, Y2a, AV.cells?, Nat.reduceAdd, Nat.reduceMul, Nat.reduceLT]
  have hat : ∀ (b0 b1 : Blk) (A tl : List Blk) (x : Blk), (b0 :: b1 :: (A ++ x :: tl))[A.length + 2]? = some x := fun b0 b1 A tl x => by simp
  refine wLoop.one (fun m t H => ∃ (A : List Blk) (gk n : Nat), t = .ptrL (A.length + 2) 0 gk ∧ H = ⟨.cells g 1 [Bo true] :: .cells c 1 [Z ((N.length + D.length : Nat) : Int)] :: (A ++ [.cells gk 1 [Z ((m : Int) - 1)]]), n⟩ ∧ m ≤ 2 ^ (N.length + D.length) ∧ ∀ k', m ≤ k' → k' < 2 ^ (N.length + D.length) → eqK N D x y k' = true) (2 ^ (N.length + D.length))
    (gh1.mk ⟨[], c + 1, _, rfl, rfl, Nat.le_refl _, fun k' h1 h2 => by omega⟩) ?_
  rintro m t H ⟨A, gk, n, rfl, rfl, hm, hno⟩
  simp only [nd0, Y1n, Y1o, Y1p, Y1q, Y1w, Y1x, Y1y, Y1z, Y20, Y21, Y28, Y2a, AV.cells?, Nat.reduceAdd, Nat.reduceMul, hat]
  cases m with
  | zero =>
    simp only [nd0, Y1n, Y1o, Y1p, Y1q, Y1w, Y1x, Y1y, Y1z, Y20, Y21, Y28, Y2a, AV.cells?, Nat.reduceAdd, Nat.reduceMul, show decide ((0 : Int) ≤ ((0 : Nat) : Int) - 1) = false from rfl]
    exact ⟨rfl, true, _, _, rfl, by simp; exact fun k hk => hno k (by omega) hk⟩
  | succ k =>
  have hk : k < 2 ^ (N.length + D.length) := by omega
  rw [show (((k + 1 : Nat) : Int) - 1) = (k : Int) by omega]
  simp only [nd0, Y1n, Y1o, Y1p, Y1q, Y1w, Y1x, Y1y, Y1z, Y20, Y21, Y28, Y2a, AV.cells?, Nat.reduceAdd, Nat.reduceMul, decide_eq_true (show (0 : Int) ≤ (k : Int) by omega)]
  refine ⟨⟨248, [], _, rfl, _, get_spec B N 0 _ _ _, ?_⟩⟩
  rintro r H ⟨rfl, rfl⟩
  refine ⟨⟨248, [], _, rfl, _, get_spec B D N.length _ _ _, ?_⟩⟩
  rintro r H ⟨rfl, rfl⟩
  have hlk := look1_spec B h hk (g := g) (g1 := c) (gk := gk) (b1 := 1) (bk := A.length + 2) (tl := .cells c 1 [Z ((N.length + D.length : Nat) : Int)] :: (A ++ [.cells gk 1 [Z k]])) (c := n) rfl (hat _ _ A [] _)
  refine ⟨⟨245, [], _, rfl, _, hlk, ?_⟩⟩
  rintro r H ⟨rfl, c', rfl⟩
  cases hq : eqK N D x y k with
  | false =>
    simp only [nd0, Y1n, Y1o, Y1p, Y1q, Y1w, Y1x, Y1y, Y1z, Y20, Y21, Y28, Y2a, AV.cells?, Nat.reduceAdd, Nat.reduceMul]
    exact ⟨rfl, false, _, _, rfl, by simp; exact ⟨k, hk, hq⟩⟩
  | true =>
    simp only [nd0, Y1n, Y1o, Y1p, Y1q, Y1w, Y1x, Y1y, Y1z, Y20, Y21, Y28, Y2a, AV.cells?, Nat.reduceAdd, Nat.reduceMul, hat]
    refine wNew.L (l := [Z 0]) rfl ?_
    simp only [nd0, Y1n, Y1o, Y1p, Y1q, Y1w, Y1x, Y1y, Y1z, Y20, Y21, Y28, Y2a, AV.cells?, Nat.reduceAdd, Nat.reduceMul]
    have hat2 : ∀ (b0 b1 y : Blk), (b0 :: b1 :: (A ++ [Blk.cells gk 1 [Z k]] ++ [y]))[(A ++ [Blk.cells gk 1 [Z k]]).length + 1 + 1]? = some y := fun b0 b1 y => by simp
    have hset2 : ∀ (b0 b1 y y' : Blk), (b0 :: b1 :: (A ++ [Blk.cells gk 1 [Z k]] ++ [y])).set ((A ++ [Blk.cells gk 1 [Z k]]).length + 1 + 1) y' = b0 :: b1 :: (A ++ [Blk.cells gk 1 [Z k]] ++ [y']) := fun b0 b1 y y' => by
      simp only [List.set_cons_succ]
      rw [List.set_append_right _ _ (by omega)]; simp
    rw [store1_L rfl]
    simp only [nd0, Y1n, Y1o, Y1p, Y1q, Y1w, Y1x, Y1y, Y1z, Y20, Y21, Y28, Y2a, AV.cells?, Nat.reduceAdd, Nat.reduceMul, hat2, Nat.reduceLT, hset2]
    rw [binA_sub (by omega)]
    simp only [nd0, Y1n, Y1o, Y1p, Y1q, Y1w, Y1x, Y1y, Y1z, Y20, Y21, Y28, Y2a, AV.cells?, Nat.reduceAdd, Nat.reduceMul]
    rw [store1_L rfl]
    simp only [nd0, Y1n, Y1o, Y1p, Y1q, Y1w, Y1x, Y1y, Y1z, Y20, Y21, Y28, Y2a, AV.cells?, Nat.reduceAdd, Nat.reduceMul, hat2, Nat.reduceLT, hset2]
    refine back1.mk k (by omega) ⟨A ++ [.cells gk 1 [Z k]], c', _, rfl, rfl, by omega, fun k' h1 h2 => ?_⟩
    by_cases e : k' = k
    · subst e; exact hq
    · exact hno k' (by omega) h2
/-- all cases tell what all values tell -/
theorem eqK_all {x y : Ex} {N D : List Str} (hN : N.Nodup) (hD : D.Nodup) (fx : x.fine) (fy : y.fine) (x1 : ∀ s ∈ x.raw nf1, s ∈ N) (x2 : ∀ s ∈ x.raw nf2, s ∈ D) (y1 : ∀ s ∈ y.raw nf1, s ∈ N) (y2 : ∀ s ∈ y.raw nf2, s ∈ D) (h : ∀ k, k < 2 ^ (N.length + D.length) → eqK N D x y k = true) (p q : Str → Bool) : x.says p q = y.says p q := by
  obtain ⟨k, hk, hb⟩ := as_bits (N.length + D.length) fun i => if i ≤ N.length then (match N[i - 1]? with | some s => p s | none => false) else (match D[i - 1 - N.length]? with | some s => q s | none => false)
  have hp : ∀ s ∈ N, p s = isK N D k s := fun s hs => by
    have hlt := ixN_lt hs
    unfold isK
    rw [hb _ (by omega) (by omega), if_pos (by omega), Nat.add_sub_cancel, ixN_get hs]
  have hq : ∀ s ∈ D, q s = wasK N D k s := fun s hs => by
    have hlt := ixN_lt hs
    unfold wasK
    rw [hb _ (by omega) (by omega), if_neg (by omega), show N.length + ixN D s + 1 - 1 - N.length = ixN D s by omega, ixN_get hs]
  rw [Ex.says_hang x fx (fun s hs => hp s (x1 s hs)) (fun s hs => hq s (x2 s hs)), Ex.says_hang y fy (fun s hs => hp s (y1 s hs)) (fun s hs => hq s (y2 s hs))]
  exact of_decide_eq_true (h k hk)
theorem gSame_spec (B : RefSameBodies E P) {x y : Ex} (fx : x.fine) (fy : y.fine) (wx : x.wt ≤ 1000000) (wy : y.wt ≤ 1000000) (hl : x.names.length + x.edges.length + y.names.length + y.edges.length ≤ 6) : FR E P 243 [x.ref, y.ref] (fun r => (r = Bo true ∧ ∀ p q, x.says p q = y.says p q) ∨ (r = Bo false ∧ ∃ p q, x.says p q ≠ y.says p q)) := by
  refine FR.of ⟨Ex.ref_closed x, Ex.ref_closed y, trivial⟩ (fun r hr => ?_) fun n R hR => B.same _ _ _ _ ?_
  · rcases hr with ⟨rfl, _⟩ | ⟨rfl, _⟩ <;> trivial
  unfold F.ref_GateSame
  rw [cells?_scalar (show x.ref.scalar = true by rw [Ex.ref_eq]; rfl), cells?_scalar (show y.ref.scalar = true by rw [Ex.ref_eq]; rfl)]
  refine wNew.F' (l := [x.ref]) rfl ?_
  refine wNew.F' (l := [y.ref]) rfl ?_
  refine wNew.L (l := [Bo false]) rfl ?_
  simp only [nd0, Y1n, Y1o, Y1p, Y1q, Y1w, Y1x, Y1y, Y1z, Y20, Y21, Y28, Y2a, AV.cells?, Nat.reduceAdd, Nat.reduceMul]
  rw [store1_L rfl]
  simp only [nd0, Y1n, Y1o, Y1p, Y1q, Y1w, Y1x, Y1y, Y1z, Y20, Y21, Y28, Y2a, AV.cells?, Nat.reduceAdd, Nat.reduceMul, Nat.reduceLT]
  have nok : ∀ s ∈ x.names ++ y.names, nameOk s = true := fun s hs => by
    rcases List.mem_append.1 hs with hs | hs
    · exact names_ok fx hs
    · exact names_ok fy hs
  have eok : ∀ s ∈ x.edges ++ y.edges, nameOk s = true := fun s hs => by
    rcases List.mem_append.1 hs with hs | hs
    · exact edges_ok fx hs
    · exact edges_ok fy hs
  refine wCall.fx (refNames_spec B.r.toRefSaysBodies0 x wx fx) fun n1 => ?_
  simp only [nd0, Y1n, Y1o, Y1p, Y1q, Y1w, Y1x, Y1y, Y1z, Y20, Y21, Y28, Y2a, AV.cells?, Nat.reduceAdd, Nat.reduceMul, and_self, true_and]
  refine wCall.fx (refNames_spec B.r.toRefSaysBodies0 y wy fy) fun n1 => ?_
  simp only [nd0, Y1n, Y1o, Y1p, Y1q, Y1w, Y1x, Y1y, Y1z, Y20, Y21, Y28, Y2a, AV.cells?, Nat.reduceAdd, Nat.reduceMul, and_self, true_and]
  rw [show onceS (x.raw nf1) = x.names from rfl, show onceS (y.raw nf1) = y.names from rfl]
  refine wCall.fx (both_spec B (by omega) (by omega) nok) fun n1 => ?_
  simp only [nd0, Y1n, Y1o, Y1p, Y1q, Y1w, Y1x, Y1y, Y1z, Y20, Y21, Y28, Y2a, AV.cells?, Nat.reduceAdd, Nat.reduceMul, and_self, true_and]
  refine wCall.fx (refEdges_spec B.r.toRefSaysBodies0 x wx fx) fun n1 => ?_
  simp only [nd0, Y1n, Y1o, Y1p, Y1q, Y1w, Y1x, Y1y, Y1z, Y20, Y21, Y28, Y2a, AV.cells?, Nat.reduceAdd, Nat.reduceMul, and_self, true_and]
  refine wCall.fx (refEdges_spec B.r.toRefSaysBodies0 y wy fy) fun n1 => ?_
  rw [show onceS (x.raw nf2) = x.edges from rfl, show onceS (y.raw nf2) = y.edges from rfl]
  refine wCall.fx (both_spec B (by omega) (by omega) eok) fun n1 => ?_
  generalize hN : onceS (x.names ++ y.names) = N
  generalize hD : onceS (x.edges ++ y.edges) = D
  have mN : ∀ s, s ∈ N ↔ s ∈ x.names ∨ s ∈ y.names := fun s => by rw [← hN, onceS_mem, List.mem_append]
  have mD : ∀ s, s ∈ D ↔ s ∈ x.edges ∨ s ∈ y.edges := fun s => by rw [← hD, onceS_mem, List.mem_append]
  have lN : N.length ≤ x.names.length + y.names.length := by rw [← hN]; have := onceS_length (x.names ++ y.names); simp at this; omega
  have lD : D.length ≤ x.edges.length + y.edges.length := by rw [← hD]; have := onceS_length (x.edges ++ y.edges); simp at this; omega
  have x1 : ∀ s ∈ x.raw nf1, s ∈ N := fun s hs => (mN s).2 (.inl (onceS_mem.2 hs))
  have x2 : ∀ s ∈ x.raw nf2, s ∈ D := fun s hs => (mD s).2 (.inl (onceS_mem.2 hs))
  have y1 : ∀ s ∈ y.raw nf1, s ∈ N := fun s hs => (mN s).2 (.inr (onceS_mem.2 hs))
  have y2 : ∀ s ∈ y.raw nf2, s ∈ D := fun s hs => (mD s).2 (.inr (onceS_mem.2 hs))
  have two : Two x y N D := ⟨fx, fy, wx, wy, Ex.on_of x fx x1 x2, Ex.on_of y fy y1 y2, fun s hs => nameOk_ne (nok s (List.mem_append.2 ((mN s).1 hs))), fun s hs => nameOk_ne (eok s (List.mem_append.2 ((mD s).1 hs))), by omega⟩
  refine ⟨_, cases_spec B two n n1, ?_⟩
  rintro r H ⟨rfl, b, tl, c, rfl, hb⟩
  simp only [nd0, Y1n, Y1o, Y1p, Y1q, Y1w, Y1x, Y1y, Y1z, Y20, Y21, Y28, Y2a, AV.cells?, Nat.reduceAdd, Nat.reduceMul]
  refine hR _ _ _ (.same _) ?_
  cases b with
  | true => exact .inl ⟨rfl, eqK_all (hN ▸ ltnodup (onceS_strict _)) (hD ▸ ltnodup (onceS_strict _)) fx fy x1 x2 y1 y2 (hb.1 rfl)⟩
  | false =>
    refine .inr ⟨rfl, Classical.byContradiction fun hc => ?_⟩
    have : ∀ p q, x.says p q = y.says p q := fun p q => Classical.byContradiction fun h => hc ⟨p, q, h⟩
    have := hb.2 fun k _ => decide_eq_true (this _ _)
    cases this
end
end Go.Sc
namespace Go.Sc
open Go
set_option linter.unusedSimpArgs false
set_option linter.unnecessarySimpa false
/-- in which round two states are parted, of the first 'd' (0: in none) -/
def mk (t : Table) : Nat → Nat → Nat → Nat
  | 0, _, _ => 0
  | d + 1, a, b => if mk t d a b > 0 then mk t d a b else if cell (iter t (d + 1)) a = cell (iter t (d + 1)) b then 0 else d + 1
theorem mk_zero {t : Table} {a b : Nat} (ha : a < t.next.length) (hb : b < t.next.length) : ∀ d, mk t d a b = 0 ↔ cell (iter t d) a = cell (iter t d) b
  | 0 => by simp [mk, iter, cell, ha, hb]
  | d + 1 => by
    have h := mk_zero ha hb d
    simp only [mk]
    split
    · rename_i hp
      constructor
      · intro h0; omega
      · intro he
        have := h.2 (iter_apart ha hb (Nat.le_succ d) he)
        omega
    · split
      · rename_i he; simp [he]
      · rename_i he; simp [he]
/-- what stands after the round is as before it, or new -/
theorem mk_step {t : Table} {a b d : Nat} (h : mk t d a b > 0) : mk t (d + 1) a b = mk t d a b := by simp only [mk]; rw [if_pos h]
theorem more {t : Table} {d x y : Nat} (hx : x < t.next.length) (hy : y < t.next.length) (h : mk t (d + 1) x y ≠ mk t d x y) : iter t (d + 1) ≠ iter t d := by
  intro he
  have h0 : mk t d x y = 0 := Classical.byContradiction fun hp => h (mk_step (by omega))
  have h1 : mk t (d + 1) x y = 0 := by
    rw [mk_zero hx hy, he, ← mk_zero hx hy]; exact h0
  omega
end Go.Sc
namespace Go.Sc
open Go
set_option linter.unusedSimpArgs false
set_option linter.unusedVariables false
set_option linter.unnecessarySimpa false
structure LReadBodies (E : Env) (P : Program) : Prop where
  p : ParseBodies E P
  rr : RefReadBodies E P
  read : Body1 E P 169 F.law_read
section
variable {E : Env} {P : Program}
theorem bare_same (B : PlaceBodies E P) (hA : Body2 E P 77 F.law_at) (hb : Body1 E P 87 F.ref_Bare) (hB : Body2 E P 89 F.law_bare) {e : Int} (he : e ≠ 0) : FX E P 89 [.ifc 1 (Z e), Z e] (Bo true) := by
  have := bare_spec B hA hb hB e e
  rw [Er_ne he, decide_eq_true rfl] at this
  exact this
end
end Go.Sc
namespace Go.Sc
open Go
set_option linter.unusedSimpArgs false
set_option linter.unusedVariables false
set_option linter.unnecessarySimpa false
structure SamesBodies (E : Env) (P : Program) : Prop where
  rd : LReadBodies E P
  s : SameBodies E P
  r : RefSameBodies E P
  p : PlaceBodies E P
  at_ : Body2 E P 77 F.law_at
  rbare : Body1 E P 87 F.ref_Bare
  bare : Body2 E P 89 F.law_bare
section
variable {E : Env} {P : Program}
set_option maxHeartbeats 1000000 in
theorem GateSames_body (B : SamesBodies E P) (s w : Str) (n : Nat) : F.law_GateSames E P (S s) (S w) ⟨[], n⟩ (fun r _ => r = Bo true) := by
  unfold F.law_GateSames
  have hb7 := bare_same B.p B.at_ B.rbare B.bare (e := 7) (by decide)
  have no : ∀ s : Str, (∃ x j, s.length ≤ 1000 ∧ parseR s = .ok x j ∧ readA s = .tup [x.enc, x.ref, Bo true]) ∨ readA s = .tup [nilE, nilP, Bo false] := fun s => by
    unfold readA
    by_cases h : 1000 < s.length
    · exact .inr (if_pos h)
    · rw [if_neg h]
      cases hp : parseR s with
      | no e p => exact .inr rfl
      | ok x j => exact .inl ⟨x, j, by omega, rfl, rfl⟩
  refine wCall.fx (read_spec0 B.rd.rr B.rd.p B.rd.read s) fun n => ?_
  rcases no s with ⟨x, j, hl, hp, hA⟩ | hA
  case inr =>
    rw [hA]
    simp only [nd0, Y1n, Y1o, Y1p, Y1q, Y1w, Y1x, Y1y, Y1z, Y20, Y21, Y28, Y2a, AV.cells?, Nat.reduceAdd, Nat.reduceMul]
    refine wCall.fx (read_spec0 B.rd.rr B.rd.p B.rd.read w) fun n => ?_
    rcases no w with ⟨y, j', hl', hp', hA'⟩ | hA'
    · rw [hA']; simp only [nd0, Y1n, Y1o, Y1p, Y1q, Y1w, Y1x, Y1y, Y1z, Y20, Y21, Y28, Y2a, AV.cells?, Nat.reduceAdd, Nat.reduceMul]
    · rw [hA']; simp only [nd0, Y1n, Y1o, Y1p, Y1q, Y1w, Y1x, Y1y, Y1z, Y20, Y21, Y28, Y2a, AV.cells?, Nat.reduceAdd, Nat.reduceMul]
  rw [hA]
  obtain ⟨hwx, hfx⟩ := parseR_good hp
  simp only [nd0, Y1n, Y1o, Y1p, Y1q, Y1w, Y1x, Y1y, Y1z, Y20, Y21, Y28, Y2a, AV.cells?, Nat.reduceAdd, Nat.reduceMul]
  refine wCall.fx (read_spec0 B.rd.rr B.rd.p B.rd.read w) fun n => ?_
  rcases no w with ⟨y, j', hl', hp', hA'⟩ | hA'
  case inr => rw [hA']; simp only [nd0, Y1n, Y1o, Y1p, Y1q, Y1w, Y1x, Y1y, Y1z, Y20, Y21, Y28, Y2a, AV.cells?, Nat.reduceAdd, Nat.reduceMul]
  rw [hA']
  obtain ⟨hwy, hfy⟩ := parseR_good hp'
  simp only [nd0, Y1n, Y1o, Y1p, Y1q, Y1w, Y1x, Y1y, Y1z, Y20, Y21, Y28, Y2a, AV.cells?, Nat.reduceAdd, Nat.reduceMul]
  have hnx := names_len x
  have hex := edges_len x
  have hny := names_len y
  have hey := edges_len y
  have hsx := Ex.size_wt x hfx
  have hsy := Ex.size_wt y hfy
  have hD : ∀ a b : Ex, (differE a b).wt = 2 * (a.wt + b.wt) + ((differE (.k true) (.k true)).wt - 2 * ((Ex.k true).wt + (Ex.k true).wt)) := fun a b => by
    simp only [differE, Ex.wt, Ex.wtL, List.length_cons, List.length_nil]; omega
  have hD0 : (differE (.k true) (.k true)).wt - 2 * ((Ex.k true).wt + (Ex.k true).wt) ≤ 1000 := by decide
  refine wCall.fx (refSize_spec B.r.r.toRefSaysBodies0 (x.wt + 1) x (by omega) (by omega) hfx) fun n => ?_
  simp only [nd0, Y1n, Y1o, Y1p, Y1q, Y1w, Y1x, Y1y, Y1z, Y20, Y21, Y28, Y2a, AV.cells?, Nat.reduceAdd, Nat.reduceMul]
  refine wCall.fx (refSize_spec B.r.r.toRefSaysBodies0 (y.wt + 1) y (by omega) (by omega) hfy) fun n => ?_
  simp only [nd0, Y1n, Y1o, Y1p, Y1q, Y1w, Y1x, Y1y, Y1z, Y20, Y21, Y28, Y2a, AV.cells?, Nat.reduceAdd, Nat.reduceMul]
  rw [binA_add (by omega)]
  simp only [nd0, Y1n, Y1o, Y1p, Y1q, Y1w, Y1x, Y1y, Y1z, Y20, Y21, Y28, Y2a, AV.cells?, Nat.reduceAdd, Nat.reduceMul]
  by_cases h7 : 80 < x.size + y.size
  · simp only [nd0, Y1n, Y1o, Y1p, Y1q, Y1w, Y1x, Y1y, Y1z, Y20, Y21, Y28, Y2a, AV.cells?, Nat.reduceAdd, Nat.reduceMul, decide_eq_true (show (80 : Int) < (x.size : Int) + y.size by omega)]
  simp only [nd0, Y1n, Y1o, Y1p, Y1q, Y1w, Y1x, Y1y, Y1z, Y20, Y21, Y28, Y2a, AV.cells?, Nat.reduceAdd, Nat.reduceMul, decide_eq_false (show ¬ (80 : Int) < (x.size : Int) + y.size by omega)]
  refine wCall.fx (refNames_spec B.r.r.toRefSaysBodies0 x (by omega) hfx) fun n => ?_
  rw [show onceS (x.raw nf1) = x.names from rfl, Lm_S]
  simp only [nd0, Y1n, Y1o, Y1p, Y1q, Y1w, Y1x, Y1y, Y1z, Y20, Y21, Y28, Y2a, AV.cells?, Nat.reduceAdd, Nat.reduceMul]
  refine wCall.fx (refEdges_spec B.r.r.toRefSaysBodies0 x (by omega) hfx) fun n => ?_
  rw [show onceS (x.raw nf2) = x.edges from rfl, Lm_S]
  simp only [nd0, Y1n, Y1o, Y1p, Y1q, Y1w, Y1x, Y1y, Y1z, Y20, Y21, Y28, Y2a, AV.cells?, Nat.reduceAdd, Nat.reduceMul]
  rw [binA_add (by omega)]
  simp only [nd0, Y1n, Y1o, Y1p, Y1q, Y1w, Y1x, Y1y, Y1z, Y20, Y21, Y28, Y2a, AV.cells?, Nat.reduceAdd, Nat.reduceMul]
  refine wCall.fx (refNames_spec B.r.r.toRefSaysBodies0 y (by omega) hfy) fun n => ?_
  rw [show onceS (y.raw nf1) = y.names from rfl, Lm_S]
  simp only [nd0, Y1n, Y1o, Y1p, Y1q, Y1w, Y1x, Y1y, Y1z, Y20, Y21, Y28, Y2a, AV.cells?, Nat.reduceAdd, Nat.reduceMul]
  rw [binA_add (by omega)]
  simp only [nd0, Y1n, Y1o, Y1p, Y1q, Y1w, Y1x, Y1y, Y1z, Y20, Y21, Y28, Y2a, AV.cells?, Nat.reduceAdd, Nat.reduceMul]
  refine wCall.fx (refEdges_spec B.r.r.toRefSaysBodies0 y (by omega) hfy) fun n => ?_
  rw [show onceS (y.raw nf2) = y.edges from rfl, Lm_S]
  simp only [nd0, Y1n, Y1o, Y1p, Y1q, Y1w, Y1x, Y1y, Y1z, Y20, Y21, Y28, Y2a, AV.cells?, Nat.reduceAdd, Nat.reduceMul]
  rw [binA_add (by omega)]
  simp only [nd0, Y1n, Y1o, Y1p, Y1q, Y1w, Y1x, Y1y, Y1z, Y20, Y21, Y28, Y2a, AV.cells?, Nat.reduceAdd, Nat.reduceMul]
  by_cases h5 : 6 < x.names.length + x.edges.length + y.names.length + y.edges.length
  · simp only [nd0, Y1n, Y1o, Y1p, Y1q, Y1w, Y1x, Y1y, Y1z, Y20, Y21, Y28, Y2a, AV.cells?, Nat.reduceAdd, Nat.reduceMul, decide_eq_true (show (6 : Int) < (x.names.length : Int) + x.edges.length + y.names.length + y.edges.length by omega)]
  simp only [nd0, Y1n, Y1o, Y1p, Y1q, Y1w, Y1x, Y1y, Y1z, Y20, Y21, Y28, Y2a, AV.cells?, Nat.reduceAdd, Nat.reduceMul, decide_eq_false (show ¬ (6 : Int) < (x.names.length : Int) + x.edges.length + y.names.length + y.edges.length by omega)]
  have d2 := differ_gks x y
  refine wCall.fr (Same_spec B.s hfx hfy (by omega) (by rw [hD]; omega) (by omega)) (.refl _) fun r n hr => ?_
  have hr2 : ∃ b, r = .tup [Bo b, nilE] ∧ (b = true ↔ ∀ p q, x.says p q = y.says p q) := by
    rcases hr with ⟨rfl, h⟩ | ⟨rfl, p, q, h⟩
    · exact ⟨true, rfl, by simp; exact h⟩
    · exact ⟨false, rfl, by simp; exact ⟨p, q, h⟩⟩
  obtain ⟨b, rfl, hb⟩ := hr2
  simp only [nd0, Y1n, Y1o, Y1p, Y1q, Y1w, Y1x, Y1y, Y1z, Y20, Y21, Y28, Y2a, AV.cells?, Nat.reduceAdd, Nat.reduceMul]
  refine wCall.fx (Same_nil B.s x) fun n => ?_
  simp only [nd0, Y1n, Y1o, Y1p, Y1q, Y1w, Y1x, Y1y, Y1z, Y20, Y21, Y28, Y2a, AV.cells?, Nat.reduceAdd, Nat.reduceMul, Ex.enc_nil]
  refine wCall.fx hb7 fun n => ?_
  simp only [nd0, Y1n, Y1o, Y1p, Y1q, Y1w, Y1x, Y1y, Y1z, Y20, Y21, Y28, Y2a, AV.cells?, Nat.reduceAdd, Nat.reduceMul]
  refine wCall.fr (gSame_spec B.r hfx hfy (by omega) (by omega) (by omega)) (.refl _) fun r n hr => ?_
  have hr2 : ∃ b, r = Bo b ∧ (b = true ↔ ∀ p q, x.says p q = y.says p q) := by
    rcases hr with ⟨rfl, h⟩ | ⟨rfl, p, q, h⟩
    · exact ⟨true, rfl, by simp; exact h⟩
    · exact ⟨false, rfl, by simp; exact ⟨p, q, h⟩⟩
  obtain ⟨b', rfl, hb'⟩ := hr2
  have : b = b' := by rw [Bool.eq_iff_iff, hb, hb']
  subst this
  simp only [nd0, Y1n, Y1o, Y1p, Y1q, Y1w, Y1x, Y1y, Y1z, Y20, Y21, Y28, Y2a, AV.cells?, Nat.reduceAdd, Nat.reduceMul, beq_self_eq_true]
end
end Go.Sc
namespace Go.Sc
open Go Go.RowKit
set_option linter.unusedVariables false
section
variable {H : Type} {enc : TypeId × Value → H}
/-- the row out of a contract that is told what is listed, and the world's shape -/
theorem handed_shaped {C : Checked} {os : Os} {f : FuncId} {fn : Func} {s : ChangeSpec} {again : Bool} {X : World → Prop} (hX : ∀ w w' : World, w.heap = w'.heap → X w → X w')
    (own : ownKnob C.prog.godebug = none) (started : os.Started) (noInit : C.prog.inits.idxOf? f = none) (hfn : C.prog.funcs[f]? = some fn)
    (wit : ∃ (w : World) (tape : Tape) (i : Input), w.os = os ∧ (w.forCall tape i).Shaped C.prog ∧ i.vars = [] ∧ Input.okWide C.prog (w.forCall tape i) .any w.heap.size f i ∧
      ((s.pre enc C.prog fn [] false (w.forCall tape i).memory i.args ∧ X (w.forCall tape i).memory) ∧ sizedMet enc C.prog fn (OpenSpec.ofChange s) false (w.forCall tape i).memory i.args) ∧ ({} : Assume).holds C.prog (lone (Frame.enter C.prog f i.args .normal) [] (w.forCall tape i)))
    (k : ∀ (W : World) (base : Nat) (args : Array Value) (ds gs : List (DataW H)) (before : List MemPlace), W.ShapedOpen C.prog → X W →
      (∀ (j : Nat) t v, fn.params[j]? = some t → args[j]? = some v → Value.okWide C.prog W .any base t v) → DataW.Whole enc C.prog fn.params.toList s.vars false W args.toList ds gs before →
      (DataW.weightsEach C.prog (fn.params.toList ++ s.plain.varTypes C.prog) (ds ++ gs)).all (· ≤ reachBytes) = true → Calls C.prog f args W fun e W' => ∃ v, e = .returned v ∧ s.post enc C.prog fn false true false again W args v W') :
    ReturnsInHanded {} C os f .any (fun w args => (s.pre enc C.prog fn [] false w args ∧ X w) ∧ sizedMet enc C.prog fn (OpenSpec.ofChange s) false w args) (s.post enc C.prog fn false true false again) :=
  returnsInHanded_of_calls own started noInit wit fun w tape i _ hsh _ hok hpre _ => by
    have hv := hok.2.2.2
    obtain ⟨fn', h1, _, _, _, _, hval⟩ := hv
    obtain rfl : fn' = fn := Option.some.inj (h1.symm.trans hfn)
    obtain ⟨⟨⟨ds, gs, before, hw, _⟩, hx⟩, hz⟩ := hpre
    refine (k (w.forCall tape i) w.heap.size i.args ds gs before hsh (hX _ _ (by rfl) hx) hval (DataW.Whole.of_heap (w' := w.forCall tape i) (by rfl) hw) (hz.weights hw)).mono fun e W' h => ?_
    obtain ⟨v, rfl, hp⟩ := h
    exact ChangeSpec.post_blind hp
end
section
variable {E : Env} {P : Program}
theorem FX.contains {k gk : Nat} {m : Int} {fn : Func} (hf : P.funcs[E.fn k]? = some fn) (hn : (fn.name == "runtime.NumGoroutine") = false) (hb : fn.body.isNone = false) (hgl : E.gl gk = some [.val (.int .i64 m)])
    (h : ∀ (s sub : ByteArray) (m : Int) (w : World), s.size < 4294967281 → w.cell? ⟨E.gn gk, 0, none⟩ = some (.int .i64 m) → Calls P (E.fn k) #[.string s, .string sub] w fun e w' => e = .returned (.bool (Lib.contains s.data.toList sub.data.toList)) ∧ w' = w)
    (s t : Str) (hs : s.length ≤ 1000) : FX E P k [S s, S t] (Bo (Lib.contains s t)) := by
  refine FX.ofCalls hf hn hb (by simp [AV.closedL, AV.closed]) (by simp [AV.flat]) (by simp [AV.closed]) fun cx vs _ hg hv => ?_
  simp only [LRel, VRel] at hv
  obtain ⟨v0, _, rfl, rfl, v1, _, rfl, rfl, rfl⟩ := hv
  have hc := hg gk _ hgl
  simp only [CRel, VRel] at hc
  obtain ⟨⟨_, u, hu, rfl⟩, _⟩ := hc
  refine (h ⟨s.toArray⟩ ⟨t.toArray⟩ m cx.w (by simp [ByteArray.size]; omega) hu).mono ?_
  rintro e w' ⟨rfl, rfl⟩
  exact ⟨_, rfl, Below.refl _ _, by simp [VRel]⟩
end
end Go.Sc
namespace Go.Proofs.YthjggpnmhddglaaGreatDoor
open Go.RowKit Go.Extern.Stop Go.Stop Go.Extern
theorem Tryz.valueOfT (t : Addr) (w : World) : (ReflectliteValue.unpack (.iface 93 (.pointer (some t)))).run Tryz.prog w
    = .ok (.agg #[.pointer (some ⟨5, 93, none⟩), .pointer (some ⟨w.heap.size, 0, none⟩), .int .u64 150]) (w.alloc (.cells #[.pointer (some t)] 93)) := by kernel_rfl
theorem Tryz.typeT (a : Addr) (w : World) : (ReflectliteValue.methodAny (ReflectliteValue.valueError "reflectlite.Value.Type" 0) (fun t _ _ _ => ReflectliteType.toType t) #[.agg #[.pointer (some ⟨5, 93, none⟩), .pointer (some a), .int .u64 150]]).run Tryz.prog w
    = .ok (.iface 143 (.agg #[.pointer (some ⟨5, 93, none⟩)])) w := by kernel_rfl
theorem Tryz.methodKind (h : Value) (w : World) : (Go.method 328 143 (.agg #[h]) "Kind").run Tryz.prog w = .ok (141, h) w := by kernel_rfl
theorem Tryz.kindT (w : World) : ((ReflectliteType.abiMethod fun t => (fun a : Nat => Value.int IntKind.u8 (a : Int)) <$> Rtype.kind t) #[.pointer (some ⟨5, 93, none⟩)]).run Tryz.prog w = .ok (.int .u8 22) w := by kernel_rfl
theorem Tryz.kindX (w : World) : ((ReflectliteType.abiMethod fun t => (fun a : Nat => Value.int IntKind.u8 (a : Int)) <$> Rtype.kind t) #[.pointer (some ⟨5, 35, none⟩)]).run Tryz.prog w = .ok (.int .u8 2) w := by kernel_rfl
theorem rlm (z : Sem Value) (f : TypeId → Addr → Nat → Nat → Sem Value) (v : Value) :
    ReflectliteValue.method z f #[v] = (do match ← ReflectliteValue.parts v with | none => z | some (t, a, fl) => f t a fl (fl % 32)) := rfl
theorem Tryz.partsT (a : Addr) (w : World) : (ReflectliteValue.parts (.agg #[.pointer (some ⟨5, 93, none⟩), .pointer (some a), .int .u64 150])).run Tryz.prog w = .ok (some (93, a, 150)) w := by kernel_rfl
theorem Tryz.isNilT (a p : Addr) (W : World) (ha : W.cell? a = some (.pointer (some p))) :
    (ReflectliteValue.method (ReflectliteValue.valueError "reflectlite.Value.IsNil" 0) ReflectliteValue.isNil #[.agg #[.pointer (some ⟨5, 93, none⟩), .pointer (some a), .int .u64 150]]).run Tryz.prog W = .ok (.bool false) W := by
  rw [rlm]
  simp only [Sem.run_bind, Tryz.partsT, Result.andThen]
  simp [ReflectliteValue.isNil, loadVar, isAgg, underlying, Tryz.underlying93, ha, Result.andThen]
theorem Tryz.methodElem (h : Value) (w : World) : (Go.method 328 143 (.agg #[h]) "Elem").run Tryz.prog w = .ok (161, .agg #[h]) w := by kernel_rfl
theorem Tryz.methodImplements (h : Value) (w : World) : (Go.method 328 143 (.agg #[h]) "Implements").run Tryz.prog w = .ok (162, .agg #[h]) w := by kernel_rfl
theorem Tryz.methodAssignableTo (h : Value) (w : World) : (Go.method 328 143 (.agg #[h]) "AssignableTo").run Tryz.prog w = .ok (159, .agg #[h]) w := by kernel_rfl
theorem Tryz.elemT (w : World) : (ReflectliteType.method ReflectliteType.elem #[.agg #[.pointer (some ⟨5, 93, none⟩)]]).run Tryz.prog w = .ok (.iface 143 (.agg #[.pointer (some ⟨5, 35, none⟩)])) w := by kernel_rfl
theorem Tryz.implementsX (w : World) : (ReflectliteType.relation "Implements" ReflectliteType.implements_ #[.agg #[.pointer (some ⟨5, 35, none⟩)], .iface 143 (.agg #[.pointer (some ⟨5, 31, none⟩)])]).run Tryz.prog w = .ok (.bool true) w := by kernel_rfl
theorem Tryz.typeOfX (v : Value) (w : World) : (ReflectliteType.typeOf #[.iface 35 v]).run Tryz.prog w = .ok (.iface 143 (.agg #[.pointer (some ⟨5, 35, none⟩)])) w := by kernel_rfl
theorem Tryz.assignableX (w : World) : (ReflectliteType.relation "AssignableTo" ReflectliteType.assignableTo #[.agg #[.pointer (some ⟨5, 35, none⟩)], .iface 143 (.agg #[.pointer (some ⟨5, 35, none⟩)])]).run Tryz.prog w = .ok (.bool true) w := by kernel_rfl
theorem Tryz.typeOfAt (v : Value) (w : World) : (ReflectliteType.typeOf #[.iface 101 v]).run Tryz.prog w = .ok (.iface 143 (.agg #[.pointer (some ⟨5, 101, none⟩)])) w := by kernel_rfl
theorem Tryz.assignableAt (w : World) : (ReflectliteType.relation "AssignableTo" ReflectliteType.assignableTo #[.agg #[.pointer (some ⟨5, 101, none⟩)], .iface 143 (.agg #[.pointer (some ⟨5, 35, none⟩)])]).run Tryz.prog w = .ok (.bool false) w := by kernel_rfl
theorem Tryz.valueOfX (k : Int) (w : World) : (ReflectliteValue.unpack (.iface 35 (.int .i64 k))).run Tryz.prog w
    = .ok (.agg #[.pointer (some ⟨5, 35, none⟩), .pointer (some ⟨w.heap.size, 0, none⟩), .int .u64 130]) (w.alloc (.cells #[.int .i64 k] 35)) := by kernel_rfl
theorem Tryz.elemOfT (w : World) : (Rtype.elem? 93).run Tryz.prog w = .ok (some 35) w := by kernel_rfl
theorem Tryz.mkX (p : Addr) (w : World) : (ReflectliteValue.mk 35 p ReflectliteValue.flagAddr).run Tryz.prog w = .ok (.agg #[.pointer (some ⟨5, 35, none⟩), .pointer (some p), .int .u64 386]) w := by kernel_rfl
theorem Tryz.elemVT (a p : Addr) (W : World) (ha : W.cell? a = some (.pointer (some p))) :
    (ReflectliteValue.method (ReflectliteValue.valueError "reflectlite.Value.Elem" 0) ReflectliteValue.elem #[.agg #[.pointer (some ⟨5, 93, none⟩), .pointer (some a), .int .u64 150]]).run Tryz.prog W
      = .ok (.agg #[.pointer (some ⟨5, 35, none⟩), .pointer (some p), .int .u64 386]) W := by
  rw [rlm]
  simp only [Sem.run_bind, Tryz.partsT, Result.andThen]
  simp [ReflectliteValue.elem, loadVar, isAgg, underlying, Tryz.underlying93, ha, Result.andThen, Tryz.elemOfT, Tryz.mkX]
theorem rls (v x : Value) : ReflectliteValue.set #[v, x] = (do
    let (some (dst, a, fl), some (src, b, _)) := (← ReflectliteValue.parts v, ← ReflectliteValue.parts x)
      | unsupported (.noEntry "extern/(internal/reflectlite.Value).Set.zeroValue")
    if fl / ReflectliteValue.flagAddr % 2 == 0 then unsupported (.noEntry "extern/(internal/reflectlite.Value).Set.unaddressable")
    let val ← loadVar src b
    if ← Rtype.directlyAssignable dst src then storeVar dst a val
    else if ← Rtype.implements dst src then
      if (← Rtype.kind src) == 20 then
        match val with
        | .nilIface => unsupported (.noEntry "extern/reflectlite: a nil value of one interface type handed on as a value of another")
        | _ => storeVar dst a val
      else storeVar dst a (.iface src val)
    else panicString ("reflectlite.Set: value of type " ++ (← Rtype.spelt src) ++ " is not assignable to type " ++ (← Rtype.spelt dst))
    pure (.tuple #[])) := rfl
theorem Tryz.partsXa (a : Addr) (w : World) : (ReflectliteValue.parts (.agg #[.pointer (some ⟨5, 35, none⟩), .pointer (some a), .int .u64 386])).run Tryz.prog w = .ok (some (35, a, 386)) w := by kernel_rfl
theorem Tryz.partsX (a : Addr) (w : World) : (ReflectliteValue.parts (.agg #[.pointer (some ⟨5, 35, none⟩), .pointer (some a), .int .u64 130])).run Tryz.prog w = .ok (some (35, a, 130)) w := by kernel_rfl
theorem Tryz.directX (w : World) : (Rtype.directlyAssignable 35 35).run Tryz.prog w = .ok true w := by kernel_rfl
theorem Tryz.setX (ta b : Addr) (k : Int) (old : Value) (W : World) (hb : W.cell? b = some (.int .i64 k)) (ht : W.cell? ta = some old) (hf : W.frozen? ta = false) :
    (ReflectliteValue.set #[.agg #[.pointer (some ⟨5, 35, none⟩), .pointer (some ta), .int .u64 386], .agg #[.pointer (some ⟨5, 35, none⟩), .pointer (some b), .int .u64 130]]).run Tryz.prog W
      = .ok (.tuple #[]) (W.setCell ta (.int .i64 k)) := by
  rw [rls]
  simp only [Sem.run_bind, Tryz.partsXa, Tryz.partsX, Result.andThen]
  simp [ReflectliteValue.flagAddr, loadVar, isAgg, underlying, Tryz.underlying35, hb, Result.andThen, Tryz.directX, storeVar, Value.cells, storeCells, Addr.add]
  rw [run_store Tryz.prog W ta _ _ (by rfl)]
  simp [ht, hf]

set_option maxHeartbeats 4000000 in
theorem as_hit (k : Int) (t : Addr) (old : Value) (w : World) (hg : w.cell? ⟨1, 0, none⟩ = some (.iface 143 (.agg #[.pointer (some ⟨5, 31, none⟩)]))) (ht0 : w.cell? t = some old) (hf0 : w.frozen? t = false) :
    Calls Tryz.prog 38 #[.iface 35 (.int .i64 k), .iface 93 (.pointer (some t))] w fun ev w' => ev = .returned (.bool true) ∧ w' = ((((w.alloc (.cells #[.pointer (some t)] 93)).alloc (.cells #[.pointer (some ⟨5, 93, none⟩), .pointer (some ⟨w.heap.size, 0, none⟩), .int .u64 150] 123)).alloc (.cells #[.pointer (some ⟨5, 93, none⟩), .pointer (some ⟨w.heap.size, 0, none⟩), .int .u64 150] 123)).alloc (.cells #[.int .i64 k] 35)).setCell t (.int .i64 k) := by
  have h6 := @run_callFunc_extern Tryz.prog 63 _ (fun args => ReflectliteValue.unpack (args.getD 0 (.tuple #[]))) Tryz.func63 (by kernel_rfl) (by kernel_rfl) (by kernel_rfl) (by kernel_rfl)
  have h7 := @run_callFunc_extern Tryz.prog 64 _ (ReflectliteValue.methodAny (ReflectliteValue.valueError "reflectlite.Value.Type" 0) (fun t _ _ _ => ReflectliteType.toType t)) Tryz.func64 (by kernel_rfl) (by kernel_rfl) (by kernel_rfl) (by kernel_rfl)
  have h8 := @run_callFunc_extern Tryz.prog 65 _ (ReflectliteValue.method (ReflectliteValue.valueError "reflectlite.Value.IsNil" 0) ReflectliteValue.isNil) Tryz.func65 (by kernel_rfl) (by kernel_rfl) (by kernel_rfl) (by kernel_rfl)
  have h27 := @run_callFunc_extern Tryz.prog 141 _ (ReflectliteType.abiMethod fun t => do pure (.int .u8 (← Rtype.kind t))) Tryz.func141 (by kernel_rfl) (by kernel_rfl) (by kernel_rfl) (by kernel_rfl)
  have h37 := @run_callFunc_extern Tryz.prog 161 _ (ReflectliteType.method ReflectliteType.elem) Tryz.func161 (by kernel_rfl) (by kernel_rfl) (by kernel_rfl) (by kernel_rfl)
  have h38 := @run_callFunc_extern Tryz.prog 162 _ (ReflectliteType.relation "Implements" ReflectliteType.implements_) Tryz.func162 (by kernel_rfl) (by kernel_rfl) (by kernel_rfl) (by kernel_rfl)
  have h10 := @run_callFunc_extern Tryz.prog 76 _ ReflectliteType.typeOf Tryz.func76 (by kernel_rfl) (by kernel_rfl) (by kernel_rfl) (by kernel_rfl)
  have h35 := @run_callFunc_extern Tryz.prog 159 _ (ReflectliteType.relation "AssignableTo" ReflectliteType.assignableTo) Tryz.func159 (by kernel_rfl) (by kernel_rfl) (by kernel_rfl) (by kernel_rfl)
  have h11 := @run_callFunc_extern Tryz.prog 77 _ (ReflectliteValue.method (ReflectliteValue.valueError "reflectlite.Value.Elem" 0) ReflectliteValue.elem) Tryz.func77 (by kernel_rfl) (by kernel_rfl) (by kernel_rfl) (by kernel_rfl)
  have h12 := @run_callFunc_extern Tryz.prog 78 _ ReflectliteValue.set Tryz.func78 (by kernel_rfl) (by kernel_rfl) (by kernel_rfl) (by kernel_rfl)
  have tO := Tryz.typeOfX
  have mA := Tryz.methodAssignableTo
  have a25 := Tryz.assignableX
  have v25 := Tryz.valueOfX
  have f6 := Tryz.valueOfT
  have f7 := Tryz.typeT
  have mK := Tryz.methodKind
  have mE := Tryz.methodElem
  have mI := Tryz.methodImplements
  have k27 := Tryz.kindT
  have k25 := Tryz.kindX
  have e27 := Tryz.elemT
  have i25 := Tryz.implementsX
  have n8 := Tryz.isNilT ⟨w.heap.size, 0, none⟩ t ((w.alloc (.cells #[.pointer (some t)] 93)).alloc (.cells #[.pointer (some ⟨5, 93, none⟩), .pointer (some ⟨w.heap.size, 0, none⟩), .int .u64 150] 123)) (by simp)
  have hlt : 1 < w.heap.size := by
    rcases Nat.lt_or_ge 1 w.heap.size with h | h
    · exact h
    · simp [World.cell?, Array.getElem?_eq_none h] at hg
  have hg2 : ((w.alloc (.cells #[.pointer (some t)] 93)).alloc (.cells #[.pointer (some ⟨5, 93, none⟩), .pointer (some ⟨w.heap.size, 0, none⟩), .int .u64 150] 123)).cell? ⟨1, 0, none⟩ = some (.iface 143 (.agg #[.pointer (some ⟨5, 31, none⟩)])) := by
    rw [World.cell?_alloc_lt _ _ ⟨1, 0, none⟩ (by first | (simp; done) | (simp; omega)), World.cell?_alloc_lt _ _ ⟨1, 0, none⟩ hlt]; exact hg
  have htl : t.block < w.heap.size := by
    rcases Nat.lt_or_ge t.block w.heap.size with h | h
    · exact h
    · simp [World.cell?, Array.getElem?_eq_none h] at ht0
  have el := Tryz.elemVT ⟨w.heap.size, 0, none⟩ t (((w.alloc (.cells #[.pointer (some t)] 93)).alloc (.cells #[.pointer (some ⟨5, 93, none⟩), .pointer (some ⟨w.heap.size, 0, none⟩), .int .u64 150] 123)).alloc (.cells #[.pointer (some ⟨5, 93, none⟩), .pointer (some ⟨w.heap.size, 0, none⟩), .int .u64 150] 123)) (by rw [World.cell?_alloc_lt _ _ ⟨w.heap.size, 0, none⟩ (by simp; omega)]; simp)
  have st := Tryz.setX t ⟨w.heap.size + 1 + 1 + 1, 0, none⟩ k old ((((w.alloc (.cells #[.pointer (some t)] 93)).alloc (.cells #[.pointer (some ⟨5, 93, none⟩), .pointer (some ⟨w.heap.size, 0, none⟩), .int .u64 150] 123)).alloc (.cells #[.pointer (some ⟨5, 93, none⟩), .pointer (some ⟨w.heap.size, 0, none⟩), .int .u64 150] 123)).alloc (.cells #[.int .i64 k] 35))
    (by rw [World.cell?_alloc_at _ _ _ _ (by simp)]; rfl)
    (by rw [World.cell?_alloc_lt _ _ t (by simp; omega), World.cell?_alloc_lt _ _ t (by simp; omega), World.cell?_alloc_lt _ _ t (by simp; omega), World.cell?_alloc_lt _ _ t htl]; exact ht0)
    (by rw [World.frozen?_alloc_old _ _ t (by simp; omega), World.frozen?_alloc_old _ _ t (by simp; omega), World.frozen?_alloc_old _ _ t (by simp; omega), World.frozen?_alloc_old _ _ t (Nat.ne_of_lt htl)]; exact hf0)
  go_enter Tryz.func38, Tryz.ntmps38
  go_wp2
  refine wp_loop_rounds 1 ?_
  rw [rounds_succ]
  go_wp2
  go_ret
  exact ⟨rfl, rfl⟩
end Go.Proofs.YthjggpnmhddglaaGreatDoor
namespace Go.Proofs.YthjggpnmhddglaaGreatDoor
open Go.RowKit Go.Extern.Stop Go.Stop Go.Extern
theorem Tryz.assertAs (p : Addr) (w : World) : (Instr.typeAssert (.iface 101 (.pointer (some p))) 31 148 true).run Tryz.prog w = .ok (.tuple #[.nilIface, .bool false]) w := run_typeAssert_lacksB Tryz.underlying148 (by kernel_rfl) (by kernel_rfl) _ _ w
theorem Tryz.assertUnwrap (p : Addr) (w : World) : (Instr.typeAssert (.iface 101 (.pointer (some p))) 31 133 true).run Tryz.prog w = .ok (.tuple #[.iface 101 (.pointer (some p)), .bool true]) w := run_typeAssert_hasB Tryz.underlying133 (by kernel_rfl) _ _ w
theorem Tryz.methodUnwrap (p : Addr) (w : World) : (Go.method 328 101 (.pointer (some p)) "Unwrap").run Tryz.prog w = .ok (150, .pointer (some p)) w := by kernel_rfl
set_option maxRecDepth 100000 in
set_option maxHeartbeats 4000000 in
theorem as_at (k : Int) (p t : Addr) (old : Value) (w : World) (hg : w.cell? ⟨1, 0, none⟩ = some (.iface 143 (.agg #[.pointer (some ⟨5, 31, none⟩)]))) (ht0 : w.cell? t = some old) (hf0 : w.frozen? t = false) (hp : w.cell? p = some (.int .i64 k)) :
    Calls Tryz.prog 38 #[.iface 101 (.pointer (some p)), .iface 93 (.pointer (some t))] w fun ev w' => ev = .returned (.bool true) ∧ w' = ((((w.alloc (.cells #[.pointer (some t)] 93)).alloc (.cells #[.pointer (some ⟨5, 93, none⟩), .pointer (some ⟨w.heap.size, 0, none⟩), .int .u64 150] 123)).alloc (.cells #[.pointer (some ⟨5, 93, none⟩), .pointer (some ⟨w.heap.size, 0, none⟩), .int .u64 150] 123)).alloc (.cells #[.int .i64 k] 35)).setCell t (.int .i64 k) := by
  have h6 := @run_callFunc_extern Tryz.prog 63 _ (fun args => ReflectliteValue.unpack (args.getD 0 (.tuple #[]))) Tryz.func63 (by kernel_rfl) (by kernel_rfl) (by kernel_rfl) (by kernel_rfl)
  have h7 := @run_callFunc_extern Tryz.prog 64 _ (ReflectliteValue.methodAny (ReflectliteValue.valueError "reflectlite.Value.Type" 0) (fun t _ _ _ => ReflectliteType.toType t)) Tryz.func64 (by kernel_rfl) (by kernel_rfl) (by kernel_rfl) (by kernel_rfl)
  have h8 := @run_callFunc_extern Tryz.prog 65 _ (ReflectliteValue.method (ReflectliteValue.valueError "reflectlite.Value.IsNil" 0) ReflectliteValue.isNil) Tryz.func65 (by kernel_rfl) (by kernel_rfl) (by kernel_rfl) (by kernel_rfl)
  have h27 := @run_callFunc_extern Tryz.prog 141 _ (ReflectliteType.abiMethod fun t => do pure (.int .u8 (← Rtype.kind t))) Tryz.func141 (by kernel_rfl) (by kernel_rfl) (by kernel_rfl) (by kernel_rfl)
  have h37 := @run_callFunc_extern Tryz.prog 161 _ (ReflectliteType.method ReflectliteType.elem) Tryz.func161 (by kernel_rfl) (by kernel_rfl) (by kernel_rfl) (by kernel_rfl)
  have h38 := @run_callFunc_extern Tryz.prog 162 _ (ReflectliteType.relation "Implements" ReflectliteType.implements_) Tryz.func162 (by kernel_rfl) (by kernel_rfl) (by kernel_rfl) (by kernel_rfl)
  have h10 := @run_callFunc_extern Tryz.prog 76 _ ReflectliteType.typeOf Tryz.func76 (by kernel_rfl) (by kernel_rfl) (by kernel_rfl) (by kernel_rfl)
  have h35 := @run_callFunc_extern Tryz.prog 159 _ (ReflectliteType.relation "AssignableTo" ReflectliteType.assignableTo) Tryz.func159 (by kernel_rfl) (by kernel_rfl) (by kernel_rfl) (by kernel_rfl)
  have h11 := @run_callFunc_extern Tryz.prog 77 _ (ReflectliteValue.method (ReflectliteValue.valueError "reflectlite.Value.Elem" 0) ReflectliteValue.elem) Tryz.func77 (by kernel_rfl) (by kernel_rfl) (by kernel_rfl) (by kernel_rfl)
  have h12 := @run_callFunc_extern Tryz.prog 78 _ ReflectliteValue.set Tryz.func78 (by kernel_rfl) (by kernel_rfl) (by kernel_rfl) (by kernel_rfl)
  have tO := Tryz.typeOfX
  have mA := Tryz.methodAssignableTo
  have a25 := Tryz.assignableX
  have tOa := Tryz.typeOfAt
  have ta1 := Tryz.assertAs p
  have ta2 := Tryz.assertUnwrap p
  have mU := Tryz.methodUnwrap p
  have a25a := Tryz.assignableAt
  have v25 := Tryz.valueOfX
  have f6 := Tryz.valueOfT
  have f7 := Tryz.typeT
  have mK := Tryz.methodKind
  have mE := Tryz.methodElem
  have mI := Tryz.methodImplements
  have k27 := Tryz.kindT
  have k25 := Tryz.kindX
  have e27 := Tryz.elemT
  have i25 := Tryz.implementsX
  have n8 := Tryz.isNilT ⟨w.heap.size, 0, none⟩ t ((w.alloc (.cells #[.pointer (some t)] 93)).alloc (.cells #[.pointer (some ⟨5, 93, none⟩), .pointer (some ⟨w.heap.size, 0, none⟩), .int .u64 150] 123)) (by simp)
  have hlt : 1 < w.heap.size := by
    rcases Nat.lt_or_ge 1 w.heap.size with h | h
    · exact h
    · simp [World.cell?, Array.getElem?_eq_none h] at hg
  have hg2 : ((w.alloc (.cells #[.pointer (some t)] 93)).alloc (.cells #[.pointer (some ⟨5, 93, none⟩), .pointer (some ⟨w.heap.size, 0, none⟩), .int .u64 150] 123)).cell? ⟨1, 0, none⟩ = some (.iface 143 (.agg #[.pointer (some ⟨5, 31, none⟩)])) := by
    rw [World.cell?_alloc_lt _ _ ⟨1, 0, none⟩ (by first | (simp; done) | (simp; omega)), World.cell?_alloc_lt _ _ ⟨1, 0, none⟩ hlt]; exact hg
  have htl : t.block < w.heap.size := by
    rcases Nat.lt_or_ge t.block w.heap.size with h | h
    · exact h
    · simp [World.cell?, Array.getElem?_eq_none h] at ht0
  have hpl : p.block < w.heap.size := by
    rcases Nat.lt_or_ge p.block w.heap.size with h | h
    · exact h
    · simp [World.cell?, Array.getElem?_eq_none h] at hp
  have hp3 : (((w.alloc (.cells #[.pointer (some t)] 93)).alloc (.cells #[.pointer (some ⟨5, 93, none⟩), .pointer (some ⟨w.heap.size, 0, none⟩), .int .u64 150] 123)).alloc (.cells #[.pointer (some ⟨5, 93, none⟩), .pointer (some ⟨w.heap.size, 0, none⟩), .int .u64 150] 123)).cell? p = some (.int .i64 k) := by
    rw [World.cell?_alloc_lt _ _ p (by simp; omega), World.cell?_alloc_lt _ _ p (by simp; omega), World.cell?_alloc_lt _ _ p hpl]; exact hp
  have el := Tryz.elemVT ⟨w.heap.size, 0, none⟩ t (((w.alloc (.cells #[.pointer (some t)] 93)).alloc (.cells #[.pointer (some ⟨5, 93, none⟩), .pointer (some ⟨w.heap.size, 0, none⟩), .int .u64 150] 123)).alloc (.cells #[.pointer (some ⟨5, 93, none⟩), .pointer (some ⟨w.heap.size, 0, none⟩), .int .u64 150] 123)) (by rw [World.cell?_alloc_lt _ _ ⟨w.heap.size, 0, none⟩ (by simp; omega)]; simp)
  have st := Tryz.setX t ⟨w.heap.size + 1 + 1 + 1, 0, none⟩ k old ((((w.alloc (.cells #[.pointer (some t)] 93)).alloc (.cells #[.pointer (some ⟨5, 93, none⟩), .pointer (some ⟨w.heap.size, 0, none⟩), .int .u64 150] 123)).alloc (.cells #[.pointer (some ⟨5, 93, none⟩), .pointer (some ⟨w.heap.size, 0, none⟩), .int .u64 150] 123)).alloc (.cells #[.int .i64 k] 35))
    (by rw [World.cell?_alloc_at _ _ _ _ (by simp)]; rfl)
    (by rw [World.cell?_alloc_lt _ _ t (by simp; omega), World.cell?_alloc_lt _ _ t (by simp; omega), World.cell?_alloc_lt _ _ t (by simp; omega), World.cell?_alloc_lt _ _ t htl]; exact ht0)
    (by rw [World.frozen?_alloc_old _ _ t (by simp; omega), World.frozen?_alloc_old _ _ t (by simp; omega), World.frozen?_alloc_old _ _ t (by simp; omega), World.frozen?_alloc_old _ _ t (Nat.ne_of_lt htl)]; exact hf0)
  go_enter Tryz.func38, Tryz.ntmps38
  go_wp2
  refine wp_loop_rounds 2 ?_
  rw [rounds_succ]
  go_wp2
  rw [rounds_succ]
  go_wp2
  go_ret
  exact ⟨rfl, rfl⟩
end Go.Proofs.YthjggpnmhddglaaGreatDoor
namespace Go.Proofs.YthjggpnmhddglaaGreatDoor
open Go.RowKit Go.Extern.Stop Go.Stop Go.Extern
theorem tell_nil (w : World) : Calls Tryz.prog 16 #[.nilIface] w fun e w' => e = .returned (.int .i64 0) ∧ Below w.heap.size w w' := by
  go_enter Tryz.func16, Tryz.ntmps16
  go_wp2
  go_ret
  exact ⟨rfl, Below.refl _ _⟩

set_option maxRecDepth 100000 in
set_option maxHeartbeats 4000000 in
theorem tell_hit (k : Int) (w : World) (hg : w.cell? ⟨1, 0, none⟩ = some (.iface 143 (.agg #[.pointer (some ⟨5, 31, none⟩)]))) : Calls Tryz.prog 16 #[.iface 35 (.int .i64 k)] w fun e w' => e = .returned (.int .i64 k) ∧ Below w.heap.size w w' := by
  have hlt : 1 < w.heap.size := by
    rcases Nat.lt_or_ge 1 w.heap.size with h | h
    · exact h
    · simp [World.cell?, Array.getElem?_eq_none h] at hg
  have hgA : (w.alloc (.cells #[.int .i64 0] 35)).cell? ⟨1, 0, none⟩ = some (.iface 143 (.agg #[.pointer (some ⟨5, 31, none⟩)])) := by
    rw [World.cell?_alloc_lt _ _ ⟨1, 0, none⟩ hlt]; exact hg
  have htA : (w.alloc (.cells #[.int .i64 0] 35)).cell? ⟨w.heap.size, 0, none⟩ = some (.int .i64 0) := by simp
  have hfA : (w.alloc (.cells #[.int .i64 0] 35)).frozen? ⟨w.heap.size, 0, none⟩ = false := by simp
  go_enter Tryz.func16, Tryz.ntmps16
  go_wp2_with (first | (go_at_call 38; refine (as_hit k _ (.int .i64 0) _ hgA htA hfA).mono ?_; rintro e w' ⟨rfl, rfl⟩))
  go_ret
  refine ⟨rfl, ?_⟩
  repeat (first | exact Below.refl _ _ | refine Below.alloc ?_ (by first | (simp; done) | (simp; omega)) _)
set_option maxRecDepth 100000 in
set_option maxHeartbeats 4000000 in
theorem tell_at (k : Int) (p : Addr) (w : World) (hg : w.cell? ⟨1, 0, none⟩ = some (.iface 143 (.agg #[.pointer (some ⟨5, 31, none⟩)]))) (hp : w.cell? p = some (.int .i64 k)) : Calls Tryz.prog 16 #[.iface 101 (.pointer (some p))] w fun e w' => e = .returned (.int .i64 k) ∧ Below w.heap.size w w' := by
  have hlt : 1 < w.heap.size := by
    rcases Nat.lt_or_ge 1 w.heap.size with h | h
    · exact h
    · simp [World.cell?, Array.getElem?_eq_none h] at hg
  have hgA : (w.alloc (.cells #[.int .i64 0] 35)).cell? ⟨1, 0, none⟩ = some (.iface 143 (.agg #[.pointer (some ⟨5, 31, none⟩)])) := by
    rw [World.cell?_alloc_lt _ _ ⟨1, 0, none⟩ hlt]; exact hg
  have htA : (w.alloc (.cells #[.int .i64 0] 35)).cell? ⟨w.heap.size, 0, none⟩ = some (.int .i64 0) := by simp
  have hfA : (w.alloc (.cells #[.int .i64 0] 35)).frozen? ⟨w.heap.size, 0, none⟩ = false := by simp
  have hpl : p.block < w.heap.size := by
    rcases Nat.lt_or_ge p.block w.heap.size with h | h
    · exact h
    · simp [World.cell?, Array.getElem?_eq_none h] at hp
  have hpA : (w.alloc (.cells #[.int .i64 0] 35)).cell? p = some (.int .i64 k) := by
    rw [World.cell?_alloc_lt _ _ p hpl]; exact hp
  go_enter Tryz.func16, Tryz.ntmps16
  go_wp2_with (first | (go_at_call 38; refine (as_at k p _ (.int .i64 0) _ hgA htA hfA hpA).mono ?_; rintro e w' ⟨rfl, rfl⟩))
  go_ret
  refine ⟨rfl, ?_⟩
  repeat (first | exact Below.refl _ _ | refine Below.alloc ?_ (by first | (simp; done) | (simp; omega)) _)
end Go.Proofs.YthjggpnmhddglaaGreatDoor
