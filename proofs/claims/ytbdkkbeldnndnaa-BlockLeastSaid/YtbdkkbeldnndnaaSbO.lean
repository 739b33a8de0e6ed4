/-
  NODES, AS A PROOF READS THEM; slices of one-cell elements that are frozen ('Sl'), or grow ('Own').
-/
import Derived.Test.YtbdkkbeldnndnaaSbN2
import Derived.IntWalk
namespace Go.Sb
open Go

/-! ### nodes -/
@[simp] theorem wGet_some {x : AV} {H : AH} {K : Kt} : wGet (some x) H K ↔ K x H := ⟨fun ⟨_, h, k⟩ => by injection h with h; exact h ▸ k, fun k => ⟨x, rfl, k⟩⟩
@[simp] theorem wPut_some {H : AH} {K : Kt} : wPut (some H) K ↔ K undefA H := ⟨fun ⟨_, h, k⟩ => by injection h with h; exact h ▸ k, fun k => ⟨H, rfl, k⟩⟩
@[simp] theorem wDo_some {x : AV} {H : AH} {K : Kt} : wDo (some (x, H)) K ↔ K x H := ⟨fun ⟨_, _, h, k⟩ => by injection h with h; injection h with h1 h2; exact h1 ▸ h2 ▸ k, fun k => ⟨x, H, rfl, k⟩⟩
@[simp] theorem wBool_some {b : Bool} {H : AH} {neg : Bool} {K : Kt} : wBool (some b) H neg K ↔ K (.val (.bool (b != neg))) H := ⟨fun ⟨_, h, k⟩ => by injection h with h; exact h ▸ k, fun k => ⟨b, rfl, k⟩⟩
@[simp] theorem wNew_some {sz : Nat} {l : List AV} {H : AH} {K : Kt} : wNew sz (some l) H K ↔ K (.ptrL H.bs.length 0 H.ctr) (H.push sz l) := ⟨fun ⟨_, h, k⟩ => by injection h with h; exact h ▸ k, fun k => ⟨l, rfl, k⟩⟩
@[simp] theorem wNewS_some {sz len : Nat} {l : List AV} {H : AH} {K : Kt} : wNewS sz len (some l) H K ↔ l.length = len * sz ∧ K (.slL H.bs.length 0 len H.ctr) (H.push sz l) := ⟨fun ⟨_, h, e, k⟩ => by injection h with h; subst h; exact ⟨e, k⟩, fun ⟨e, k⟩ => ⟨l, rfl, e, k⟩⟩
@[simp] theorem wAgg_some {l : List AV} {H : AH} {K : Kt} : wAgg (some l) H K ↔ K (.agg l) H := ⟨fun ⟨_, h, k⟩ => by injection h with h; exact h ▸ k, fun k => ⟨l, rfl, k⟩⟩
@[simp] theorem wIf_bool {b : Bool} {t f : Prop} : wIf (.val (.bool b)) t f ↔ (b = true → t) ∧ (b = false → f) := ⟨fun ⟨_, h, k⟩ => by injection h with h; injection h with h; subst h; exact k, fun k => ⟨b, rfl, k⟩⟩
@[simp] theorem wGuard_bool {b want : Bool} {H : AH} {m : Kt → Prop} {K : Kt} : wGuard (.val (.bool b)) want H m K ↔ (b = want → m K) ∧ (b ≠ want → K undefA H) := by
  constructor
  · rintro ⟨⟨_, h, k⟩ | ⟨h, k⟩⟩
    · injection h with h; injection h with h; subst h; exact k
    · simp [undefA] at h
  · exact fun k => ⟨.inl ⟨b, rfl, k⟩⟩
@[simp] theorem wGuard_undef {want : Bool} {H : AH} {m : Kt → Prop} {K : Kt} : wGuard undefA want H m K ↔ K undefA H := by
  constructor
  · rintro ⟨⟨_, h, k⟩ | ⟨h, k⟩⟩
    · simp [undefA] at h
    · exact k
  · exact fun k => ⟨.inr ⟨rfl, k⟩⟩
@[simp] theorem wIf_true {t f : Prop} : wIf (.val (.bool true)) t f ↔ t := by simp [wIf_bool]
@[simp] theorem wIf_false {t f : Prop} : wIf (.val (.bool false)) t f ↔ f := by simp [wIf_bool]

@[simp] theorem wGuard_ff {H : AH} {m : Kt → Prop} {K : Kt} : wGuard (.val (.bool false)) false H m K ↔ m K := by simp [wGuard_bool]
@[simp] theorem wGuard_tt {H : AH} {m : Kt → Prop} {K : Kt} : wGuard (.val (.bool true)) true H m K ↔ m K := by simp [wGuard_bool]
@[simp] theorem wGuard_ft {H : AH} {m : Kt → Prop} {K : Kt} : wGuard (.val (.bool false)) true H m K ↔ K undefA H := by simp [wGuard_bool]
@[simp] theorem wGuard_tf {H : AH} {m : Kt → Prop} {K : Kt} : wGuard (.val (.bool true)) false H m K ↔ K undefA H := by simp [wGuard_bool]
theorem pickA_t {a b : AV} : pickA (.val (.bool true)) a b = some a := rfl
theorem pickA_f {a b : AV} : pickA (.val (.bool false)) a b = some b := rfl

/-! ### plain functions -/
def nilS : AV := .val (.slice none 0 0)
def Z (x : Int) : AV := .val (.int .i64 x)
section
variable {k : IntKind} {a b : Int}
@[simp] theorem binA_lss : binA .lss (.val (.int k a)) (.val (.int k b)) = some (.val (.bool (decide (a < b)))) := by simp [binA, intBin]
@[simp] theorem binA_leq : binA .leq (.val (.int k a)) (.val (.int k b)) = some (.val (.bool (decide (a ≤ b)))) := by simp [binA, intBin]
@[simp] theorem binA_gtr : binA .gtr (.val (.int k a)) (.val (.int k b)) = some (.val (.bool (decide (a > b)))) := by simp [binA, intBin]
@[simp] theorem binA_geq : binA .geq (.val (.int k a)) (.val (.int k b)) = some (.val (.bool (decide (a ≥ b)))) := by simp [binA, intBin]
@[simp] theorem binA_eql : binA .eql (.val (.int k a)) (.val (.int k b)) = some (.val (.bool (decide (a = b)))) := by
  have : (a == b) = decide (a = b) := by by_cases h : a = b <;> simp [h]
  simp [binA, intBin, this]
@[simp] theorem binA_neq : binA .neq (.val (.int k a)) (.val (.int k b)) = some (.val (.bool (decide (a ≠ b)))) := by
  have : (a != b) = decide (a ≠ b) := by by_cases h : a = b <;> simp [h]
  simp [binA, intBin, this]
end
theorem binA_add {a b : Int} (h : -9223372036854775808 ≤ a + b ∧ a + b ≤ 9223372036854775807) : binA .add (.val (.int .i64 a)) (.val (.int .i64 b)) = some (.val (.int .i64 (a + b))) := by simp [binA, intBin, IntWalk.i64_in _ h]
theorem binA_sub {a b : Int} (h : -9223372036854775808 ≤ a - b ∧ a - b ≤ 9223372036854775807) : binA .sub (.val (.int .i64 a)) (.val (.int .i64 b)) = some (.val (.int .i64 (a - b))) := by simp [binA, intBin, IntWalk.i64_in _ h]
theorem binA_mul {a b : Int} (h : -9223372036854775808 ≤ a * b ∧ a * b ≤ 9223372036854775807) : binA .mul (.val (.int .i64 a)) (.val (.int .i64 b)) = some (.val (.int .i64 (a * b))) := by simp [binA, intBin, IntWalk.i64_in _ h]
theorem binA_succ {i : Nat} (h : i < 4611686018427387904) : binA .add (.val (.int .i64 i)) (.val (.int .i64 1)) = some (.val (.int .i64 ((i + 1 : Nat) : Int))) := by rw [binA_add (by omega)]; simp
@[simp] theorem pickA_bool {t : Bool} {a b : AV} : pickA (.val (.bool t)) a b = some (if t then a else b) := rfl
@[simp] theorem unA_not {b : Bool} : unA .not (.val (.bool b)) = some (.val (.bool !b)) := rfl
@[simp] theorem faddr_L {off b o g : Nat} : faddr off (.ptrL b o g) = some (.ptrL b (o + off) g) := rfl
@[simp] theorem faddr_F {off o : Nat} {cs : List AV} : faddr off (.ptrF cs o) = some (.ptrF cs (o + off)) := rfl
@[simp] theorem extractA_tup {vs : List AV} {i : Nat} : extractA (.tup vs) i = vs[i]? := rfl

theorem AH.cells_eq {H : AH} {b g sz : Nat} {cs : List AV} (h : H.bs[b]? = some (.cells g sz cs)) : H.cells b g = some cs := by simp [AH.cells, h]
theorem AH.esz_eq {H : AH} {b g sz : Nat} {cs : List AV} (h : H.bs[b]? = some (.cells g sz cs)) : H.esz b g = some sz := by simp [AH.esz, h]
theorem load1_L {H : AH} {b o g sz : Nat} {cs : List AV} (h : H.bs[b]? = some (.cells g sz cs)) : load1 (.ptrL b o g) H = cs[o]? := by simp [load1, AH.cells_eq h]
theorem loadN_L {H : AH} {n b o g sz : Nat} {cs : List AV} (h : H.bs[b]? = some (.cells g sz cs)) : loadN n (.ptrL b o g) H = (subL cs o n).map .agg := by simp [loadN, AH.cells_eq h]

/-! ### memory that is written out -/
section
variable {b o g sz c n : Nat} {cs : List AV} {r : List Blk} {x y : AV} {z : Blk}
@[simp] theorem load1_zero : load1 (.ptrL 0 o g) ⟨.cells g sz cs :: r, c⟩ = cs[o]? := by simp [load1, AH.cells]
@[simp] theorem load1_succ : load1 (.ptrL (b + 1) o g) ⟨z :: r, c⟩ = load1 (.ptrL b o g) ⟨r, c⟩ := by simp [load1, AH.cells]
@[simp] theorem load1_one : load1 (.ptrL 1 o g) ⟨z :: r, c⟩ = load1 (.ptrL 0 o g) ⟨r, c⟩ := by simp [load1, AH.cells]
@[simp] theorem load1_two : load1 (.ptrL 2 o g) ⟨z :: r, c⟩ = load1 (.ptrL 1 o g) ⟨r, c⟩ := by simp [load1, AH.cells]
@[simp] theorem load1_three : load1 (.ptrL 3 o g) ⟨z :: r, c⟩ = load1 (.ptrL 2 o g) ⟨r, c⟩ := by simp [load1, AH.cells]
@[simp] theorem loadN_zero : loadN n (.ptrL 0 o g) ⟨.cells g sz cs :: r, c⟩ = (subL cs o n).map .agg := by simp [loadN, AH.cells]
@[simp] theorem loadN_one : loadN n (.ptrL 1 o g) ⟨z :: r, c⟩ = loadN n (.ptrL 0 o g) ⟨r, c⟩ := by simp [loadN, AH.cells]
@[simp] theorem loadN_two : loadN n (.ptrL 2 o g) ⟨z :: r, c⟩ = loadN n (.ptrL 1 o g) ⟨r, c⟩ := by simp [loadN, AH.cells]
@[simp] theorem loadN_three : loadN n (.ptrL 3 o g) ⟨z :: r, c⟩ = loadN n (.ptrL 2 o g) ⟨r, c⟩ := by simp [loadN, AH.cells]
def AH.under (z : Blk) (H : AH) : AH := ⟨z :: H.bs, H.ctr⟩
@[simp] theorem under_mk : AH.under z ⟨r, c⟩ = ⟨z :: r, c⟩ := rfl
theorem store1_zero (hx : x.scalar = true) (ho : o < cs.length) : store1 (.ptrL 0 o g) x ⟨.cells g sz cs :: r, c⟩ = some ⟨.cells g sz (cs.set o x) :: r, c⟩ := by simp [store1, AH.cells, AH.set, hx, ho]
theorem store1_succ : store1 (.ptrL (b + 1) o g) x ⟨z :: r, c⟩ = (store1 (.ptrL b o g) x ⟨r, c⟩).map (AH.under z) := by
  simp only [store1]
  split
  · simp only [AH.cells, List.getElem?_cons_succ]
    rcases h : r[b]? with _ | (⟨g', s, cs⟩ | _ | _)
    · simp
    · by_cases hg : g' = g
      · simp only [if_pos hg, Option.bind_some]
        split
        · simp [AH.set, AH.under, h]
        · rfl
      · simp [hg]
    · simp
    · simp
  · rfl
theorem store1_one : store1 (.ptrL 1 o g) x ⟨z :: r, c⟩ = (store1 (.ptrL 0 o g) x ⟨r, c⟩).map (AH.under z) := store1_succ
theorem store1_two : store1 (.ptrL 2 o g) x ⟨z :: r, c⟩ = (store1 (.ptrL 1 o g) x ⟨r, c⟩).map (AH.under z) := store1_succ
theorem store1_three : store1 (.ptrL 3 o g) x ⟨z :: r, c⟩ = (store1 (.ptrL 2 o g) x ⟨r, c⟩).map (AH.under z) := store1_succ
theorem storeN_zero {xs : List AV} (hn : xs.length = n) (hx : xs.all AV.scalar = true) : storeN n (.ptrL 0 o g) (.agg xs) ⟨.cells g sz cs :: r, c⟩ = (putL cs o xs).map fun cs' => ⟨.cells g sz cs' :: r, c⟩ := by
  simp only [storeN]
  rw [if_pos ⟨hn, hx⟩]
  simp [AH.cells, AH.set]
theorem storeN_succ {xs : List AV} : storeN n (.ptrL (b + 1) o g) (.agg xs) ⟨z :: r, c⟩ = (storeN n (.ptrL b o g) (.agg xs) ⟨r, c⟩).map (AH.under z) := by
  simp only [storeN]
  split
  · simp only [AH.cells, List.getElem?_cons_succ]
    rcases h : r[b]? with _ | (⟨g', s, cs⟩ | _ | _)
    · simp
    · by_cases hg : g' = g
      · simp only [if_pos hg, Option.bind_some]
        cases putL cs o xs with
        | none => rfl
        | some l => simp [AH.set, AH.under, h]
      · simp [hg]
    · simp
    · simp
  · rfl
theorem storeN_one {xs : List AV} : storeN n (.ptrL 1 o g) (.agg xs) ⟨z :: r, c⟩ = (storeN n (.ptrL 0 o g) (.agg xs) ⟨r, c⟩).map (AH.under z) := storeN_succ
theorem storeN_two {xs : List AV} : storeN n (.ptrL 2 o g) (.agg xs) ⟨z :: r, c⟩ = (storeN n (.ptrL 1 o g) (.agg xs) ⟨r, c⟩).map (AH.under z) := storeN_succ
end

/-! ### frozen slices -/
def Sl (x : AV) (l : List AV) : Prop := (x = nilS ∧ l = []) ∨ x = .slF l 0 l.length

theorem Sl.len {x : AV} {l : List AV} (h : Sl x l) : lenA x = some (.val (.int .i64 l.length)) := by
  rcases h with ⟨rfl, rfl⟩ | rfl <;> simp [lenA, nilS]
theorem Sl.at {x : AV} {l : List AV} (h : Sl x l) {k : IntKind} {i : Nat} (hi : i < l.length) : iaddr 1 x (.val (.int k i)) = some (.ptrF l i) := by
  rcases h with ⟨rfl, rfl⟩ | rfl
  · simp at hi
  · simp [iaddr]; omega
@[simp] theorem load1_F {l : List AV} {i : Nat} {H : AH} : load1 (.ptrF l i) H = l[i]? := rfl
theorem Sl.closed {x : AV} {l : List AV} (h : Sl x l) (hc : ∀ y ∈ l, y.closed) : x.closed := by
  rcases h with ⟨rfl, rfl⟩ | rfl
  · simp [nilS, AV.closed]
  · simpa [AV.closed, AV.closedL_iff] using hc
theorem Sl.nil_iff {x : AV} {l : List AV} (h : Sl x l) : ∃ b, eqA .slice x nilS = some b ∧ (b = true → l = [] ∧ x = nilS) ∧ (b = false → x = .slF l 0 l.length) := by
  rcases h with ⟨rfl, rfl⟩ | rfl
  · exact ⟨true, rfl, by simp, by simp⟩
  · exact ⟨false, rfl, by simp, by simp⟩
theorem Sl.cells {x : AV} {l : List AV} (h : Sl x l) (H : AH) : cellsOfA 1 x H = some (l.length, l) := by
  rcases h with ⟨rfl, rfl⟩ | rfl
  · rfl
  · simp [cellsOfA, subL]

/-! ### slices that grow -/
def Own (H : AH) (n0 : Nat) (x : AV) (l : List AV) : Prop := (x = nilS ∧ l = []) ∨ ∃ b g, n0 ≤ b ∧ x = .slL b 0 l.length g ∧ H.bs[b]? = some (.cells g 1 l)

theorem Own.len {H : AH} {n0 : Nat} {x : AV} {l : List AV} (h : Own H n0 x l) : lenA x = some (.val (.int .i64 l.length)) := by
  rcases h with ⟨rfl, rfl⟩ | ⟨b, g, _, rfl, _⟩ <;> simp [lenA, nilS]
theorem Own.at {H : AH} {n0 : Nat} {x : AV} {l : List AV} (h : Own H n0 x l) {k : IntKind} {i : Nat} (hi : i < l.length) : ∃ p, iaddr 1 x (.val (.int k i)) = some p ∧ load1 p H = l[i]? := by
  rcases h with ⟨rfl, rfl⟩ | ⟨b, g, _, rfl, hb⟩
  · simp at hi
  · exact ⟨.ptrL b i g, by simp [iaddr]; omega, load1_L hb⟩
theorem lt_of_get {α : Type} {l : List α} {i : Nat} {x : α} (h : l[i]? = some x) : i < l.length := by
  by_cases hl : i < l.length
  · exact hl
  · rw [List.getElem?_eq_none (by omega)] at h; cases h
/-- what is appended goes to the end; the first 'n0' blocks, and all but one's own, stay -/
theorem Own.append {H : AH} {n0 : Nat} {x : AV} {l : List AV} (h : Own H n0 x l) (h0 : n0 ≤ H.bs.length) {y : AV} {new : List AV} {n bytes : Nat} (hy : cellsOfA 1 y H = some (n, new)) (hn : new.length = n) (hs : new.all AV.scalar = true)
    (hb : (l.length + n) * bytes ≤ mostBytes) (hb' : l.length + n ≤ mostBytes) :
    ∃ x' H', appendA 1 bytes x y H = some (x', H') ∧ Own H' n0 x' (l ++ new) ∧ (∀ i v, H.bs[i]? = some v → (i < n0 ∨ ∀ g, x ≠ .slL i 0 l.length g) → H'.bs[i]? = some v) ∧ H.bs.length ≤ H'.bs.length ∧ H.ctr ≤ H'.ctr ∧ (∀ b g, x' = .slL b 0 (l ++ new).length g → x = .slL b 0 l.length g ∨ H.bs.length ≤ b ∨ ∃ g', x = .slL b 0 l.length g') := by
  rcases h with ⟨rfl, rfl⟩ | ⟨b, g, hge, rfl, hbk⟩
  · by_cases hz : n = 0
    · subst hz
      have : new = [] := List.eq_nil_of_length_eq_zero hn
      subst this
      exact ⟨nilS, H, by simp [appendA, hy, nilS], .inl ⟨rfl, rfl⟩, fun i v hv _ => hv, Nat.le_refl _, Nat.le_refl _, fun b g e => by simp [nilS] at e⟩
    · refine ⟨.slL H.bs.length 0 n H.ctr, H.push 1 new, ?_, .inr ⟨H.bs.length, H.ctr, h0, by simp [hn], by simp [AH.push]⟩, ?_, by simp [AH.push], by simp [AH.push], ?_⟩
      · simp only [appendA, hy, Option.bind_some, nilS]
        simp at hb hb'
        simp [hz, hb, hb']
      · intro i v hv _
        simp only [AH.push]
        rw [List.getElem?_append_left (lt_of_get hv)]; exact hv
      · intro b g e
        injection e with e1 e2 e3 e4
        exact .inr (.inl (by omega))
  · have hbl := lt_of_get hbk
    by_cases hz : n = 0
    · subst hz
      have : new = [] := List.eq_nil_of_length_eq_zero hn
      subst this
      refine ⟨.slL b 0 l.length g, H, ?_, .inr ⟨b, g, hge, by simp, by simpa using hbk⟩, fun i v hv _ => hv, Nat.le_refl _, Nat.le_refl _, fun b' g' e => ?_⟩
      · simp at hb hb'
        simp [appendA, hy, AH.cells_eq hbk, AH.esz_eq hbk, hb, hb']
      · injection e with e1 e2 e3 e4
        subst e1; subst e4; exact .inl rfl
    · refine ⟨.slL b 0 (l.length + n) H.ctr, ⟨H.bs.set b (.cells H.ctr 1 (l ++ new)), H.ctr + 1⟩, ?_, .inr ⟨b, H.ctr, hge, by simp [hn], by simp [List.getElem?_set_self hbl]⟩, ?_, by simp, by simp, ?_⟩
      · have hs' : ∀ x ∈ new, x.scalar = true := by simpa using hs
        simp [appendA, hy, AH.cells_eq hbk, AH.esz_eq hbk, hb, hb', hz]; exact hs'
      · intro i v hv hi
        simp only
        have : b ≠ i := by
          rintro rfl
          rcases hi with hi | hi
          · omega
          · exact hi g rfl
        rw [List.getElem?_set_ne this]; exact hv
      · intro b' g' e
        injection e with e1 e2 e3 e4
        subst e1
        exact .inr (.inr ⟨g, rfl⟩)

/-- two growing slices lie apart -/
def Apart (x y : AV) : Prop := ∀ b o n g b' o' n' g', x = .slL b o n g → y = .slL b' o' n' g' → b ≠ b'
theorem Apart.symm {x y : AV} (h : Apart x y) : Apart y x := fun b o n g b' o' n' g' h1 h2 e => h b' o' n' g' b o n g h2 h1 e.symm
theorem Apart.nil {x : AV} : Apart nilS x := fun b o n g b' o' n' g' h1 _ => by simp [nilS] at h1
/-- what stood stands -/
def Ext (H H' : AH) : Prop := (∀ (b : Nat) (v : Blk), H.bs[b]? = some v → H'.bs[b]? = some v) ∧ H.bs.length ≤ H'.bs.length
theorem Ext.refl (H : AH) : Ext H H := ⟨fun _ _ h => h, Nat.le_refl _⟩
theorem Ext.trans {H H' H'' : AH} (h : Ext H H') (k : Ext H' H'') : Ext H H'' := ⟨fun b v e => k.1 b v (h.1 b v e), Nat.le_trans h.2 k.2⟩
theorem Ext.push (H : AH) (sz : Nat) (cs : List AV) : Ext H (H.push sz cs) := ⟨fun b v h => by simp only [AH.push]; rw [List.getElem?_append_left (lt_of_get h)]; exact h, by simp [AH.push]⟩
theorem push_get (H : AH) (sz : Nat) (cs : List AV) : (H.push sz cs).bs[H.bs.length]? = some (.cells H.ctr sz cs) := by simp [AH.push]
theorem Own.ext {H H' : AH} {n0 : Nat} {x : AV} {l : List AV} (h : Own H n0 x l) (k : Ext H H') : Own H' n0 x l := by
  rcases h with h | ⟨b, g, h1, h2, h3⟩
  · exact .inl h
  · exact .inr ⟨b, g, h1, h2, k.1 _ _ h3⟩
theorem Own.grow {H : AH} {n0 : Nat} {x : AV} {l : List AV} (h : Own H n0 x l) (h0 : n0 ≤ H.bs.length) {y : AV} {new : List AV} {n bytes : Nat} (hy : cellsOfA 1 y H = some (n, new)) (hn : new.length = n) (hs : new.all AV.scalar = true)
    (hb : (l.length + n) * bytes ≤ mostBytes) (hb' : l.length + n ≤ mostBytes) :
    ∃ x' H', appendA 1 bytes x y H = some (x', H') ∧ Own H' n0 x' (l ++ new) ∧ (∀ i v, H.bs[i]? = some v → i < n0 → H'.bs[i]? = some v) ∧ H.bs.length ≤ H'.bs.length ∧ (∀ z m, Own H n0 z m → Apart x z → Own H' n0 z m ∧ Apart x' z) := by
  obtain ⟨x', H', e1, e2, e3, e4, e5, e6⟩ := h.append h0 hy hn hs hb hb'
  refine ⟨x', H', e1, e2, fun i v hv hi => e3 i v hv (.inl hi), e4, fun z m hz ha => ⟨?_, ?_⟩⟩
  · rcases hz with hz | ⟨b, g, h1, rfl, h3⟩
    · exact .inl hz
    · exact .inr ⟨b, g, h1, rfl, e3 b _ h3 (.inr fun g' e => ha b _ _ _ b _ _ _ e rfl rfl)⟩
  · rcases e2 with ⟨rfl, _⟩ | ⟨b, g, h1, rfl, h3⟩
    · exact .nil
    · intro b1 o1 n1 g1 b2 o2 n2 g2 q1 q2 e
      injection q1 with q1 _ _ _
      subst q1; subst e; subst q2
      rcases e6 b g rfl with h | h | ⟨g', h⟩
      · exact ha _ _ _ _ _ _ _ _ h rfl rfl
      · rcases hz with ⟨hz, _⟩ | ⟨b', g', _, hz, h4⟩
        · simp [nilS] at hz
        · injection hz with hz _ _ _
          subst hz
          have := lt_of_get h4
          omega
      · exact ha _ _ _ _ _ _ _ _ h rfl rfl

/-! ### joins and loops -/
def gh0 (I : AH → Prop) : AH → Prop := fun H => KN.gh 0 I H
def gh1 (I : AV → AH → Prop) : AV → AH → Prop := fun x H => KN.gh 1 I x H
def gh2 (I : AV → AV → AH → Prop) : AV → AV → AH → Prop := fun x y H => KN.gh 2 I x y H
def gh3 (I : AV → AV → AV → AH → Prop) : AV → AV → AV → AH → Prop := fun x y z H => KN.gh 3 I x y z H
def back1 (I : Nat → AV → AH → Prop) (m : Nat) : AV → AH → Prop := fun x H => ∃ m', m' < m ∧ gh1 (I m') x H
def back2 (I : Nat → AV → AV → AH → Prop) (m : Nat) : AV → AV → AH → Prop := fun x y H => ∃ m', m' < m ∧ gh2 (I m') x y H
def back3 (I : Nat → AV → AV → AV → AH → Prop) (m : Nat) : AV → AV → AV → AH → Prop := fun x y z H => ∃ m', m' < m ∧ gh3 (I m') x y z H

theorem gh0.of {I : AH → Prop} {H H' : AH} (hg : Ghost [] H [] H') (h : I H') : gh0 I H := ⟨[], H', rfl, hg, h⟩
theorem gh1.of {I : AV → AH → Prop} {x x' : AV} {H H' : AH} (hg : Ghost [x] H [x'] H') (h : I x' H') : gh1 I x H := ⟨[x'], H', rfl, hg, h⟩
theorem gh2.of {I : AV → AV → AH → Prop} {x y x' y' : AV} {H H' : AH} (hg : Ghost [x, y] H [x', y'] H') (h : I x' y' H') : gh2 I x y H := ⟨[x', y'], H', rfl, hg, h⟩
theorem gh3.of {I : AV → AV → AV → AH → Prop} {x y z x' y' z' : AV} {H H' : AH} (hg : Ghost [x, y, z] H [x', y', z'] H') (h : I x' y' z' H') : gh3 I x y z H := ⟨[x', y', z'], H', rfl, hg, h⟩
theorem gh0.mk {I : AH → Prop} {H : AH} (h : I H) : gh0 I H := gh0.of (.refl _ _) h
theorem gh1.mk {I : AV → AH → Prop} {x : AV} {H : AH} (h : I x H) : gh1 I x H := gh1.of (.refl _ _) h
theorem gh2.mk {I : AV → AV → AH → Prop} {x y : AV} {H : AH} (h : I x y H) : gh2 I x y H := gh2.of (.refl _ _) h
theorem gh3.mk {I : AV → AV → AV → AH → Prop} {x y z : AV} {H : AH} (h : I x y z H) : gh3 I x y z H := gh3.of (.refl _ _) h
theorem back1.of {I : Nat → AV → AH → Prop} {m m' : Nat} (hm : m' < m) {x x' : AV} {H H' : AH} (hg : Ghost [x] H [x'] H') (h : I m' x' H') : back1 I m x H := ⟨m', hm, gh1.of hg h⟩
theorem back2.of {I : Nat → AV → AV → AH → Prop} {m m' : Nat} (hm : m' < m) {x y x' y' : AV} {H H' : AH} (hg : Ghost [x, y] H [x', y'] H') (h : I m' x' y' H') : back2 I m x y H := ⟨m', hm, gh2.of hg h⟩
theorem back3.of {I : Nat → AV → AV → AV → AH → Prop} {m m' : Nat} (hm : m' < m) {x y z x' y' z' : AV} {H H' : AH} (hg : Ghost [x, y, z] H [x', y', z'] H') (h : I m' x' y' z' H') : back3 I m x y z H := ⟨m', hm, gh3.of hg h⟩
theorem back1.mk {I : Nat → AV → AH → Prop} {m m' : Nat} (hm : m' < m) {x : AV} {H : AH} (h : I m' x H) : back1 I m x H := back1.of hm (.refl _ _) h
theorem back2.mk {I : Nat → AV → AV → AH → Prop} {m m' : Nat} (hm : m' < m) {x y : AV} {H : AH} (h : I m' x y H) : back2 I m x y H := back2.of hm (.refl _ _) h
theorem back3.mk {I : Nat → AV → AV → AV → AH → Prop} {m m' : Nat} (hm : m' < m) {x y z : AV} {H : AH} (h : I m' x y z H) : back3 I m x y z H := back3.of hm (.refl _ _) h
theorem wLoop.one {init : KN 1 → Prop} {body : KN 1 → KN 1} (I : Nat → AV → AH → Prop) (m0 : Nat) (hi : init (gh1 (I m0))) (hb : ∀ m x H, I m x H → body (back1 I m) x H) : wLoop 1 init body := ⟨I, ⟨m0, hi⟩, hb⟩
theorem wLoop.two {init : KN 2 → Prop} {body : KN 2 → KN 2} (I : Nat → AV → AV → AH → Prop) (m0 : Nat) (hi : init (gh2 (I m0))) (hb : ∀ m x y H, I m x y H → body (back2 I m) x y H) : wLoop 2 init body := ⟨I, ⟨m0, hi⟩, hb⟩
theorem wLoop.three {init : KN 3 → Prop} {body : KN 3 → KN 3} (I : Nat → AV → AV → AV → AH → Prop) (m0 : Nat) (hi : init (gh3 (I m0))) (hb : ∀ m x y z H, I m x y z H → body (back3 I m) x y z H) : wLoop 3 init body := ⟨I, ⟨m0, hi⟩, hb⟩
theorem wJoin.nul {m : KN 0 → Prop} {k : KN 0} (J : AH → Prop) (hm : m (gh0 J)) (hk : ∀ H, J H → k H) : wJoin 0 m k := ⟨J, hm, hk⟩
theorem wJoin.one {m : KN 1 → Prop} {k : KN 1} (J : AV → AH → Prop) (hm : m (gh1 J)) (hk : ∀ x H, J x H → k x H) : wJoin 1 m k := ⟨J, hm, hk⟩
theorem wJoin.two {m : KN 2 → Prop} {k : KN 2} (J : AV → AV → AH → Prop) (hm : m (gh2 J)) (hk : ∀ x y H, J x y H → k x y H) : wJoin 2 m k := ⟨J, hm, hk⟩
theorem wJoin.three {m : KN 3 → Prop} {k : KN 3} (J : AV → AV → AV → AH → Prop) (hm : m (gh3 J)) (hk : ∀ x y z H, J x y z H → k x y z H) : wJoin 3 m k := ⟨J, hm, hk⟩

/-! ### calls -/
section
variable {E : Env} {P : Program}
theorem FC.of' {k : Nat} {args : List AV} {R0 : AV → Prop} (h : ∀ n (R : Kt), (∀ r r' H, Fz H 0 [] r r' → R0 r' → R r H) → ACalls E P k args ⟨[], n⟩ R) : FC E P k args R0 :=
  FC.of fun n => h n _ fun _ r' _ h1 h2 => ⟨r', h1, h2⟩
theorem wCall.lift {k : Nat} {args : List AV} {R0 : AV → Prop} {H : AH} {K : Kt} (h : FC E P k args R0) (ha : AV.closedL args) (hr : ∀ r, R0 r → r.closed) (hK : ∀ r, R0 r → K r H) : wCall E P k args H K :=
  ⟨_, h.lift ha hr H, fun r _ ⟨h1, h2⟩ => h2 ▸ hK r h1⟩
theorem wCall.borrow {k : Nat} {args args' : List AV} {R0 : AV → Prop} {H : AH} {K : Kt} (h : FC E P k args' R0) (ha : FzL H 0 [] args args') (hr : ∀ r, R0 r → r.flat) (hK : ∀ r, R0 r → K r H) : wCall E P k args H K :=
  ⟨_, h.borrow ha hr, fun r _ ⟨h1, h2⟩ => h2 ▸ hK r h1⟩
theorem wCallV.lift {k : Nat} {fs args cs : List AV} {R0 : AV → Prop} {H : AH} {K : Kt} (h : FC E P k (fs ++ args ++ cs) R0) (ha : AV.closedL (fs ++ args ++ cs)) (hr : ∀ r, R0 r → r.closed) (hK : ∀ r, R0 r → K r H) : wCallV E P (.fn k fs cs) args H K :=
  ⟨k, fs, cs, rfl, _, h.lift ha hr H, fun r _ ⟨h1, h2⟩ => h2 ▸ hK r h1⟩
end

theorem store1_L {H : AH} {b o g sz : Nat} {cs : List AV} {x : AV} (h : H.bs[b]? = some (.cells g sz cs)) (hx : x.scalar = true) (ho : o < cs.length) : store1 (.ptrL b o g) x H = some ⟨H.bs.set b (.cells g sz (cs.set o x)), H.ctr⟩ := by
  simp [store1, AH.cells_eq h, AH.set, h, hx, ho]
theorem storeN_L {H : AH} {b o g sz n : Nat} {cs xs cs' : List AV} (h : H.bs[b]? = some (.cells g sz cs)) (hn : xs.length = n) (hx : xs.all AV.scalar = true) (hp : putL cs o xs = some cs') : storeN n (.ptrL b o g) (.agg xs) H = some ⟨H.bs.set b (.cells g sz cs'), H.ctr⟩ := by
  simp only [storeN]
  rw [if_pos ⟨hn, hx⟩]
  simp [AH.cells_eq h, AH.set, h, hp]
theorem Own.setLow {H : AH} {n0 : Nat} {x : AV} {l : List AV} (h : Own H n0 x l) {b c : Nat} (hb : b < n0) (v : Blk) : Own ⟨H.bs.set b v, c⟩ n0 x l := by
  rcases h with h | ⟨b', g, h1, h2, h3⟩
  · exact .inl h
  · exact .inr ⟨b', g, h1, h2, by simp only; rw [List.getElem?_set_ne (by omega)]; exact h3⟩
theorem Own.scalar {H : AH} {n0 : Nat} {x : AV} {l : List AV} (h : Own H n0 x l) : x.scalar = true := by
  rcases h with ⟨rfl, _⟩ | ⟨_, _, _, rfl, _⟩ <;> rfl
theorem Sl.scalar {x : AV} {l : List AV} (h : Sl x l) : x.scalar = true := by
  rcases h with ⟨rfl, _⟩ | rfl <;> rfl
theorem fill_one {z y : AV} (hy : y.scalar = true) : fillA (List.replicate 1 [z]).flatten [(0, 1, y)] = some [y] := by
  cases y <;> simp [AV.scalar] at hy <;> try rfl
  rename_i v
  cases v <;> simp at hy <;> rfl
theorem own_get {H : AH} {x : AV} {g : Nat} : ∀ {b : Nat}, H.bs[b]? = some (.cells g 1 [x]) → cellsOfA 1 (.slL b 0 1 g) H = some (1, [x]) := by
  intro b h
  simp [cellsOfA, AH.cells_eq h, subL]
theorem take_keep {H H' : AH} {n0 : Nat} (h : ∀ (j : Nat) v, H.bs[j]? = some v → j < n0 → H'.bs[j]? = some v) (h0 : n0 ≤ H.bs.length) : H'.bs.take n0 = H.bs.take n0 := by
  apply List.ext_getElem?
  intro j
  rw [List.getElem?_take, List.getElem?_take]
  split
  · rename_i hj
    have hj' : j < H.bs.length := by omega
    rw [h j _ (List.getElem?_eq_getElem hj') hj, List.getElem?_eq_getElem hj']
  · rfl
theorem Ext.take {H H' : AH} (h : Ext H H') {n0 : Nat} (h0 : n0 ≤ H.bs.length) : H'.bs.take n0 = H.bs.take n0 := take_keep (fun j v hv _ => h.1 j v hv) h0
theorem take_le {H : AH} {n0 : Nat} {l : List Blk} (h : H.bs.take n0 = l) (hl : l.length = n0) : n0 ≤ H.bs.length := by
  have := congrArg List.length h
  simp at this; omega
theorem wCall.freeze {E : Env} {P : Program} {k : Nat} {args args' : List AV} {R0 : AV → Prop} {H H' : AH} {K : Kt} (hg : Ghost args H args' H') (h : FC E P k args' R0) (ha : AV.closedL args') (hr : ∀ r, R0 r → r.closed) (hK : ∀ r, R0 r → K r H') : wCall E P k args H K :=
  ⟨_, ACalls.args hg (h.lift ha hr H'), fun r _ ⟨h1, h2⟩ => h2 ▸ hK r h1⟩
theorem Own.live {H : AH} {n0 : Nat} {x : AV} {l : List AV} (h : Own H n0 x l) (hl : l ≠ []) : ∃ b g, n0 ≤ b ∧ x = .slL b 0 l.length g ∧ H.bs[b]? = some (.cells g 1 l) := by
  rcases h with ⟨_, rfl⟩ | h
  · exact absurd rfl hl
  · exact h
theorem FzL.append {H : AH} {n0 : Nat} {mv : List Nat} : ∀ {xs xs' ys ys' : List AV}, FzL H n0 mv xs xs' → FzL H n0 mv ys ys' → FzL H n0 mv (xs ++ ys) (xs' ++ ys')
  | _, _, _, _, .nil, h => h
  | _, _, _, _, .cons h1 h2, h => .cons h1 (FzL.append h2 h)

/-- a slice that grew, frozen -/
theorem Own.frozen {H : AH} {n0 m0 : Nat} {mv : List Nat} {x : AV} {l l' : List AV} (h : Own H n0 x l) (hm : m0 ≤ n0) (hmv : ∀ b ∈ mv, ∀ g, x ≠ .slL b 0 l.length g) (hl : FzL H m0 mv l l') : ∃ x', Fz H m0 mv x x' ∧ Sl x' l' := by
  have hlen : l'.length = l.length := by
    clear h hmv
    induction hl with
    | nil => rfl
    | cons _ _ ih => simp [ih]
  rcases h with ⟨rfl, rfl⟩ | ⟨b, g, hge, rfl, hb⟩
  · have : l' = [] := List.eq_nil_of_length_eq_zero hlen
    exact ⟨nilS, .same _, .inl ⟨rfl, this⟩⟩
  · refine ⟨.slF l' 0 l.length, .slF l.length hb (by omega) (fun hx => hmv b hx g rfl) (by simpa using hl), .inr ?_⟩
    rw [hlen]
end Go.Sb
