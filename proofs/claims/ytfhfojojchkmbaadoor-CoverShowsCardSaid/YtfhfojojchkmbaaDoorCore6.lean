/- EXPRESSIONS, AND HOW TEXTS ARE READ AS EXPRESSIONS: plain. CONTRACTS: bytes and runes in texts; how package expr's reader reads blanks, signs and names. CONTRACTS: package expr: how a text is read as an expression. CONTRACTS: package signalboxref: how a text is read as an expression. CONTRACTS: package signalboxref: a whole expression. ARGUMENTS AS ABSTRACT VALUES: what a call is given lies in memory that the call does not write: frozen. DECODING: what arguments are, by their types, with their sizes; and variables that are known. A CONTRACT OUT OF A WALK OF THE KIT's OWN: a call that leaves all old memory as it was, and answers without memory. CONTRACTS: errors taken apart: plain.Place. CONTRACTS: package signalboxref: expressions are read. CONTRACTS: how expressions are written. CONTRACTS: lists of numbers are compared, searched, copied. (of the seat YtfhfojojchkmbaaDoor) -/
import Derived.Test.YtfhfojojchkmbaaDoorCore5
import Derived.Below
import Derived.ChangeArms
import Derived.SizedLaws
import Derived.WideShapes
import Derived.OpenShut
import Derived.LaidSub
namespace Go.Sc
open Go
set_option linter.unusedSimpArgs false
set_option linter.unusedVariables false
inductive Ex where
  | k (b : Bool)
  | bit (s : Str)
  | rise (s : Str)
  | fall (s : Str)
  | not (x : Ex)
  | and (l : List Ex)
  | or (l : List Ex)
  deriving Inhabited
inductive Rs (α : Type) where
  | ok (x : α) (i : Nat)
  | no (e p : Nat)

/-! ### what is read -/
def skipTo (s : Str) (i : Nat) : Nat := i + ((s.drop i).takeWhile (· == 32)).length
theorem skipTo_le (s : Str) (i : Nat) : i ≤ skipTo s i := by unfold skipTo; omega
theorem skipTo_len {s : Str} {i : Nat} (h : i ≤ s.length) : skipTo s i ≤ s.length := by
  have h1 := List.IsPrefix.length_le (List.takeWhile_prefix (fun c : UInt8 => c == 32) (l := s.drop i))
  rw [List.length_drop] at h1
  unfold skipTo; omega
theorem skipTo_step {s : Str} {i : Nat} (h : s[i]? = some 32) : skipTo s i = skipTo s (i + 1) := by
  have hl := lt_of_get h
  rw [List.getElem?_eq_getElem hl] at h
  injection h with h
  unfold skipTo
  rw [List.drop_eq_getElem_cons hl, h, List.takeWhile_cons]
  simp; omega
theorem skipTo_stop {s : Str} {i : Nat} (h : s[i]? ≠ some 32) : skipTo s i = i := by
  unfold skipTo
  by_cases hl : i < s.length
  · rw [List.getElem?_eq_getElem hl] at h
    rw [List.drop_eq_getElem_cons hl, List.takeWhile_cons]
    have : ¬ s[i] = 32 := fun e => h (by rw [e])
    simp [this]
  · rw [List.drop_eq_nil_of_le (by omega)]; simp
theorem skipTo_at (s : Str) (i : Nat) : s[skipTo s i]? ≠ some 32 := by
  generalize hn : s.length - i = n
  induction n generalizing i with
  | zero =>
    have : skipTo s i = i := skipTo_stop (by rw [List.getElem?_eq_none (by omega)]; simp)
    rw [this, List.getElem?_eq_none (by omega)]; simp
  | succ n ih =>
    by_cases h : s[i]? = some 32
    · rw [skipTo_step h]; exact ih _ (by omega)
    · rw [skipTo_stop h]; exact h
theorem skipTo_idem (s : Str) (i : Nat) : skipTo s (skipTo s i) = skipTo s i := skipTo_stop (skipTo_at s i)

def stop9 : Str := [32, 38, 124, 33, 94, 126, 40, 41, 61]
def stop11 : Str := [32, 38, 124, 33, 94, 126, 40, 41, 48, 49, 61]
/-- does a word that begins at i go on at k? -/
def wc (s : Str) (i k : Nat) : Bool := match s[k]? with
  | none => false
  | some c => !decide (c ∈ stop9) && (decide (i < k) || (!decide (c = 48) && !decide (c = 49)))
theorem wc_lt {s : Str} {i k : Nat} (h : wc s i k = true) : k < s.length := by
  unfold wc at h
  split at h
  · cases h
  · rename_i h1; exact lt_of_get h1
def wEnd (s : Str) (i k : Nat) : Nat := if h : wc s i k = true then wEnd s i (k + 1) else k
termination_by s.length - k
decreasing_by have := wc_lt h; omega
theorem wEnd_step {s : Str} {i k : Nat} (h : wc s i k = true) : wEnd s i k = wEnd s i (k + 1) := by rw [wEnd, dif_pos h]
theorem wEnd_stop {s : Str} {i k : Nat} (h : wc s i k = false) : wEnd s i k = k := by rw [wEnd, dif_neg (by rw [h]; simp)]
theorem wEnd_ge (s : Str) (i k : Nat) : k ≤ wEnd s i k := by
  generalize hn : s.length - k = n
  induction n generalizing k with
  | zero =>
    have : wc s i k = false := by
      cases h : wc s i k
      · rfl
      · have := wc_lt h; omega
    rw [wEnd_stop this]; exact Nat.le_refl _
  | succ n ih =>
    cases h : wc s i k with
    | false => rw [wEnd_stop h]; exact Nat.le_refl _
    | true => rw [wEnd_step h]; have := ih (k + 1) (by omega); omega
theorem wEnd_len {s : Str} {i k : Nat} (hk : k ≤ s.length) : wEnd s i k ≤ s.length := by
  generalize hn : s.length - k = n
  induction n generalizing k with
  | zero =>
    have : wc s i k = false := by
      cases h : wc s i k
      · rfl
      · have := wc_lt h; omega
    rw [wEnd_stop this]; exact hk
  | succ n ih =>
    cases h : wc s i k with
    | false => rw [wEnd_stop h]; exact hk
    | true => rw [wEnd_step h]; exact ih (by have := wc_lt h; omega) (by omega)
def wordAt (s : Str) (i : Nat) : Str := (s.take (wEnd s i i)).drop i
/-- a name -/
def wordR (s : Str) (i : Nat) : Rs Str :=
  if wordAt s (skipTo s i) = [] then .no 3 (skipTo s i) else if nameOk (wordAt s (skipTo s i)) = false then .no 5 (skipTo s i) else .ok (wordAt s (skipTo s i)) (wEnd s (skipTo s i) (skipTo s i))

/-- parts with a sign between -/
def rowR (s : Str) (c : UInt8) (f : Nat → Rs Ex) : Nat → Nat → List Ex → Rs (List Ex)
  | 0, i, _ => .no 3 i
  | n + 1, i, l => match f i with
    | .no e p => .no e p
    | .ok x j => if s[skipTo s j]? = some c then rowR s c f n (skipTo s j + 1) (l ++ [x]) else .ok (l ++ [x]) (skipTo s j)
def foldR (mk : List Ex → Ex) : List Ex → Ex
  | [x] => x
  | l => mk l
def allR (s : Str) (c : UInt8) (mk : List Ex → Ex) (f : Nat → Rs Ex) (i : Nat) : Rs Ex := match rowR s c f (s.length + 1) i [] with
  | .ok l j => .ok (foldR mk l) j
  | .no e p => .no e p
def andR (s : Str) (f : Nat → Rs Ex) : Nat → Rs Ex := allR s 38 .and f
def orR (s : Str) (f : Nat → Rs Ex) : Nat → Rs Ex := allR s 124 .or (andR s f)
def Rs.map {α β : Type} (g : α → β) : Rs α → Rs β
  | .ok x j => .ok (g x) j
  | .no e p => .no e p
def closeR (s : Str) : Rs Ex → Rs Ex
  | .ok x j => if s[skipTo s j]? = some 41 then .ok x (skipTo s j + 1) else .no 3 (skipTo s j)
  | .no e p => .no e p
/-- a contact, or what stands in parentheses -/
def oneR (s : Str) : Nat → Nat → Rs Ex
  | 0, i => .no 4 (skipTo s i)
  | d + 1, i =>
    if s[skipTo s i]? = some 33 then (oneR s d (skipTo s i + 1)).map .not
    else if s[skipTo s i]? = some 40 then closeR s (orR s (oneR s d) (skipTo s i + 1))
    else if s[skipTo s i]? = some 48 then .ok (.k false) (skipTo s i + 1)
    else if s[skipTo s i]? = some 49 then .ok (.k true) (skipTo s i + 1)
    else if s[skipTo s i]? = some 94 then (wordR s (skipTo s i + 1)).map .rise
    else if s[skipTo s i]? = some 126 then (wordR s (skipTo s i + 1)).map .fall
    else (wordR s (skipTo s i)).map .bit
/-- a whole expression: its error without a place is `inl` -/
def parseR (s : Str) : Rs Ex := match orR s (oneR s 20) 0 with
  | .no e p => .no e p
  | .ok x j => if skipTo s j < s.length then .no 3 (skipTo s j) else .ok x (skipTo s j)

/-! ### how great it is -/
mutual
def Ex.wt : Ex → Nat
  | .k _ => 1
  | .bit s => s.length
  | .rise s => s.length + 1
  | .fall s => s.length + 1
  | .not x => x.wt + 1
  | .and l => Ex.wtL l + 3 * l.length + 2
  | .or l => Ex.wtL l + 3 * l.length + 2
def Ex.wtL : List Ex → Nat
  | [] => 0
  | x :: l => x.wt + Ex.wtL l
end
/- names may be, and there are two parts or more -/
mutual
def Ex.fine : Ex → Prop
  | .k _ => True
  | .bit s => nameOk s = true
  | .rise s => nameOk s = true
  | .fall s => nameOk s = true
  | .not x => x.fine
  | .and l => 2 ≤ l.length ∧ Ex.fineL l
  | .or l => 2 ≤ l.length ∧ Ex.fineL l
def Ex.fineL : List Ex → Prop
  | [] => True
  | x :: l => x.fine ∧ Ex.fineL l
end
/-- what a reader comes to: on, and not too great -/
def GoodR (s : Str) (f : Nat → Rs Ex) : Prop := ∀ i x j, i ≤ s.length → f i = .ok x j → i ≤ j ∧ j ≤ s.length ∧ x.wt ≤ 8 * (j - i) ∧ x.fine
theorem wordR_good {s w : Str} {i j : Nat} (hi : i ≤ s.length) (h : wordR s i = .ok w j) : i ≤ j ∧ j ≤ s.length ∧ w.length ≤ j - i ∧ nameOk w = true := by
  unfold wordR at h
  split at h
  · cases h
  split at h
  · cases h
  · rename_i h1 h2
    injection h with h3 h4
    subst h3 h4
    have a1 := skipTo_le s i
    have a2 := skipTo_len hi
    have a3 := wEnd_ge s (skipTo s i) (skipTo s i)
    have a4 := wEnd_len (i := skipTo s i) a2
    refine ⟨by omega, a4, ?_, by simpa using h2⟩
    simp only [wordAt, List.length_drop, List.length_take]
    omega
theorem rowR_good {s : Str} {c : UInt8} {f : Nat → Rs Ex} (hf : GoodR s f) : ∀ (n i : Nat) (l : List Ex) {l' : List Ex} {j : Nat}, i ≤ s.length → rowR s c f n i l = .ok l' j →
    ∃ l1, l' = l ++ l1 ∧ l1 ≠ [] ∧ i ≤ j ∧ j ≤ s.length ∧ Ex.wtL l1 + 8 * (l1.length - 1) ≤ 8 * (j - i) ∧ Ex.fineL l1
  | 0, i, l, l', j, hi, h => by simp [rowR] at h
  | n + 1, i, l, l', j, hi, h => by
    unfold rowR at h
    split at h
    · cases h
    · rename_i x k hx
      obtain ⟨a1, a2, a3, a4⟩ := hf i x k hi hx
      have b1 := skipTo_le s k
      have b2 := skipTo_len a2
      split at h
      · rename_i hc
        have hlt := lt_of_get hc
        obtain ⟨l1, rfl, c1, c2, c3, c4, c5⟩ := rowR_good hf n (skipTo s k + 1) (l ++ [x]) (by omega) h
        refine ⟨x :: l1, by simp, by simp, by omega, c3, ?_, by simp only [Ex.fineL]; exact ⟨a4, c5⟩⟩
        have : 0 < l1.length := List.length_pos_iff.2 c1
        simp only [Ex.wtL, List.length_cons]
        omega
      · injection h with h1 h2
        subst h1 h2
        exact ⟨[x], rfl, by simp, by omega, b2, by simp [Ex.wtL]; omega, by simp [Ex.fineL, a4]⟩
theorem allR_good {s : Str} {c : UInt8} {mk : List Ex → Ex} {f : Nat → Rs Ex} (hm : ∀ l, (mk l).wt = Ex.wtL l + 3 * l.length + 2) (hm2 : ∀ l, 2 ≤ l.length → Ex.fineL l → (mk l).fine) (hf : GoodR s f) : GoodR s (allR s c mk f) := by
  intro i x j hi h
  unfold allR at h
  split at h
  · rename_i l k hl
    injection h with h1 h2
    subst h1 h2
    obtain ⟨l1, rfl, c1, c2, c3, c4, c5⟩ := rowR_good hf _ _ _ hi hl
    refine ⟨c2, c3, ?_⟩
    cases l with
    | nil => exact absurd rfl c1
    | cons y l2 =>
      cases l2 with
      | nil => exact ⟨by simpa [foldR, Ex.wtL] using c4, by simpa [foldR, Ex.fineL] using c5⟩
      | cons z l3 =>
        refine ⟨?_, hm2 _ (by simp) c5⟩
        show (mk (y :: z :: l3)).wt ≤ _
        rw [hm]
        simp only [List.length_cons] at c4 ⊢
        omega
  · cases h
theorem andR_good {s : Str} {f : Nat → Rs Ex} (hf : GoodR s f) : GoodR s (andR s f) := allR_good (fun _ => rfl) (fun _ h1 h2 => ⟨h1, h2⟩) hf
theorem orR_good {s : Str} {f : Nat → Rs Ex} (hf : GoodR s f) : GoodR s (orR s f) := allR_good (fun _ => rfl) (fun _ h1 h2 => ⟨h1, h2⟩) (andR_good hf)
theorem map_ok {α β : Type} {g : α → β} {r : Rs α} {y : β} {j : Nat} (h : r.map g = .ok y j) : ∃ x, r = .ok x j ∧ y = g x := by
  cases r with
  | ok x k => injection h with h1 h2; subst h1 h2; exact ⟨x, rfl, rfl⟩
  | no e p => cases h
theorem oneR_good (s : Str) : ∀ d, GoodR s (oneR s d)
  | 0, i, x, j, hi, h => by simp [oneR] at h
  | d + 1, i, x, j, hi, h => by
    have ih := oneR_good s d
    have b1 := skipTo_le s i
    have b2 := skipTo_len hi
    unfold oneR at h
    split at h
    · rename_i hc
      have hlt := lt_of_get hc
      obtain ⟨y, hy, rfl⟩ := map_ok h
      obtain ⟨a1, a2, a3, a4⟩ := ih _ _ _ (by omega) hy
      exact ⟨by omega, a2, by simp only [Ex.wt]; omega, a4⟩
    split at h
    · rename_i hc
      have hlt := lt_of_get hc
      cases ho : orR s (oneR s d) (skipTo s i + 1) with
      | no e p => rw [ho] at h; cases h
      | ok y k =>
        rw [ho] at h
        obtain ⟨a1, a2, a3, a4⟩ := orR_good ih _ _ _ (by omega) ho
        simp only [closeR] at h
        split at h
        · rename_i hc2
          have hlt2 := lt_of_get hc2
          have := skipTo_le s k
          injection h with h1 h2
          subst h1 h2
          exact ⟨by omega, by omega, by omega, a4⟩
        · cases h
    split at h
    · rename_i hc
      have hlt := lt_of_get hc
      injection h with h1 h2
      subst h1 h2
      exact ⟨by omega, by omega, by simp only [Ex.wt]; omega, trivial⟩
    split at h
    · rename_i hc
      have hlt := lt_of_get hc
      injection h with h1 h2
      subst h1 h2
      exact ⟨by omega, by omega, by simp only [Ex.wt]; omega, trivial⟩
    split at h
    · rename_i hc
      have hlt := lt_of_get hc
      obtain ⟨y, hy, rfl⟩ := map_ok h
      obtain ⟨a1, a2, a3, a4⟩ := wordR_good (by omega) hy
      exact ⟨by omega, a2, by simp only [Ex.wt]; omega, a4⟩
    split at h
    · rename_i hc
      have hlt := lt_of_get hc
      obtain ⟨y, hy, rfl⟩ := map_ok h
      obtain ⟨a1, a2, a3, a4⟩ := wordR_good (by omega) hy
      exact ⟨by omega, a2, by simp only [Ex.wt]; omega, a4⟩
    · obtain ⟨y, hy, rfl⟩ := map_ok h
      obtain ⟨a1, a2, a3, a4⟩ := wordR_good b2 hy
      exact ⟨by omega, a2, by simp only [Ex.wt]; omega, a4⟩
theorem parseR_good {s : Str} {x : Ex} {j : Nat} (h : parseR s = .ok x j) : x.wt ≤ 8 * s.length ∧ x.fine := by
  unfold parseR at h
  split at h
  · cases h
  · rename_i y k hy
    obtain ⟨a1, a2, a3, a4⟩ := orR_good (oneR_good s 20) 0 y k (by omega) hy
    split at h
    · cases h
    · injection h with h1 _
      subst h1
      exact ⟨by omega, a4⟩
/-! ### how it is written -/
def joinS (sep : Str) : List Str → Str
  | [] => []
  | [x] => x
  | x :: y :: l => x ++ sep ++ joinS sep (y :: l)
def around (b : Bool) (t : Str) : Str := if b then 40 :: t ++ [41] else t
mutual
def Ex.wr : Nat → Ex → Str
  | _, .k b => if b then [49] else [48]
  | _, .bit s => s
  | _, .rise s => 94 :: s
  | _, .fall s => 126 :: s
  | _, .not x => 33 :: Ex.wr 2 x
  | st, .and l => around (decide (2 ≤ st)) (joinS [32, 38, 32] (Ex.wrL 2 l))
  | st, .or l => around (decide (1 ≤ st)) (joinS [32, 124, 32] (Ex.wrL 1 l))
def Ex.wrL : Nat → List Ex → List Str
  | _, [] => []
  | st, x :: l => Ex.wr st x :: Ex.wrL st l
end
theorem Ex.wrL_map (st : Nat) : ∀ l : List Ex, Ex.wrL st l = l.map (Ex.wr st)
  | [] => rfl
  | x :: l => by simp [Ex.wrL, Ex.wrL_map st l]
/-! ### as values -/
mutual
/-- the program's -/
def Ex.enc : Ex → AV
  | .k b => .ifc 11 (Bo b)
  | .bit s => .ifc 14 (S s)
  | .rise s => .ifc 12 (S s)
  | .fall s => .ifc 13 (S s)
  | .not x => .ifc 10 (.agg [x.enc])
  | .and l => .ifc 9 (.slN (Ex.encL l) l.length)
  | .or l => .ifc 8 (.slN (Ex.encL l) l.length)
def Ex.encL : List Ex → List AV
  | [] => []
  | x :: l => x.enc :: Ex.encL l
end
mutual
/-- the document's -/
def Ex.ref : Ex → AV
  | .k b => .ptrF [S (if b then [49] else [48]), S [], nilS] 0
  | .bit s => .ptrF [S [98, 105, 116], S s, nilS] 0
  | .rise s => .ptrF [S [94], S s, nilS] 0
  | .fall s => .ptrF [S [126], S s, nilS] 0
  | .not x => .ptrF [S [33], S [], .slN [x.ref] 1] 0
  | .and l => .ptrF [S [38], S [], .slN (Ex.refL l) l.length] 0
  | .or l => .ptrF [S [124], S [], .slN (Ex.refL l) l.length] 0
def Ex.refL : List Ex → List AV
  | [] => []
  | x :: l => x.ref :: Ex.refL l
end
theorem Ex.encL_map : ∀ l : List Ex, Ex.encL l = l.map Ex.enc
  | [] => rfl
  | x :: l => by simp [Ex.encL, Ex.encL_map l]
mutual
theorem Ex.enc_closed : ∀ x : Ex, x.enc.closed
  | .k _ => trivial
  | .bit _ => trivial
  | .rise _ => trivial
  | .fall _ => trivial
  | .not x => by simp only [Ex.enc, AV.closed, AV.closedL]; exact ⟨Ex.enc_closed x, trivial⟩
  | .and l => Ex.encL_closed l
  | .or l => Ex.encL_closed l
theorem Ex.encL_closed : ∀ l : List Ex, AV.closedL (Ex.encL l)
  | [] => trivial
  | x :: l => ⟨Ex.enc_closed x, Ex.encL_closed l⟩
end
mutual
theorem Ex.ref_closed : ∀ x : Ex, x.ref.closed
  | .k _ => ⟨trivial, trivial, trivial, trivial⟩
  | .bit _ => ⟨trivial, trivial, trivial, trivial⟩
  | .rise _ => ⟨trivial, trivial, trivial, trivial⟩
  | .fall _ => ⟨trivial, trivial, trivial, trivial⟩
  | .not x => by simp only [Ex.ref, AV.closed, AV.closedL]; exact ⟨trivial, trivial, ⟨Ex.ref_closed x, trivial⟩, trivial⟩
  | .and l => ⟨trivial, trivial, Ex.refL_closed l, trivial⟩
  | .or l => ⟨trivial, trivial, Ex.refL_closed l, trivial⟩
theorem Ex.refL_closed : ∀ l : List Ex, AV.closedL (Ex.refL l)
  | [] => trivial
  | x :: l => ⟨Ex.ref_closed x, Ex.refL_closed l⟩
end
theorem Ex.enc_scalar (x : Ex) : x.enc.scalar = true := by cases x <;> rfl
end Go.Sc
namespace Go.Sc.F
open Go Go.Sc
set_option linter.unusedVariables false
/-- signalbox/expr.Parse -/
def expr_Parse (E : Env) (P : Program) (a0 : AV) (H : AH) (R : Kt) : Prop :=
  wGet (lenS a0) H fun t8 H =>
  wGet (binA .gtr t8 (.val (.int .i64 2000))) H fun t9 H =>
  wIf t9 (
    R (.tup [(.val (.nilIface)), (.ifc 1 (.val (.int .i64 4)))]) H) (
    wAgg (fillA [(.val (.string ⟨#[]⟩)), (.val (.int .i64 0))] [(0, 1, a0)]) H fun t12 H =>
    wNew 2 (AV.cells? t12) H fun t13 H =>
    wCall E P 133 [t13, (.val (.int .i64 20))] H fun t16 H =>
    wGet (extractA t16 0) H fun t17 H =>
    wGet (extractA t16 1) H fun t18 H =>
    wBool (eqA .iface t18 (.val (.nilIface))) H true fun t20 H =>
    wIf t20 (
      R (.tup [(.val (.nilIface)), t18]) H) (
      wCall E P 134 [t13] H fun t23 H =>
      wGet (nilA t13) H fun t25 H =>
      wGet (faddr 1 t25) H fun t26 H =>
      wGet (load1 t26 H) H fun t27 H =>
      wGet (lenS a0) H fun t29 H =>
      wGet (binA .lss t27 t29) H fun t30 H =>
      wIf t30 (
        wCall E P 135 [t13, (.val (.int .i64 3))] H fun t32 H =>
        R (.tup [(.val (.nilIface)), t32]) H) (
        R (.tup [t17, (.val (.nilIface))]) H)))

/-- (*signalbox/expr.reader).or -/
def pexpr_reader_or (E : Env) (P : Program) (a0 a1 : AV) (H : AH) (R : Kt) : Prop :=
  wCall E P 140 [a0, (.val (.int .u8 124)), a1, (.fn 139 [a0] [])] H fun t13 H =>
  wGet (extractA t13 0) H fun t14 H =>
  wGet (extractA t13 1) H fun t15 H =>
  wBool (eqA .iface t15 (.val (.nilIface))) H true fun t17 H =>
  wIf t17 (
    R (.tup [(.val (.nilIface)), t15]) H) (
    wGet (lenA t14) H fun t20 H =>
    wGet (binA .eql t20 (.val (.int .i64 1))) H fun t21 H =>
    wIf t21 (
      wGet (iaddr 1 t14 (.val (.int .i64 0))) H fun t23 H =>
      wGet (load1 t23 H) H fun t24 H =>
      R (.tup [t24, (.val (.nilIface))]) H) (
      R (.tup [(.ifc 8 t14), (.val (.nilIface))]) H))

/-- (*signalbox/expr.reader).blanks -/
def pexpr_reader_blanks (E : Env) (P : Program) (a0 : AV) (H : AH) (R : Kt) : Prop :=
  wLoop 0 (fun I1 => I1 H) fun I1 H =>
    wGet (nilA a0) H fun t3 H =>
    wGet (faddr 1 t3) H fun t4 H =>
    wGet (load1 t4 H) H fun t5 H =>
    wGet (nilA a0) H fun t7 H =>
    wGet (faddr 0 t7) H fun t8 H =>
    wGet (load1 t8 H) H fun t9 H =>
    wGet (lenS t9) H fun t10 H =>
    wGet (binA .lss t5 t10) H fun t11 H =>
    wGuard t11 true H (fun k => k a0 H) fun t13 H =>
    wGuard t11 true H (fun k => wGet (nilA t13) H k) fun t14 H =>
    wGuard t11 true H (fun k => wGet (faddr 0 t14) H k) fun t15 H =>
    wGuard t11 true H (fun k => wGet (load1 t15 H) H k) fun t16 H =>
    wGuard t11 true H (fun k => k a0 H) fun t17 H =>
    wGuard t11 true H (fun k => wGet (nilA t17) H k) fun t18 H =>
    wGuard t11 true H (fun k => wGet (faddr 1 t18) H k) fun t19 H =>
    wGuard t11 true H (fun k => wGet (load1 t19 H) H k) fun t20 H =>
    wGuard t11 true H (fun k => wGet (idxStr t16 t20) H k) fun t21 H =>
    wGuard t11 true H (fun k => wGet (binA .eql t21 (.val (.int .u8 32))) H k) fun t22 H =>
    wGet (pickA t11 t22 (.val (.bool false))) H fun t23 H =>
    wIf t23 (
      wGet (nilA a0) H fun t25 H =>
      wGet (faddr 1 t25) H fun t26 H =>
      wGet (load1 t26 H) H fun t27 H =>
      wGet (binA .add t27 (.val (.int .i64 1))) H fun t28 H =>
      wGet (nilA a0) H fun t29 H =>
      wGet (faddr 1 t29) H fun t30 H =>
      wPut (store1 t30 t28 H) fun _u H =>
      I1 H) (
      R (.tup []) H)

/-- (*signalbox/expr.reader).fail -/
def pexpr_reader_fail (E : Env) (P : Program) (a0 a1 : AV) (H : AH) (R : Kt) : Prop :=
  wCall E P 134 [a0] H fun t6 H =>
  wGet (nilA a0) H fun t9 H =>
  wGet (faddr 1 t9) H fun t10 H =>
  wGet (load1 t10 H) H fun t11 H =>
  wAgg (fillA [(.val (.int .i64 0)), (.val (.int .i64 0))] [(0, 1, a1), (1, 1, t11)]) H fun t12 H =>
  wNew 2 (AV.cells? t12) H fun t13 H =>
  R (.ifc 2 t13) H

/-- (*signalbox/expr.reader).several -/
def pexpr_reader_several (E : Env) (P : Program) (a0 a1 a2 a3 : AV) (H : AH) (R : Kt) : Prop :=
  wLoop 1 (fun I1 => I1 (.val (.slice none 0 0)) H) fun I1 t10 H =>
    wCallV E P a3 [a2] H fun t16 H =>
    wGet (extractA t16 0) H fun t17 H =>
    wGet (extractA t16 1) H fun t18 H =>
    wBool (eqA .iface t18 (.val (.nilIface))) H true fun t20 H =>
    wIf t20 (
      R (.tup [(.val (.slice none 0 0)), t18]) H) (
      wNewS 1 1 (fillA (List.replicate 1 [(.val (.nilIface))]).flatten [(0, 1, t17)]) H fun t24 H =>
      wApp 1 16 t10 t24 H fun t25 H =>
      wCall E P 143 [a0, a1] H fun t28 H =>
      wGet (unA .not t28) H fun t29 H =>
      wIf t29 (
        R (.tup [t25, (.val (.nilIface))]) H) (
        I1 t25 H))

/-- (*signalbox/expr.reader).and -/
def pexpr_reader_and (E : Env) (P : Program) (a0 a1 : AV) (H : AH) (R : Kt) : Prop :=
  wCall E P 140 [a0, (.val (.int .u8 38)), a1, (.fn 144 [a0] [])] H fun t13 H =>
  wGet (extractA t13 0) H fun t14 H =>
  wGet (extractA t13 1) H fun t15 H =>
  wBool (eqA .iface t15 (.val (.nilIface))) H true fun t17 H =>
  wIf t17 (
    R (.tup [(.val (.nilIface)), t15]) H) (
    wGet (lenA t14) H fun t20 H =>
    wGet (binA .eql t20 (.val (.int .i64 1))) H fun t21 H =>
    wIf t21 (
      wGet (iaddr 1 t14 (.val (.int .i64 0))) H fun t23 H =>
      wGet (load1 t23 H) H fun t24 H =>
      R (.tup [t24, (.val (.nilIface))]) H) (
      R (.tup [(.ifc 9 t14), (.val (.nilIface))]) H))

/-- (*signalbox/expr.reader).take -/
def pexpr_reader_take (E : Env) (P : Program) (a0 a1 : AV) (H : AH) (R : Kt) : Prop :=
  wCall E P 134 [a0] H fun t6 H =>
  wGet (nilA a0) H fun t8 H =>
  wGet (faddr 1 t8) H fun t9 H =>
  wGet (load1 t9 H) H fun t10 H =>
  wGet (nilA a0) H fun t12 H =>
  wGet (faddr 0 t12) H fun t13 H =>
  wGet (load1 t13 H) H fun t14 H =>
  wGet (lenS t14) H fun t15 H =>
  wGet (binA .lss t10 t15) H fun t16 H =>
  wGuard t16 true H (fun k => k a0 H) fun t18 H =>
  wGuard t16 true H (fun k => wGet (nilA t18) H k) fun t19 H =>
  wGuard t16 true H (fun k => wGet (faddr 0 t19) H k) fun t20 H =>
  wGuard t16 true H (fun k => wGet (load1 t20 H) H k) fun t21 H =>
  wGuard t16 true H (fun k => k a0 H) fun t22 H =>
  wGuard t16 true H (fun k => wGet (nilA t22) H k) fun t23 H =>
  wGuard t16 true H (fun k => wGet (faddr 1 t23) H k) fun t24 H =>
  wGuard t16 true H (fun k => wGet (load1 t24 H) H k) fun t25 H =>
  wGuard t16 true H (fun k => wGet (idxStr t21 t25) H k) fun t26 H =>
  wGuard t16 true H (fun k => k a1 H) fun t27 H =>
  wGuard t16 true H (fun k => wGet (binA .eql t26 t27) H k) fun t28 H =>
  wGet (pickA t16 t28 (.val (.bool false))) H fun t29 H =>
  wIf t29 (
    wGet (nilA a0) H fun t31 H =>
    wGet (faddr 1 t31) H fun t32 H =>
    wGet (load1 t32 H) H fun t33 H =>
    wGet (binA .add t33 (.val (.int .i64 1))) H fun t34 H =>
    wGet (nilA a0) H fun t35 H =>
    wGet (faddr 1 t35) H fun t36 H =>
    wPut (store1 t36 t34 H) fun _u H =>
    R (.val (.bool true)) H) (
    R (.val (.bool false)) H)

/-- (*signalbox/expr.reader).one -/
def pexpr_reader_one (E : Env) (P : Program) (a0 a1 : AV) (H : AH) (R : Kt) : Prop :=
  wGet (binA .eql a1 (.val (.int .i64 0))) H fun t17 H =>
  wIf t17 (
    wCall E P 135 [a0, (.val (.int .i64 4))] H fun t19 H =>
    R (.tup [(.val (.nilIface)), t19]) H) (
    wCall E P 143 [a0, (.val (.int .u8 33))] H fun t22 H =>
    wIf t22 (
      wGet (binA .sub a1 (.val (.int .i64 1))) H fun t26 H =>
      wCall E P 144 [a0, t26] H fun t27 H =>
      wGet (extractA t27 0) H fun t28 H =>
      wGet (extractA t27 1) H fun t29 H =>
      wBool (eqA .iface t29 (.val (.nilIface))) H true fun t31 H =>
      wIf t31 (
        R (.tup [(.val (.nilIface)), t29]) H) (
        wAgg (fillA [(.val (.nilIface))] [(0, 1, t28)]) H fun t34 H =>
        R (.tup [(.ifc 10 t34), (.val (.nilIface))]) H)) (
      wCall E P 143 [a0, (.val (.int .u8 40))] H fun t38 H =>
      wIf t38 (
        wGet (binA .sub a1 (.val (.int .i64 1))) H fun t42 H =>
        wCall E P 133 [a0, t42] H fun t43 H =>
        wGet (extractA t43 0) H fun t44 H =>
        wGet (extractA t43 1) H fun t45 H =>
        wBool (eqA .iface t45 (.val (.nilIface))) H true fun t47 H =>
        wIf t47 (
          R (.tup [(.val (.nilIface)), t45]) H) (
          wCall E P 143 [a0, (.val (.int .u8 41))] H fun t50 H =>
          wGet (unA .not t50) H fun t51 H =>
          wIf t51 (
            wCall E P 135 [a0, (.val (.int .i64 3))] H fun t53 H =>
            R (.tup [(.val (.nilIface)), t53]) H) (
            R (.tup [t44, (.val (.nilIface))]) H))) (
        wCall E P 143 [a0, (.val (.int .u8 48))] H fun t57 H =>
        wIf t57 (
          R (.tup [(.ifc 11 (.val (.bool false))), (.val (.nilIface))]) H) (
          wCall E P 143 [a0, (.val (.int .u8 49))] H fun t61 H =>
          wIf t61 (
            R (.tup [(.ifc 11 (.val (.bool true))), (.val (.nilIface))]) H) (
            wCall E P 143 [a0, (.val (.int .u8 94))] H fun t65 H =>
            wIf t65 (
              wCall E P 145 [a0] H fun t68 H =>
              wGet (extractA t68 0) H fun t69 H =>
              wGet (extractA t68 1) H fun t70 H =>
              R (.tup [(.ifc 12 t69), t70]) H) (
              wCall E P 143 [a0, (.val (.int .u8 126))] H fun t76 H =>
              wIf t76 (
                wCall E P 145 [a0] H fun t79 H =>
                wGet (extractA t79 0) H fun t80 H =>
                wGet (extractA t79 1) H fun t81 H =>
                R (.tup [(.ifc 13 t80), t81]) H) (
                wCall E P 145 [a0] H fun t87 H =>
                wGet (extractA t87 0) H fun t88 H =>
                wGet (extractA t87 1) H fun t89 H =>
                R (.tup [(.ifc 14 t88), t89]) H)))))))

/-- (*signalbox/expr.reader).word -/
def pexpr_reader_word (E : Env) (P : Program) (a0 : AV) (H : AH) (R : Kt) : Prop :=
  wCall E P 134 [a0] H fun t7 H =>
  wGet (nilA a0) H fun t9 H =>
  wGet (faddr 1 t9) H fun t10 H =>
  wGet (load1 t10 H) H fun t11 H =>
  wLoop 1 (fun I1 => I1 t11 H) fun I1 t4 H =>
    wGet (nilA a0) H fun t14 H =>
    wGet (faddr 0 t14) H fun t15 H =>
    wGet (load1 t15 H) H fun t16 H =>
    wGet (lenS t16) H fun t17 H =>
    wGet (binA .lss t4 t17) H fun t18 H =>
    wGuard t18 true H (fun k => k a0 H) fun t20 H =>
    wGuard t18 true H (fun k => wGet (nilA t20) H k) fun t21 H =>
    wGuard t18 true H (fun k => wGet (faddr 0 t21) H k) fun t22 H =>
    wGuard t18 true H (fun k => wGet (load1 t22 H) H k) fun t23 H =>
    wGuard t18 true H (fun k => k t4 H) fun t24 H =>
    wGuard t18 true H (fun k => wGet (idxStr t23 t24) H k) fun t25 H =>
    wGuard t18 true H (fun k => wCall E P 21 [(.val (.string ⟨#[32, 38, 124, 33, 94, 126, 40, 41, 48, 49, 61]⟩)), t25] H k) fun t26 H =>
    wGuard t18 true H (fun k => wGet (binA .lss t26 (.val (.int .i64 0))) H k) fun t27 H =>
    wGet (pickA t18 t27 (.val (.bool false))) H fun t28 H =>
    wGuard t28 false H (fun k => k t4 H) fun t30 H =>
    wGuard t28 false H (fun k => k a0 H) fun t31 H =>
    wGuard t28 false H (fun k => wGet (nilA t31) H k) fun t32 H =>
    wGuard t28 false H (fun k => wGet (faddr 1 t32) H k) fun t33 H =>
    wGuard t28 false H (fun k => wGet (load1 t33 H) H k) fun t34 H =>
    wGuard t28 false H (fun k => wGet (binA .gtr t30 t34) H k) fun t35 H =>
    wGuard t28 false H (fun k => k t35 H) fun t36 H =>
    wGuard t36 true H (fun k => k t4 H) fun t37 H =>
    wGuard t36 true H (fun k => k a0 H) fun t38 H =>
    wGuard t36 true H (fun k => wGet (nilA t38) H k) fun t39 H =>
    wGuard t36 true H (fun k => wGet (faddr 0 t39) H k) fun t40 H =>
    wGuard t36 true H (fun k => wGet (load1 t40 H) H k) fun t41 H =>
    wGuard t36 true H (fun k => wGet (lenS t41) H k) fun t42 H =>
    wGuard t36 true H (fun k => wGet (binA .lss t37 t42) H k) fun t43 H =>
    wGuard t28 false H (fun k => wGet (pickA t36 t43 (.val (.bool false))) H k) fun t44 H =>
    wGuard t28 false H (fun k => k t44 H) fun t45 H =>
    wGuard t45 true H (fun k => k a0 H) fun t46 H =>
    wGuard t45 true H (fun k => wGet (nilA t46) H k) fun t47 H =>
    wGuard t45 true H (fun k => wGet (faddr 0 t47) H k) fun t48 H =>
    wGuard t45 true H (fun k => wGet (load1 t48 H) H k) fun t49 H =>
    wGuard t45 true H (fun k => k t4 H) fun t50 H =>
    wGuard t45 true H (fun k => wGet (idxStr t49 t50) H k) fun t51 H =>
    wGuard t45 true H (fun k => wGet (binA .eql t51 (.val (.int .u8 48))) H k) fun t52 H =>
    wGuard t45 true H (fun k => k t52 H) fun t53 H =>
    wGuard t53 false H (fun k => k a0 H) fun t54 H =>
    wGuard t53 false H (fun k => wGet (nilA t54) H k) fun t55 H =>
    wGuard t53 false H (fun k => wGet (faddr 0 t55) H k) fun t56 H =>
    wGuard t53 false H (fun k => wGet (load1 t56 H) H k) fun t57 H =>
    wGuard t53 false H (fun k => k t4 H) fun t58 H =>
    wGuard t53 false H (fun k => wGet (idxStr t57 t58) H k) fun t59 H =>
    wGuard t53 false H (fun k => wGet (binA .eql t59 (.val (.int .u8 49))) H k) fun t60 H =>
    wGuard t45 true H (fun k => wGet (pickA t53 (.val (.bool true)) t60) H k) fun t61 H =>
    wGuard t28 false H (fun k => wGet (pickA t45 t61 (.val (.bool false))) H k) fun t62 H =>
    wGet (pickA t28 (.val (.bool true)) t62) H fun t63 H =>
    wIf t63 (
      wGet (binA .add t4 (.val (.int .i64 1))) H fun t65 H =>
      I1 t65 H) (
      wGet (nilA a0) H fun t67 H =>
      wGet (faddr 0 t67) H fun t68 H =>
      wGet (load1 t68 H) H fun t69 H =>
      wGet (nilA a0) H fun t71 H =>
      wGet (faddr 1 t71) H fun t72 H =>
      wGet (load1 t72 H) H fun t73 H =>
      wGet (sliceS t69 (some t73) (some t4)) H fun t75 H =>
      wGet (binA .eql t75 (.val (.string ⟨#[]⟩))) H fun t77 H =>
      wIf t77 (
        wCall E P 135 [a0, (.val (.int .i64 3))] H fun t79 H =>
        R (.tup [(.val (.string ⟨#[]⟩)), t79]) H) (
        wCall E P 1 [t75] H fun t81 H =>
        wGet (unA .not t81) H fun t82 H =>
        wIf t82 (
          wCall E P 135 [a0, (.val (.int .i64 5))] H fun t84 H =>
          R (.tup [(.val (.string ⟨#[]⟩)), t84]) H) (
          wGet (nilA a0) H fun t87 H =>
          wGet (faddr 1 t87) H fun t88 H =>
          wPut (store1 t88 t4 H) fun _u H =>
          R (.tup [t75, (.val (.nilIface))]) H)))

/-- strings.IndexRune -/
def strings_IndexRune_ScV11 (E : Env) (P : Program) (a0 a1 : AV) (H : AH) (R : Kt) : Prop :=
  wGet (binA .leq (.val (.int .i32 0)) a1) H fun t162 H =>
  wGuard t162 true H (fun k => k a1 H) fun t164 H =>
  wGuard t162 true H (fun k => wGet (binA .lss t164 (.val (.int .i32 128))) H k) fun t165 H =>
  wGet (pickA t162 t165 (.val (.bool false))) H fun t166 H =>
  wIf t166 (
    wGet (convA (.int .u8) a1) H fun t169 H =>
    wCall E P 21 [a0, t169] H fun t170 H =>
    R t170 H) (
    wGet (binA .eql a1 (.val (.int .i32 65533))) H fun t173 H =>
    wIf t173 (
      False) (
      wCall E P 22 [a1] H fun t185 H =>
      wGet (unA .not t185) H fun t186 H =>
      wIf t186 (
        R (.val (.int .i64 (-1))) H) (
        wGet (convA .string a1) H fun t18 H =>
        wGet (lenS t18) H fun t20 H =>
        wGet (binA .sub t20 (.val (.int .i64 1))) H fun t21 H =>
        wLoop 1 (fun I1 => I1 t21 H) fun I1 t9 H =>
          wGet (lenS a0) H fun t25 H =>
          wGet (binA .lss t9 t25) H fun t26 H =>
          wIf t26 (
            wJoin 1 (fun J2 =>
              wGet (idxStr a0 t9) H fun t29 H =>
              wGet (idxStr t18 t21) H fun t32 H =>
              wGet (binA .neq t29 t32) H fun t33 H =>
              wIf t33 (
                wGet (binA .add t9 (.val (.int .i64 1))) H fun t36 H =>
                wGet (sliceS a0 (some t36) none) H fun t37 H =>
                wGet (idxStr t18 t21) H fun t40 H =>
                wCall E P 21 [t37, t40] H fun t41 H =>
                wGet (binA .lss t41 (.val (.int .i64 0))) H fun t43 H =>
                wIf t43 (
                  R (.val (.int .i64 (-1))) H) (
                  wGet (binA .add t41 (.val (.int .i64 1))) H fun t46 H =>
                  wGet (binA .add t9 t46) H fun t47 H =>
                  J2 t47 H)) (
                J2 t9 H)) fun t9_1 H =>
              wLoop 1 (fun I3 => I3 (.val (.int .i64 1)) H) fun I3 t12 H =>
                wGet (lenS t18) H fun t50 H =>
                wGet (binA .lss t12 t50) H fun t51 H =>
                wIf t51 (
                  wGet (binA .sub t9_1 t12) H fun t57 H =>
                  wGet (idxStr a0 t57) H fun t58 H =>
                  wGet (binA .sub t21 t12) H fun t62 H =>
                  wGet (idxStr t18 t62) H fun t63 H =>
                  wGet (binA .neq t58 t63) H fun t64 H =>
                  wIf t64 (
                    False) (
                    wGet (binA .add t12 (.val (.int .i64 1))) H fun t53 H =>
                    I3 t53 H)) (
                  wGet (binA .sub t9_1 t21) H fun t67 H =>
                  R t67 H)) (
            R (.val (.int .i64 (-1))) H))))

end Go.Sc.F
namespace Go.Sc
open Go
set_option linter.unusedSimpArgs false
set_option linter.unusedVariables false
set_option linter.unnecessarySimpa false
structure RuneBodies (E : Env) (P : Program) : Prop where
  ib : ∀ (s : Str) (c : UInt8), FX E P 21 [S s, By c] (Z (idx s c))
  ir : Body2 E P 19 F.strings_IndexRune_ScV11
  cr : Body2 E P 16 F.strings_ContainsRune
  vr : Body1 E P 22 F.unicode_utf8_ValidRune
section
variable {E : Env} {P : Program}
end
/-! ### the program's reader -/
def rd (s : Str) (i : Nat) : List AV := [S s, Z i]
theorem rd_closed (s : Str) (i : Nat) : AV.closedL (rd s i) := ⟨trivial, trivial, trivial⟩
structure ReadBodies (E : Env) (P : Program) : Prop where
  n : NameBodies E P
  r : RuneBodies E P
  blanks : Body1 E P 134 F.pexpr_reader_blanks
  fail : Body2 E P 135 F.pexpr_reader_fail
  take : Body2 E P 143 F.pexpr_reader_take
  word : Body1 E P 145 F.pexpr_reader_word
section
variable {E : Env} {P : Program}
theorem at_some {s : Str} {i : Nat} (h : i < s.length) : s[i]? = some s[i] := List.getElem?_eq_getElem h
theorem at_eq {s : Str} {i : Nat} (h : i < s.length) {c : UInt8} : s[i]? = some c ↔ (s[i].toNat : Int) = c.toNat := by
  rw [at_some h]
  constructor
  · intro e; injection e with e; rw [e]
  · intro e; rw [show s[i] = c from UInt8.toNat_inj.1 (by omega)]
theorem blanks_spec (B : ReadBodies E P) (s : Str) (i : Nat) (hi : i ≤ s.length) (hs : s.length < 1000000) : PC E P 134 2 (rd s i) (fun b g => [.ptrL b 0 g]) (fun r cs => r = .tup [] ∧ cs = rd s (skipTo s i)) := by
  refine PC.of (fun _ _ => rfl) (rd_closed s i) (by rintro r cs ⟨rfl, rfl⟩; exact ⟨trivial, rd_closed _ _⟩) fun n g R hR => B.blanks _ _ _ ?_
  unfold F.pexpr_reader_blanks
  refine wLoop.zero (fun m H => ∃ j c, m = s.length - j ∧ j ≤ s.length ∧ skipTo s j = skipTo s i ∧ H = ⟨[.cells g 2 [S s, Z j]], c⟩) (s.length - i) (gh0.mk ⟨i, n, rfl, hi, rfl, rfl⟩) ?_
  rintro m H ⟨j, c, rfl, hj, he, rfl⟩
  simp only [nd0, Y1n, Y1o, Y1p, Y1q, Y1w, Y1x, Y1y, Y1z, Y20, Y21, Y28, Y2a, AV.cells?, Nat.reduceAdd, Nat.reduceMul]
  by_cases h : j < s.length
  · simp only [nd0, Y1n, Y1o, Y1p, Y1q, Y1w, Y1x, Y1y, Y1z, Y20, Y21, Y28, Y2a, AV.cells?, Nat.reduceAdd, Nat.reduceMul, decide_eq_true (show (j : Int) < (s.length : Int) by omega)]
    rw [idxS h]
    simp only [nd0, Y1n, Y1o, Y1p, Y1q, Y1w, Y1x, Y1y, Y1z, Y20, Y21, Y28, Y2a, AV.cells?, Nat.reduceAdd, Nat.reduceMul]
    by_cases h2 : (s[j].toNat : Int) = 32
    · simp only [nd0, Y1n, Y1o, Y1p, Y1q, Y1w, Y1x, Y1y, Y1z, Y20, Y21, Y28, Y2a, AV.cells?, Nat.reduceAdd, Nat.reduceMul, decide_eq_true h2]
      rw [binA_succ (by omega)]
      simp only [nd0, Y1n, Y1o, Y1p, Y1q, Y1w, Y1x, Y1y, Y1z, Y20, Y21, Y28, Y2a, AV.cells?, Nat.reduceAdd, Nat.reduceMul]
      rw [store1_L rfl]
      simp only [nd0, Y1n, Y1o, Y1p, Y1q, Y1w, Y1x, Y1y, Y1z, Y20, Y21, Y28, Y2a, AV.cells?, Nat.reduceAdd, Nat.reduceMul, Nat.reduceLT]
      refine back0.mk (s.length - (j + 1)) (by omega) ⟨j + 1, c, rfl, by omega, ?_, rfl⟩
      rw [← he]
      exact (skipTo_step ((at_eq h).2 h2)).symm
    · simp only [nd0, Y1n, Y1o, Y1p, Y1q, Y1w, Y1x, Y1y, Y1z, Y20, Y21, Y28, Y2a, AV.cells?, Nat.reduceAdd, Nat.reduceMul, decide_eq_false h2]
      refine hR _ _ (rd s j) [] c (.same _) ⟨rfl, ?_⟩
      rw [← he, skipTo_stop (fun e => h2 ((at_eq h).1 e))]
  · simp only [nd0, Y1n, Y1o, Y1p, Y1q, Y1w, Y1x, Y1y, Y1z, Y20, Y21, Y28, Y2a, AV.cells?, Nat.reduceAdd, Nat.reduceMul, decide_eq_false (show ¬ (j : Int) < (s.length : Int) by omega)]
    refine hR _ _ (rd s j) [] c (.same _) ⟨rfl, ?_⟩
    rw [← he, skipTo_stop (by rw [List.getElem?_eq_none (by omega)]; simp)]
theorem take_spec (B : ReadBodies E P) (s : Str) (i : Nat) (ch : UInt8) (hi : i ≤ s.length) (hs : s.length < 1000000) : PC E P 143 2 (rd s i) (fun b g => [.ptrL b 0 g, By ch]) (fun r cs => r = Bo (decide (s[skipTo s i]? = some ch)) ∧ cs = rd s (if s[skipTo s i]? = some ch then skipTo s i + 1 else skipTo s i)) := by
  refine PC.of (fun _ _ => rfl) (rd_closed s i) (by rintro r cs ⟨rfl, rfl⟩; exact ⟨trivial, rd_closed _ _⟩) fun n g R hR => B.take _ _ _ _ ?_
  unfold F.pexpr_reader_take
  refine wCall.pc (b := 0) (blanks_spec B s i hi hs) rfl rfl ?_
  rintro r cs n ⟨rfl, rfl⟩
  have hk := skipTo_len hi
  generalize skipTo s i = k at hk hR
  unfold rd
  simp only [nd0, Y1n, Y1o, Y1p, Y1q, Y1w, Y1x, Y1y, Y1z, Y20, Y21, Y28, Y2a, AV.cells?, Nat.reduceAdd, Nat.reduceMul]
  by_cases h : k < s.length
  · simp only [nd0, Y1n, Y1o, Y1p, Y1q, Y1w, Y1x, Y1y, Y1z, Y20, Y21, Y28, Y2a, AV.cells?, Nat.reduceAdd, Nat.reduceMul, decide_eq_true (show (k : Int) < (s.length : Int) by omega)]
    rw [idxS h]
    simp only [nd0, Y1n, Y1o, Y1p, Y1q, Y1w, Y1x, Y1y, Y1z, Y20, Y21, Y28, Y2a, AV.cells?, Nat.reduceAdd, Nat.reduceMul]
    by_cases h2 : (s[k].toNat : Int) = ch.toNat
    · simp only [nd0, Y1n, Y1o, Y1p, Y1q, Y1w, Y1x, Y1y, Y1z, Y20, Y21, Y28, Y2a, AV.cells?, Nat.reduceAdd, Nat.reduceMul, decide_eq_true h2]
      rw [binA_succ (by omega)]
      simp only [nd0, Y1n, Y1o, Y1p, Y1q, Y1w, Y1x, Y1y, Y1z, Y20, Y21, Y28, Y2a, AV.cells?, Nat.reduceAdd, Nat.reduceMul]
      rw [store1_L rfl]
      simp only [nd0, Y1n, Y1o, Y1p, Y1q, Y1w, Y1x, Y1y, Y1z, Y20, Y21, Y28, Y2a, AV.cells?, Nat.reduceAdd, Nat.reduceMul, Nat.reduceLT]
      have h3 := (at_eq h).2 h2
      refine hR _ _ (rd s (k + 1)) [] n (.same _) ?_
      rw [if_pos h3, decide_eq_true h3]
      exact ⟨rfl, rfl⟩
    · simp only [nd0, Y1n, Y1o, Y1p, Y1q, Y1w, Y1x, Y1y, Y1z, Y20, Y21, Y28, Y2a, AV.cells?, Nat.reduceAdd, Nat.reduceMul, decide_eq_false h2]
      have h3 : ¬ s[k]? = some ch := fun e => h2 ((at_eq h).1 e)
      refine hR _ _ (rd s k) [] n (.same _) ?_
      rw [if_neg h3, decide_eq_false h3]
      exact ⟨rfl, rfl⟩
  · simp only [nd0, Y1n, Y1o, Y1p, Y1q, Y1w, Y1x, Y1y, Y1z, Y20, Y21, Y28, Y2a, AV.cells?, Nat.reduceAdd, Nat.reduceMul, decide_eq_false (show ¬ (k : Int) < (s.length : Int) by omega)]
    have h3 : ¬ s[k]? = some ch := by rw [List.getElem?_eq_none (by omega)]; simp
    refine hR _ _ (rd s k) [] n (.same _) ?_
    rw [if_neg h3, decide_eq_false h3]
    exact ⟨rfl, rfl⟩
theorem fail_spec (B : ReadBodies E P) (s : Str) (i e : Nat) (hi : i ≤ s.length) (hs : s.length < 1000000) : PC E P 135 2 (rd s i) (fun b g => [.ptrL b 0 g, Z e]) (fun r cs => r = At e (skipTo s i) ∧ cs = rd s (skipTo s i)) := by
  refine PC.of (fun _ _ => rfl) (rd_closed s i) (by rintro r cs ⟨rfl, rfl⟩; exact ⟨At_closed _ _, rd_closed _ _⟩) fun n g R hR => B.fail _ _ _ _ ?_
  unfold F.pexpr_reader_fail
  refine wCall.pc (b := 0) (blanks_spec B s i hi hs) rfl rfl ?_
  rintro r cs n ⟨rfl, rfl⟩
  generalize skipTo s i = k at hR
  unfold rd
  simp only [nd0, Y1n, Y1o, Y1p, Y1q, Y1w, Y1x, Y1y, Y1z, Y20, Y21, Y28, Y2a, AV.cells?, Nat.reduceAdd, Nat.reduceMul, show fillA [Z 0, Z 0] [(0, 1, Z e), (1, 1, Z k)] = some [Z e, Z k] from rfl]
  refine wNew.F' (l := [Z e, Z k]) rfl ?_
  exact hR _ _ (rd s k) [] n (.same _) ⟨rfl, rfl⟩
theorem mem11 {c : UInt8} : c ∈ stop11 ↔ c ∈ stop9 ∨ c = 48 ∨ c = 49 := by
  simp only [stop11, stop9, List.mem_cons, List.not_mem_nil, or_false]
  constructor
  · rintro (h | h | h | h | h | h | h | h | h | h | h) <;> simp [h]
  · rintro ((h | h | h | h | h | h | h | h | h) | h | h) <;> simp [h]
theorem byk {c : UInt8} {n : Nat} (hn : n < 256) : ((c.toNat : Int) = n) ↔ c = UInt8.ofNat n := by
  constructor
  · intro h
    apply UInt8.toNat_inj.1
    rw [UInt8.toNat_ofNat']
    omega
  · rintro rfl
    rw [UInt8.toNat_ofNat']
    omega
theorem word_cond (B : ReadBodies E P) {s : Str} {k j g c : Nat} {K : Kt} (hkj : k ≤ j) (hj : j ≤ s.length) (hs : s.length < 1000000) (h : ∀ c, K (Bo (wc s k j)) ⟨[.cells g 2 [S s, Z k]], c⟩) :
  wGet (nilA (.ptrL 0 0 g)) ⟨[.cells g 2 [S s, Z k]], c⟩ fun t14 H =>
  wGet (faddr 0 t14) H fun t15 H =>
  wGet (load1 t15 H) H fun t16 H =>
  wGet (lenS t16) H fun t17 H =>
  wGet (binA .lss (Z j) t17) H fun t18 H =>
  wGuard t18 true H (fun k => k (.ptrL 0 0 g) H) fun t20 H =>
  wGuard t18 true H (fun k => wGet (nilA t20) H k) fun t21 H =>
  wGuard t18 true H (fun k => wGet (faddr 0 t21) H k) fun t22 H =>
  wGuard t18 true H (fun k => wGet (load1 t22 H) H k) fun t23 H =>
  wGuard t18 true H (fun k => k (Z j) H) fun t24 H =>
  wGuard t18 true H (fun k => wGet (idxStr t23 t24) H k) fun t25 H =>
  wGuard t18 true H (fun k => wCall E P 21 [(.val (.string ⟨#[32, 38, 124, 33, 94, 126, 40, 41, 48, 49, 61]⟩)), t25] H k) fun t26 H =>
  wGuard t18 true H (fun k => wGet (binA .lss t26 (.val (.int .i64 0))) H k) fun t27 H =>
  wGet (pickA t18 t27 (.val (.bool false))) H fun t28 H =>
  wGuard t28 false H (fun k => k (Z j) H) fun t30 H =>
  wGuard t28 false H (fun k => k (.ptrL 0 0 g) H) fun t31 H =>
  wGuard t28 false H (fun k => wGet (nilA t31) H k) fun t32 H =>
  wGuard t28 false H (fun k => wGet (faddr 1 t32) H k) fun t33 H =>
  wGuard t28 false H (fun k => wGet (load1 t33 H) H k) fun t34 H =>
  wGuard t28 false H (fun k => wGet (binA .gtr t30 t34) H k) fun t35 H =>
  wGuard t28 false H (fun k => k t35 H) fun t36 H =>
  wGuard t36 true H (fun k => k (Z j) H) fun t37 H =>
  wGuard t36 true H (fun k => k (.ptrL 0 0 g) H) fun t38 H =>
  wGuard t36 true H (fun k => wGet (nilA t38) H k) fun t39 H =>
  wGuard t36 true H (fun k => wGet (faddr 0 t39) H k) fun t40 H =>
  wGuard t36 true H (fun k => wGet (load1 t40 H) H k) fun t41 H =>
  wGuard t36 true H (fun k => wGet (lenS t41) H k) fun t42 H =>
  wGuard t36 true H (fun k => wGet (binA .lss t37 t42) H k) fun t43 H =>
  wGuard t28 false H (fun k => wGet (pickA t36 t43 (.val (.bool false))) H k) fun t44 H =>
  wGuard t28 false H (fun k => k t44 H) fun t45 H =>
  wGuard t45 true H (fun k => k (.ptrL 0 0 g) H) fun t46 H =>
  wGuard t45 true H (fun k => wGet (nilA t46) H k) fun t47 H =>
  wGuard t45 true H (fun k => wGet (faddr 0 t47) H k) fun t48 H =>
  wGuard t45 true H (fun k => wGet (load1 t48 H) H k) fun t49 H =>
  wGuard t45 true H (fun k => k (Z j) H) fun t50 H =>
  wGuard t45 true H (fun k => wGet (idxStr t49 t50) H k) fun t51 H =>
  wGuard t45 true H (fun k => wGet (binA .eql t51 (.val (.int .u8 48))) H k) fun t52 H =>
  wGuard t45 true H (fun k => k t52 H) fun t53 H =>
  wGuard t53 false H (fun k => k (.ptrL 0 0 g) H) fun t54 H =>
  wGuard t53 false H (fun k => wGet (nilA t54) H k) fun t55 H =>
  wGuard t53 false H (fun k => wGet (faddr 0 t55) H k) fun t56 H =>
  wGuard t53 false H (fun k => wGet (load1 t56 H) H k) fun t57 H =>
  wGuard t53 false H (fun k => k (Z j) H) fun t58 H =>
  wGuard t53 false H (fun k => wGet (idxStr t57 t58) H k) fun t59 H =>
  wGuard t53 false H (fun k => wGet (binA .eql t59 (.val (.int .u8 49))) H k) fun t60 H =>
  wGuard t45 true H (fun k => wGet (pickA t53 (.val (.bool true)) t60) H k) fun t61 H =>
  wGuard t28 false H (fun k => wGet (pickA t45 t61 (.val (.bool false))) H k) fun t62 H =>
  wGet (pickA t28 (.val (.bool true)) t62) H K := by
  simp only [nd0, Y1n, Y1o, Y1p, Y1q, Y1w, Y1x, Y1y, Y1z, Y20, Y21, Y28, Y2a, AV.cells?, Nat.reduceAdd, Nat.reduceMul]
  by_cases hl : j < s.length
  · have hat := at_some hl
    simp only [nd0, Y1n, Y1o, Y1p, Y1q, Y1w, Y1x, Y1y, Y1z, Y20, Y21, Y28, Y2a, AV.cells?, Nat.reduceAdd, Nat.reduceMul, decide_eq_true (show (j : Int) < (s.length : Int) by omega)]
    rw [idxS hl]
    simp only [nd0, Y1n, Y1o, Y1p, Y1q, Y1w, Y1x, Y1y, Y1z, Y20, Y21, Y28, Y2a, AV.cells?, Nat.reduceAdd, Nat.reduceMul]
    refine wCall.fx (B.r.ib stop11 s[j]) fun n2 => ?_
    simp only [nd0, Y1n, Y1o, Y1p, Y1q, Y1w, Y1x, Y1y, Y1z, Y20, Y21, Y28, Y2a, AV.cells?, Nat.reduceAdd, Nat.reduceMul]
    by_cases hm : s[j] ∈ stop11
    · simp only [nd0, Y1n, Y1o, Y1p, Y1q, Y1w, Y1x, Y1y, Y1z, Y20, Y21, Y28, Y2a, AV.cells?, Nat.reduceAdd, Nat.reduceMul, decide_eq_false (show ¬ idx stop11 s[j] < 0 from fun e => idx_neg.1 e hm)]
      by_cases hjk : k < j
      · simp only [nd0, Y1n, Y1o, Y1p, Y1q, Y1w, Y1x, Y1y, Y1z, Y20, Y21, Y28, Y2a, AV.cells?, Nat.reduceAdd, Nat.reduceMul, decide_eq_true (show (k : Int) < (j : Int) by omega), decide_eq_true (show (j : Int) < (s.length : Int) by omega)]
        rw [idxS hl]
        simp only [nd0, Y1n, Y1o, Y1p, Y1q, Y1w, Y1x, Y1y, Y1z, Y20, Y21, Y28, Y2a, AV.cells?, Nat.reduceAdd, Nat.reduceMul]
        by_cases h48 : (s[j].toNat : Int) = 48
        · simp only [nd0, Y1n, Y1o, Y1p, Y1q, Y1w, Y1x, Y1y, Y1z, Y20, Y21, Y28, Y2a, AV.cells?, Nat.reduceAdd, Nat.reduceMul, decide_eq_true h48]
          have e := (byk (n := 48) (by omega)).1 h48
          have : wc s k j = true := by simp only [wc, hat, e]; simp [stop9, hjk]
          rw [this] at h
          exact h _
        · simp only [nd0, Y1n, Y1o, Y1p, Y1q, Y1w, Y1x, Y1y, Y1z, Y20, Y21, Y28, Y2a, AV.cells?, Nat.reduceAdd, Nat.reduceMul, decide_eq_false h48]
          rw [idxS hl]
          simp only [nd0, Y1n, Y1o, Y1p, Y1q, Y1w, Y1x, Y1y, Y1z, Y20, Y21, Y28, Y2a, AV.cells?, Nat.reduceAdd, Nat.reduceMul]
          by_cases h49 : (s[j].toNat : Int) = 49
          · simp only [nd0, Y1n, Y1o, Y1p, Y1q, Y1w, Y1x, Y1y, Y1z, Y20, Y21, Y28, Y2a, AV.cells?, Nat.reduceAdd, Nat.reduceMul, decide_eq_true h49]
            have e := (byk (n := 49) (by omega)).1 h49
            have : wc s k j = true := by simp only [wc, hat, e]; simp [stop9, hjk]
            rw [this] at h
            exact h _
          · simp only [nd0, Y1n, Y1o, Y1p, Y1q, Y1w, Y1x, Y1y, Y1z, Y20, Y21, Y28, Y2a, AV.cells?, Nat.reduceAdd, Nat.reduceMul, decide_eq_false h49]
            have h9 : s[j] ∈ stop9 := (mem11.1 hm).resolve_right (by
              rintro (e | e)
              · exact h48 ((byk (n := 48) (by omega)).2 e)
              · exact h49 ((byk (n := 49) (by omega)).2 e))
            have : wc s k j = false := by simp only [wc, hat, decide_eq_true h9]; simp
            rw [this] at h
            exact h _
      · simp only [nd0, Y1n, Y1o, Y1p, Y1q, Y1w, Y1x, Y1y, Y1z, Y20, Y21, Y28, Y2a, AV.cells?, Nat.reduceAdd, Nat.reduceMul, decide_eq_false (show ¬ (k : Int) < (j : Int) by omega)]
        have : wc s k j = false := by
          simp only [wc, hat, decide_eq_false hjk]
          rcases mem11.1 hm with h9 | h9 | h9
          · simp [h9]
          · simp [h9]
          · simp [h9]
        rw [this] at h
        exact h _
    · simp only [nd0, Y1n, Y1o, Y1p, Y1q, Y1w, Y1x, Y1y, Y1z, Y20, Y21, Y28, Y2a, AV.cells?, Nat.reduceAdd, Nat.reduceMul, decide_eq_true (show idx stop11 s[j] < 0 from idx_neg.2 hm)]
      have : wc s k j = true := by
        simp only [wc, hat]
        have := fun e => hm (mem11.2 e)
        have h9 : s[j] ∉ stop9 := fun e => this (.inl e)
        have h48 : s[j] ≠ 48 := fun e => this (.inr (.inl e))
        have h49 : s[j] ≠ 49 := fun e => this (.inr (.inr e))
        simp [h9, h48, h49]
      rw [this] at h
      exact h _
  · have : wc s k j = false := by
      cases hw : wc s k j
      · rfl
      · exact absurd (wc_lt hw) hl
    rw [this] at h
    simp only [nd0, Y1n, Y1o, Y1p, Y1q, Y1w, Y1x, Y1y, Y1z, Y20, Y21, Y28, Y2a, AV.cells?, Nat.reduceAdd, Nat.reduceMul, decide_eq_false (show ¬ (j : Int) < (s.length : Int) by omega)]
    by_cases hjk : k < j
    · simp only [nd0, Y1n, Y1o, Y1p, Y1q, Y1w, Y1x, Y1y, Y1z, Y20, Y21, Y28, Y2a, AV.cells?, Nat.reduceAdd, Nat.reduceMul, decide_eq_true (show (k : Int) < (j : Int) by omega), decide_eq_false (show ¬ (j : Int) < (s.length : Int) by omega)]
      exact h _
    · simp only [nd0, Y1n, Y1o, Y1p, Y1q, Y1w, Y1x, Y1y, Y1z, Y20, Y21, Y28, Y2a, AV.cells?, Nat.reduceAdd, Nat.reduceMul, decide_eq_false (show ¬ (k : Int) < (j : Int) by omega)]
      exact h _
/-- the name at a place, if it may be one -/
theorem word_spec (B : ReadBodies E P) (s : Str) (i : Nat) (hi : i ≤ s.length) (hs : s.length < 1000000) : PC E P 145 2 (rd s i) (fun b g => [.ptrL b 0 g]) (fun r cs => match wordR s i with
    | .ok w j => r = .tup [S w, nilE] ∧ cs = rd s j
    | .no e p => r = .tup [S [], At e p] ∧ ∃ j, cs = rd s j) := by
  refine PC.of (fun _ _ => rfl) (rd_closed s i) ?_ fun n g R hR => B.word _ _ _ ?_
  · intro r cs h
    cases hw : wordR s i with
    | ok w j => rw [hw] at h; obtain ⟨rfl, rfl⟩ := h; exact ⟨⟨trivial, trivial, trivial⟩, rd_closed _ _⟩
    | no e p => rw [hw] at h; obtain ⟨rfl, j, rfl⟩ := h; exact ⟨⟨trivial, At_closed _ _, trivial⟩, rd_closed _ _⟩
  unfold F.pexpr_reader_word
  refine wCall.pc (b := 0) (blanks_spec B s i hi hs) rfl rfl ?_
  rintro r cs n ⟨rfl, rfl⟩
  have hk := skipTo_len hi
  have hid := skipTo_idem s i
  unfold wordR at hR
  generalize skipTo s i = k at hk hR hid
  refine wGet_some.2 (wGet_some.2 ⟨⟨Z k, by simp [load1, AH.cells, rd], ?_⟩⟩)
  have hwe := wEnd_ge s k k
  have hwl := wEnd_len (i := k) hk
  refine wLoop.one (fun m t H => ∃ j c, m = s.length - j ∧ k ≤ j ∧ j ≤ s.length ∧ wEnd s k j = wEnd s k k ∧ t = Z j ∧ H = ⟨[.cells g 2 [S s, Z k]], c⟩) (s.length - k) (gh1.mk ⟨k, n, rfl, Nat.le_refl _, hk, rfl, rfl, rfl⟩) ?_
  rintro m t H ⟨j, c, rfl, hkj, hj, he, rfl, rfl⟩
  refine word_cond B hkj hj hs fun c => ?_
  cases hw : wc s k j with
  | true =>
    have := wc_lt hw
    simp only [nd0, Y1n, Y1o, Y1p, Y1q, Y1w, Y1x, Y1y, Y1z, Y20, Y21, Y28, Y2a, AV.cells?, Nat.reduceAdd, Nat.reduceMul]
    rw [binA_succ (by omega)]
    simp only [nd0, Y1n, Y1o, Y1p, Y1q, Y1w, Y1x, Y1y, Y1z, Y20, Y21, Y28, Y2a, AV.cells?, Nat.reduceAdd, Nat.reduceMul]
    exact back1.mk (s.length - (j + 1)) (by omega) ⟨j + 1, c, rfl, by omega, by omega, by rw [← he, wEnd_step hw], rfl, rfl⟩
  | false =>
    simp only [nd0, Y1n, Y1o, Y1p, Y1q, Y1w, Y1x, Y1y, Y1z, Y20, Y21, Y28, Y2a, AV.cells?, Nat.reduceAdd, Nat.reduceMul]
    rw [wEnd_stop hw] at he
    rw [sliceS_S (l := k) (h := j) rfl rfl (by omega) (by omega) (by omega)]
    have hwd : (s.take ((j : Int)).toNat).drop ((k : Int)).toNat = wordAt s k := by
      rw [wordAt, ← he]; simp
    rw [hwd]
    simp only [nd0, Y1n, Y1o, Y1p, Y1q, Y1w, Y1x, Y1y, Y1z, Y20, Y21, Y28, Y2a, AV.cells?, Nat.reduceAdd, Nat.reduceMul, show (AV.val (.string ⟨#[]⟩)) = S [] from rfl]
    by_cases h1 : wordAt s k = []
    · rw [if_pos h1] at hR
      simp only [nd0, Y1n, Y1o, Y1p, Y1q, Y1w, Y1x, Y1y, Y1z, Y20, Y21, Y28, Y2a, AV.cells?, Nat.reduceAdd, Nat.reduceMul, decide_eq_true h1]
      refine wCall.pc (b := 0) (fail_spec B s k 3 hk hs) rfl rfl ?_
      rintro r cs n ⟨rfl, rfl⟩
      exact hR _ _ _ [] n (.same _) ⟨by rw [hid], _, rfl⟩
    · rw [if_neg h1] at hR
      simp only [nd0, Y1n, Y1o, Y1p, Y1q, Y1w, Y1x, Y1y, Y1z, Y20, Y21, Y28, Y2a, AV.cells?, Nat.reduceAdd, Nat.reduceMul, decide_eq_false h1]
      refine wCall.fx (Name_spec B.n (wordAt s k)) fun n => ?_
      simp only [nd0, Y1n, Y1o, Y1p, Y1q, Y1w, Y1x, Y1y, Y1z, Y20, Y21, Y28, Y2a, AV.cells?, Nat.reduceAdd, Nat.reduceMul]
      by_cases h2 : nameOk (wordAt s k) = false
      · rw [if_pos h2] at hR
        simp only [nd0, Y1n, Y1o, Y1p, Y1q, Y1w, Y1x, Y1y, Y1z, Y20, Y21, Y28, Y2a, AV.cells?, Nat.reduceAdd, Nat.reduceMul, h2]
        refine wCall.pc (b := 0) (fail_spec B s k 5 hk hs) rfl rfl ?_
        rintro r cs n ⟨rfl, rfl⟩
        exact hR _ _ _ [] n (.same _) ⟨by rw [hid], _, rfl⟩
      · rw [if_neg h2] at hR
        simp only [nd0, Y1n, Y1o, Y1p, Y1q, Y1w, Y1x, Y1y, Y1z, Y20, Y21, Y28, Y2a, AV.cells?, Nat.reduceAdd, Nat.reduceMul, show nameOk (wordAt s k) = true by simpa using h2]
        rw [store1_L rfl]
        simp only [nd0, Y1n, Y1o, Y1p, Y1q, Y1w, Y1x, Y1y, Y1z, Y20, Y21, Y28, Y2a, AV.cells?, Nat.reduceAdd, Nat.reduceMul, Nat.reduceLT]
        exact hR _ _ (rd s j) [] n (.same _) ⟨rfl, by rw [← he]⟩
end
end Go.Sc
namespace Go.Sc
open Go
set_option linter.unusedSimpArgs false
set_option linter.unusedVariables false
set_option linter.unnecessarySimpa false
structure ParseBodies (E : Env) (P : Program) : Prop where
  d : ReadBodies E P
  several : Body4 E P 140 F.pexpr_reader_several
  or : Body2 E P 133 F.pexpr_reader_or
  and : Body2 E P 139 F.pexpr_reader_and
  one : Body2 E P 144 F.pexpr_reader_one
  parse : Body1 E P 126 F.expr_Parse
/-- what a reader of expressions answers -/
def PX (s : Str) (r : Rs Ex) (x : AV) (cs : List AV) : Prop := match r with
  | .ok e j => x = .tup [e.enc, nilE] ∧ cs = rd s j
  | .no e p => ∃ z, x = .tup [z, At e p] ∧ z.closed ∧ ∃ j, cs = rd s j
theorem PX.closed {s : Str} {r : Rs Ex} {x : AV} {cs : List AV} (h : PX s r x cs) : x.closed ∧ AV.closedL cs := by
  unfold PX at h
  split at h
  · obtain ⟨rfl, rfl⟩ := h; exact ⟨⟨Ex.enc_closed _, trivial, trivial⟩, rd_closed _ _⟩
  · obtain ⟨z, rfl, hz, j, rfl⟩ := h; exact ⟨⟨hz, At_closed _ _, trivial⟩, rd_closed _ _⟩
def PL (s : Str) (r : Rs (List Ex)) (x : AV) (cs : List AV) : Prop := match r with
  | .ok l j => x = .tup [.slN (Ex.encL l) l.length, nilE] ∧ cs = rd s j
  | .no e p => x = .tup [nilS, At e p] ∧ ∃ j, cs = rd s j
theorem PL.closed {s : Str} {r : Rs (List Ex)} {x : AV} {cs : List AV} (h : PL s r x cs) : x.closed ∧ AV.closedL cs := by
  unfold PL at h
  split at h
  · obtain ⟨rfl, rfl⟩ := h; exact ⟨⟨Ex.encL_closed _, trivial, trivial⟩, rd_closed _ _⟩
  · obtain ⟨rfl, j, rfl⟩ := h; exact ⟨⟨trivial, At_closed _ _, trivial⟩, rd_closed _ _⟩
theorem fill1 {z x : AV} (h : x.scalar = true) : fillA (List.replicate 1 [z]).flatten [(0, 1, x)] = some [x] := by
  show fillA [z] _ = _
  rw [fillA_one h (by simp)]; rfl
theorem eqA_At {e p : Int} : eqA .iface (At e p) nilE = some false := rfl
theorem Ex.encL_len (l : List Ex) : (Ex.encL l).length = l.length := by rw [Ex.encL_map, List.length_map]
theorem Ex.encL_snoc (l : List Ex) (x : Ex) : Ex.encL (l ++ [x]) = Ex.encL l ++ [x.enc] := by simp [Ex.encL_map]
section
variable {E : Env} {P : Program}
theorem several_spec (B : ParseBodies E P) (s : Str) (hs : s.length < 1000000) (c : UInt8) (f : Nat → Rs Ex) (hgood : GoodR s f) (kf : Nat) (d : Nat) (hf : ∀ i, i ≤ s.length → PC E P kf 2 (rd s i) (fun b g => [.ptrL b 0 g, Z d]) (PX s (f i))) (i : Nat) (hi : i ≤ s.length) :
    PC E P 140 2 (rd s i) (fun b g => [.ptrL b 0 g, By c, Z d, .fn kf [.ptrL b 0 g] []]) (PL s (rowR s c f (s.length + 1) i [])) := by
  refine PC.of (fun _ _ => rfl) (rd_closed s i) (fun _ _ h => h.closed) fun n g R hR => B.several _ _ _ _ _ _ ?_
  unfold F.pexpr_reader_several
  refine wLoop.one (fun m t H => ∃ i' l n z c', m = s.length - i' ∧ i' ≤ s.length ∧ l.length ≤ i' ∧ s.length < n + i' ∧ rowR s c f (s.length + 1) i [] = rowR s c f n i' l ∧ Gr 1 z 1 t (Ex.encL l) l.length ∧ H = ⟨[.cells g 2 (rd s i'), z], c'⟩) (s.length - i)
    (gh1.of (ghost_room [.dead] (by simp)) ⟨i, [], s.length + 1, .dead, n, rfl, hi, by simp, by omega, rfl, .nil, rfl⟩) ?_
  rintro m t H ⟨i', l, n', z, c', rfl, hi', hl, hn, hrow, hg, rfl⟩
  obtain ⟨n', rfl⟩ : ∃ k, n' = k + 1 := ⟨n' - 1, by omega⟩
  refine wCallV.pc (b := 0) (hf i' hi') rfl rfl ?_
  intro r cs n2 hr
  rw [hrow] at hR
  simp only [rowR] at hR
  cases hx : f i' with
  | no e p =>
    rw [hx] at hr hR
    obtain ⟨zz, rfl, hz, j, rfl⟩ := hr
    simp only [nd0, Y1n, Y1o, Y1p, Y1q, Y1w, Y1x, Y1y, Y1z, Y20, Y21, Y28, Y2a, AV.cells?, Nat.reduceAdd, Nat.reduceMul, eqA_At]
    exact hR _ _ (rd s j) [z] n2 (.same _) ⟨rfl, j, rfl⟩
  | ok x j =>
    rw [hx] at hr hR
    obtain ⟨rfl, rfl⟩ := hr
    obtain ⟨a1, a2, a3, a4⟩ := hgood i' x j hi' hx
    have b1 := skipTo_le s j
    have b2 := skipTo_len a2
    simp only [nd0, Y1n, Y1o, Y1p, Y1q, Y1w, Y1x, Y1y, Y1z, Y20, Y21, Y28, Y2a, AV.cells?, Nat.reduceAdd, Nat.reduceMul]
    refine wNewS.F' (l := [x.enc]) (fill1 (Ex.enc_scalar x)) rfl ?_
    refine wApp.one hg rfl (Ex.encL_len l) (.refl _) (Ex.enc_scalar x) (by simp [mostBytes]; omega) ?_
    intro z' x' c2 hg'
    simp only [nd0, Y1n, Y1o, Y1p, Y1q, Y1w, Y1x, Y1y, Y1z, Y20, Y21, Y28, Y2a, AV.cells?, Nat.reduceAdd, Nat.reduceMul]
    refine wCall.pc (b := 0) (take_spec B.d s j c a2 hs) rfl rfl ?_
    rintro r cs n3 ⟨rfl, rfl⟩
    by_cases hc : s[skipTo s j]? = some c
    · have hlt := lt_of_get hc
      simp only [hc, if_true] at hR ⊢
      simp only [nd0, Y1n, Y1o, Y1p, Y1q, Y1w, Y1x, Y1y, Y1z, Y20, Y21, Y28, Y2a, AV.cells?, Nat.reduceAdd, Nat.reduceMul]
      refine back1.mk (s.length - (skipTo s j + 1)) (by omega) ⟨skipTo s j + 1, l ++ [x], n', z', n3, rfl, by omega, by simp; omega, by omega, ?_, ?_, rfl⟩
      · rw [hrow, rowR, hx]; simp only [hc, if_true]
      · rw [Ex.encL_snoc, List.length_append]; exact hg'
    · simp only [if_neg hc] at hR ⊢
      simp only [nd0, Y1n, Y1o, Y1p, Y1q, Y1w, Y1x, Y1y, Y1z, Y20, Y21, Y28, Y2a, AV.cells?, Nat.reduceAdd, Nat.reduceMul, decide_eq_false hc]
      have hg2 : Gr 1 z' 1 x' (Ex.encL (l ++ [x])) (l ++ [x]).length := by rw [Ex.encL_snoc, List.length_append]; exact hg'
      exact hR _ _ (rd s (skipTo s j)) [z'] n3 (.tup (.cons (.sub hg2.sub) (FkL.same _))) ⟨rfl, rfl⟩
theorem and_spec (B : ParseBodies E P) (s : Str) (hs : s.length < 1000000) (f : Nat → Rs Ex) (hgood : GoodR s f) (d : Nat) (hf : ∀ i, i ≤ s.length → PC E P 144 2 (rd s i) (fun b g => [.ptrL b 0 g, Z d]) (PX s (f i))) (i : Nat) (hi : i ≤ s.length) :
    PC E P 139 2 (rd s i) (fun b g => [.ptrL b 0 g, Z d]) (PX s (andR s f i)) := by
  refine PC.of (fun _ _ => rfl) (rd_closed s i) (fun _ _ h => h.closed) fun n g R hR => B.and _ _ _ _ ?_
  unfold F.pexpr_reader_and
  refine wCall.pc (b := 0) (several_spec B s hs 38 f hgood 144 d hf i hi) rfl rfl ?_
  intro r cs n2 hr
  unfold andR allR at hR
  cases hx : rowR s 38 f (s.length + 1) i [] with
  | no e p =>
    rw [hx] at hr hR
    obtain ⟨rfl, j, rfl⟩ := hr
    simp only [nd0, Y1n, Y1o, Y1p, Y1q, Y1w, Y1x, Y1y, Y1z, Y20, Y21, Y28, Y2a, AV.cells?, Nat.reduceAdd, Nat.reduceMul, eqA_At]
    exact hR _ _ (rd s j) [] n2 (.same _) ⟨_, rfl, trivial, j, rfl⟩
  | ok l j =>
    rw [hx] at hr hR
    obtain ⟨rfl, rfl⟩ := hr
    simp only [nd0, Y1n, Y1o, Y1p, Y1q, Y1w, Y1x, Y1y, Y1z, Y20, Y21, Y28, Y2a, AV.cells?, Nat.reduceAdd, Nat.reduceMul]
    by_cases hl : l.length = 1
    · obtain ⟨x, rfl⟩ := List.length_eq_one_iff.1 hl
      simp only [nd0, Y1n, Y1o, Y1p, Y1q, Y1w, Y1x, Y1y, Y1z, Y20, Y21, Y28, Y2a, AV.cells?, Nat.reduceAdd, Nat.reduceMul, show (((1 : Nat)) : Int) = 1 from rfl]
      rw [show ((0 : Int)) = ((0 : Nat) : Int) from rfl, iaddr_Nn (by simp)]
      simp only [nd0, Y1n, Y1o, Y1p, Y1q, Y1w, Y1x, Y1y, Y1z, Y20, Y21, Y28, Y2a, AV.cells?, Nat.reduceAdd, Nat.reduceMul, Ex.encL]
      exact hR _ _ (rd s j) [] n2 (.same _) ⟨rfl, rfl⟩
    · simp only [nd0, Y1n, Y1o, Y1p, Y1q, Y1w, Y1x, Y1y, Y1z, Y20, Y21, Y28, Y2a, AV.cells?, Nat.reduceAdd, Nat.reduceMul, decide_eq_false (show ¬ (l.length : Int) = 1 by omega)]
      refine hR _ _ (rd s j) [] n2 (.same _) ⟨?_, rfl⟩
      have : foldR .and l = .and l := by
        match l with
        | [] => rfl
        | [x] => simp at hl
        | x :: y :: r => rfl
      rw [this]; rfl
theorem or_spec (B : ParseBodies E P) (s : Str) (hs : s.length < 1000000) (f : Nat → Rs Ex) (hgood : GoodR s f) (d : Nat) (hf : ∀ i, i ≤ s.length → PC E P 144 2 (rd s i) (fun b g => [.ptrL b 0 g, Z d]) (PX s (f i))) (i : Nat) (hi : i ≤ s.length) :
    PC E P 133 2 (rd s i) (fun b g => [.ptrL b 0 g, Z d]) (PX s (orR s f i)) := by
  refine PC.of (fun _ _ => rfl) (rd_closed s i) (fun _ _ h => h.closed) fun n g R hR => B.or _ _ _ _ ?_
  unfold F.pexpr_reader_or
  refine wCall.pc (b := 0) (several_spec B s hs 124 (andR s f) (andR_good hgood) 139 d (and_spec B s hs f hgood d hf) i hi) rfl rfl ?_
  intro r cs n2 hr
  unfold orR allR at hR
  cases hx : rowR s 124 (andR s f) (s.length + 1) i [] with
  | no e p =>
    rw [hx] at hr hR
    obtain ⟨rfl, j, rfl⟩ := hr
    simp only [nd0, Y1n, Y1o, Y1p, Y1q, Y1w, Y1x, Y1y, Y1z, Y20, Y21, Y28, Y2a, AV.cells?, Nat.reduceAdd, Nat.reduceMul, eqA_At]
    exact hR _ _ (rd s j) [] n2 (.same _) ⟨_, rfl, trivial, j, rfl⟩
  | ok l j =>
    rw [hx] at hr hR
    obtain ⟨rfl, rfl⟩ := hr
    simp only [nd0, Y1n, Y1o, Y1p, Y1q, Y1w, Y1x, Y1y, Y1z, Y20, Y21, Y28, Y2a, AV.cells?, Nat.reduceAdd, Nat.reduceMul]
    by_cases hl : l.length = 1
    · obtain ⟨x, rfl⟩ := List.length_eq_one_iff.1 hl
      simp only [nd0, Y1n, Y1o, Y1p, Y1q, Y1w, Y1x, Y1y, Y1z, Y20, Y21, Y28, Y2a, AV.cells?, Nat.reduceAdd, Nat.reduceMul, show (((1 : Nat)) : Int) = 1 from rfl]
      rw [show ((0 : Int)) = ((0 : Nat) : Int) from rfl, iaddr_Nn (by simp)]
      simp only [nd0, Y1n, Y1o, Y1p, Y1q, Y1w, Y1x, Y1y, Y1z, Y20, Y21, Y28, Y2a, AV.cells?, Nat.reduceAdd, Nat.reduceMul, Ex.encL]
      exact hR _ _ (rd s j) [] n2 (.same _) ⟨rfl, rfl⟩
    · simp only [nd0, Y1n, Y1o, Y1p, Y1q, Y1w, Y1x, Y1y, Y1z, Y20, Y21, Y28, Y2a, AV.cells?, Nat.reduceAdd, Nat.reduceMul, decide_eq_false (show ¬ (l.length : Int) = 1 by omega)]
      refine hR _ _ (rd s j) [] n2 (.same _) ⟨?_, rfl⟩
      have : foldR .or l = .or l := by
        match l with
        | [] => rfl
        | [x] => simp at hl
        | x :: y :: r => rfl
      rw [this]; rfl
set_option maxHeartbeats 1000000 in
theorem one_spec (B : ParseBodies E P) (s : Str) (hs : s.length < 1000000) : ∀ (d : Nat), d < 1000 → ∀ i, i ≤ s.length → PC E P 144 2 (rd s i) (fun b g => [.ptrL b 0 g, Z d]) (PX s (oneR s d i)) := by
  intro d
  induction d with
  | zero =>
    intro _ i hi
    refine PC.of (fun _ _ => rfl) (rd_closed s i) (fun _ _ h => h.closed) fun n g R hR => B.one _ _ _ _ ?_
    unfold F.pexpr_reader_one
    simp only [nd0, Y1n, Y1o, Y1p, Y1q, Y1w, Y1x, Y1y, Y1z, Y20, Y21, Y28, Y2a, AV.cells?, Nat.reduceAdd, Nat.reduceMul, show ((0 : Nat) : Int) = 0 from rfl]
    refine wCall.pc (b := 0) (fail_spec B.d s i 4 hi hs) rfl rfl ?_
    rintro r cs n2 ⟨rfl, rfl⟩
    exact hR _ _ _ [] n2 (.same _) ⟨_, rfl, trivial, _, rfl⟩
  | succ d ih =>
    intro hd i hi
    refine PC.of (fun _ _ => rfl) (rd_closed s i) (fun _ _ h => h.closed) fun n g R hR => B.one _ _ _ _ ?_
    have hgood := oneR_good s d
    have ih := ih (by omega)
    unfold F.pexpr_reader_one
    have hk := skipTo_len hi
    have hid := skipTo_idem s i
    have hsub : binA .sub (Z ((d + 1 : Nat) : Int)) (Z 1) = some (Z d) := by
      rw [binA_sub (by omega)]; congr 3; omega
    simp only [nd0, Y1n, Y1o, Y1p, Y1q, Y1w, Y1x, Y1y, Y1z, Y20, Y21, Y28, Y2a, AV.cells?, Nat.reduceAdd, Nat.reduceMul, decide_eq_false (show ¬ ((d + 1 : Nat) : Int) = 0 by omega)]
    refine wCall.pc (b := 0) (take_spec B.d s i 33 hi hs) rfl rfl ?_
    rintro r cs n1 ⟨rfl, rfl⟩
    unfold oneR at hR
    generalize skipTo s i = k at hk hid hR
    by_cases h33 : s[k]? = some 33
    · rw [if_pos h33] at hR
      have hlt := lt_of_get h33
      simp only [nd0, Y1n, Y1o, Y1p, Y1q, Y1w, Y1x, Y1y, Y1z, Y20, Y21, Y28, Y2a, AV.cells?, Nat.reduceAdd, Nat.reduceMul, decide_eq_true h33, if_pos h33, hsub]
      refine wCall.pc (b := 0) (ih (k + 1) (by omega)) rfl rfl ?_
      intro r cs n2 hr
      cases hx : oneR s d (k + 1) with
      | no e p =>
        rw [hx] at hr hR
        obtain ⟨zz, rfl, hz, j, rfl⟩ := hr
        simp only [nd0, Y1n, Y1o, Y1p, Y1q, Y1w, Y1x, Y1y, Y1z, Y20, Y21, Y28, Y2a, AV.cells?, Nat.reduceAdd, Nat.reduceMul, eqA_At]
        exact hR _ _ (rd s j) [] n2 (.same _) ⟨_, rfl, trivial, j, rfl⟩
      | ok x j =>
        rw [hx] at hr hR
        obtain ⟨rfl, rfl⟩ := hr
        simp only [nd0, Y1n, Y1o, Y1p, Y1q, Y1w, Y1x, Y1y, Y1z, Y20, Y21, Y28, Y2a, AV.cells?, Nat.reduceAdd, Nat.reduceMul, show fillA [nilE] [(0, 1, x.enc)] = some [x.enc] from by rw [fillA_one (Ex.enc_scalar x) (by simp)]; rfl]
        exact hR _ _ (rd s j) [] n2 (.same _) ⟨rfl, rfl⟩
    rw [if_neg h33] at hR
    simp only [nd0, Y1n, Y1o, Y1p, Y1q, Y1w, Y1x, Y1y, Y1z, Y20, Y21, Y28, Y2a, AV.cells?, Nat.reduceAdd, Nat.reduceMul, decide_eq_false h33, if_neg h33]
    refine wCall.pc (b := 0) (take_spec B.d s k 40 hk hs) rfl rfl ?_
    rintro r cs n1 ⟨rfl, rfl⟩
    rw [hid]
    by_cases h40 : s[k]? = some 40
    · rw [if_pos h40] at hR
      have hlt := lt_of_get h40
      simp only [nd0, Y1n, Y1o, Y1p, Y1q, Y1w, Y1x, Y1y, Y1z, Y20, Y21, Y28, Y2a, AV.cells?, Nat.reduceAdd, Nat.reduceMul, decide_eq_true h40, if_pos h40, hsub]
      refine wCall.pc (b := 0) (or_spec B s hs (oneR s d) hgood d ih (k + 1) (by omega)) rfl rfl ?_
      intro r cs n2 hr
      cases hx : orR s (oneR s d) (k + 1) with
      | no e p =>
        rw [hx] at hr hR
        obtain ⟨zz, rfl, hz, j, rfl⟩ := hr
        simp only [nd0, Y1n, Y1o, Y1p, Y1q, Y1w, Y1x, Y1y, Y1z, Y20, Y21, Y28, Y2a, AV.cells?, Nat.reduceAdd, Nat.reduceMul, eqA_At]
        exact hR _ _ (rd s j) [] n2 (.same _) ⟨_, rfl, trivial, j, rfl⟩
      | ok x j =>
        rw [hx] at hr hR
        obtain ⟨rfl, rfl⟩ := hr
        obtain ⟨a1, a2, a3, a4⟩ := orR_good hgood _ x j (by omega) hx
        simp only [nd0, Y1n, Y1o, Y1p, Y1q, Y1w, Y1x, Y1y, Y1z, Y20, Y21, Y28, Y2a, AV.cells?, Nat.reduceAdd, Nat.reduceMul]
        refine wCall.pc (b := 0) (take_spec B.d s j 41 a2 hs) rfl rfl ?_
        rintro r cs n3 ⟨rfl, rfl⟩
        simp only [closeR] at hR
        have b2 := skipTo_len a2
        by_cases h41 : s[skipTo s j]? = some 41
        · rw [if_pos h41] at hR
          simp only [nd0, Y1n, Y1o, Y1p, Y1q, Y1w, Y1x, Y1y, Y1z, Y20, Y21, Y28, Y2a, AV.cells?, Nat.reduceAdd, Nat.reduceMul, decide_eq_true h41, if_pos h41]
          exact hR _ _ (rd s (skipTo s j + 1)) [] n3 (.same _) ⟨rfl, rfl⟩
        · rw [if_neg h41] at hR
          simp only [nd0, Y1n, Y1o, Y1p, Y1q, Y1w, Y1x, Y1y, Y1z, Y20, Y21, Y28, Y2a, AV.cells?, Nat.reduceAdd, Nat.reduceMul, decide_eq_false h41, if_neg h41]
          refine wCall.pc (b := 0) (fail_spec B.d s (skipTo s j) 3 b2 hs) rfl rfl ?_
          rintro r cs n4 ⟨rfl, rfl⟩
          exact hR _ _ _ [] n4 (.same _) ⟨nilE, by rw [skipTo_idem], trivial, _, rfl⟩
    rw [if_neg h40] at hR
    simp only [nd0, Y1n, Y1o, Y1p, Y1q, Y1w, Y1x, Y1y, Y1z, Y20, Y21, Y28, Y2a, AV.cells?, Nat.reduceAdd, Nat.reduceMul, decide_eq_false h40, if_neg h40]
    refine wCall.pc (b := 0) (take_spec B.d s k 48 hk hs) rfl rfl ?_
    rintro r cs n1 ⟨rfl, rfl⟩
    rw [hid]
    by_cases h48 : s[k]? = some 48
    · rw [if_pos h48] at hR
      simp only [nd0, Y1n, Y1o, Y1p, Y1q, Y1w, Y1x, Y1y, Y1z, Y20, Y21, Y28, Y2a, AV.cells?, Nat.reduceAdd, Nat.reduceMul, decide_eq_true h48, if_pos h48]
      exact hR _ _ (rd s (k + 1)) [] n1 (.same _) ⟨rfl, rfl⟩
    rw [if_neg h48] at hR
    simp only [nd0, Y1n, Y1o, Y1p, Y1q, Y1w, Y1x, Y1y, Y1z, Y20, Y21, Y28, Y2a, AV.cells?, Nat.reduceAdd, Nat.reduceMul, decide_eq_false h48, if_neg h48]
    refine wCall.pc (b := 0) (take_spec B.d s k 49 hk hs) rfl rfl ?_
    rintro r cs n1 ⟨rfl, rfl⟩
    rw [hid]
    by_cases h49 : s[k]? = some 49
    · rw [if_pos h49] at hR
      simp only [nd0, Y1n, Y1o, Y1p, Y1q, Y1w, Y1x, Y1y, Y1z, Y20, Y21, Y28, Y2a, AV.cells?, Nat.reduceAdd, Nat.reduceMul, decide_eq_true h49, if_pos h49]
      exact hR _ _ (rd s (k + 1)) [] n1 (.same _) ⟨rfl, rfl⟩
    rw [if_neg h49] at hR
    simp only [nd0, Y1n, Y1o, Y1p, Y1q, Y1w, Y1x, Y1y, Y1z, Y20, Y21, Y28, Y2a, AV.cells?, Nat.reduceAdd, Nat.reduceMul, decide_eq_false h49, if_neg h49]
    refine wCall.pc (b := 0) (take_spec B.d s k 94 hk hs) rfl rfl ?_
    rintro r cs n1 ⟨rfl, rfl⟩
    rw [hid]
    by_cases h94 : s[k]? = some 94
    · rw [if_pos h94] at hR
      have hlt := lt_of_get h94
      simp only [nd0, Y1n, Y1o, Y1p, Y1q, Y1w, Y1x, Y1y, Y1z, Y20, Y21, Y28, Y2a, AV.cells?, Nat.reduceAdd, Nat.reduceMul, decide_eq_true h94, if_pos h94]
      refine wCall.pc (b := 0) (word_spec B.d s (k + 1) (by omega) hs) rfl rfl ?_
      intro r cs n2 hr
      cases hx : wordR s (k + 1) with
      | no e p =>
        rw [hx] at hr hR
        obtain ⟨rfl, j, rfl⟩ := hr
        simp only [nd0, Y1n, Y1o, Y1p, Y1q, Y1w, Y1x, Y1y, Y1z, Y20, Y21, Y28, Y2a, AV.cells?, Nat.reduceAdd, Nat.reduceMul]
        exact hR _ _ (rd s j) [] n2 (.same _) ⟨_, rfl, trivial, j, rfl⟩
      | ok x j =>
        rw [hx] at hr hR
        obtain ⟨rfl, rfl⟩ := hr
        simp only [nd0, Y1n, Y1o, Y1p, Y1q, Y1w, Y1x, Y1y, Y1z, Y20, Y21, Y28, Y2a, AV.cells?, Nat.reduceAdd, Nat.reduceMul]
        exact hR _ _ (rd s j) [] n2 (.same _) ⟨rfl, rfl⟩
    rw [if_neg h94] at hR
    simp only [nd0, Y1n, Y1o, Y1p, Y1q, Y1w, Y1x, Y1y, Y1z, Y20, Y21, Y28, Y2a, AV.cells?, Nat.reduceAdd, Nat.reduceMul, decide_eq_false h94, if_neg h94]
    refine wCall.pc (b := 0) (take_spec B.d s k 126 hk hs) rfl rfl ?_
    rintro r cs n1 ⟨rfl, rfl⟩
    rw [hid]
    by_cases h126 : s[k]? = some 126
    · rw [if_pos h126] at hR
      have hlt := lt_of_get h126
      simp only [nd0, Y1n, Y1o, Y1p, Y1q, Y1w, Y1x, Y1y, Y1z, Y20, Y21, Y28, Y2a, AV.cells?, Nat.reduceAdd, Nat.reduceMul, decide_eq_true h126, if_pos h126]
      refine wCall.pc (b := 0) (word_spec B.d s (k + 1) (by omega) hs) rfl rfl ?_
      intro r cs n2 hr
      cases hx : wordR s (k + 1) with
      | no e p =>
        rw [hx] at hr hR
        obtain ⟨rfl, j, rfl⟩ := hr
        simp only [nd0, Y1n, Y1o, Y1p, Y1q, Y1w, Y1x, Y1y, Y1z, Y20, Y21, Y28, Y2a, AV.cells?, Nat.reduceAdd, Nat.reduceMul]
        exact hR _ _ (rd s j) [] n2 (.same _) ⟨_, rfl, trivial, j, rfl⟩
      | ok x j =>
        rw [hx] at hr hR
        obtain ⟨rfl, rfl⟩ := hr
        simp only [nd0, Y1n, Y1o, Y1p, Y1q, Y1w, Y1x, Y1y, Y1z, Y20, Y21, Y28, Y2a, AV.cells?, Nat.reduceAdd, Nat.reduceMul]
        exact hR _ _ (rd s j) [] n2 (.same _) ⟨rfl, rfl⟩
    rw [if_neg h126] at hR
    simp only [nd0, Y1n, Y1o, Y1p, Y1q, Y1w, Y1x, Y1y, Y1z, Y20, Y21, Y28, Y2a, AV.cells?, Nat.reduceAdd, Nat.reduceMul, decide_eq_false h126, if_neg h126]
    refine wCall.pc (b := 0) (word_spec B.d s k hk hs) rfl rfl ?_
    intro r cs n2 hr
    cases hx : wordR s k with
    | no e p =>
      rw [hx] at hr hR
      obtain ⟨rfl, j, rfl⟩ := hr
      simp only [nd0, Y1n, Y1o, Y1p, Y1q, Y1w, Y1x, Y1y, Y1z, Y20, Y21, Y28, Y2a, AV.cells?, Nat.reduceAdd, Nat.reduceMul]
      exact hR _ _ (rd s j) [] n2 (.same _) ⟨_, rfl, trivial, j, rfl⟩
    | ok x j =>
      rw [hx] at hr hR
      obtain ⟨rfl, rfl⟩ := hr
      simp only [nd0, Y1n, Y1o, Y1p, Y1q, Y1w, Y1x, Y1y, Y1z, Y20, Y21, Y28, Y2a, AV.cells?, Nat.reduceAdd, Nat.reduceMul]
      exact hR _ _ (rd s j) [] n2 (.same _) ⟨rfl, rfl⟩
/-- what Parse answers -/
def parseA (s : Str) : AV := if 2000 < s.length then .tup [nilE, Er 4] else match parseR s with
  | .ok x _ => .tup [x.enc, nilE]
  | .no e p => .tup [nilE, At e p]
theorem parseA_closed (s : Str) : (parseA s).closed := by
  unfold parseA
  split
  · exact ⟨trivial, Er_closed _, trivial⟩
  split
  · exact ⟨Ex.enc_closed _, trivial, trivial⟩
  · exact ⟨trivial, At_closed _ _, trivial⟩
theorem Parse_spec (B : ParseBodies E P) (s : Str) : FX E P 126 [S s] (parseA s) := by
  refine FX.of' ⟨trivial, trivial⟩ (parseA_closed s) fun n R hR => B.parse _ _ _ ?_
  unfold F.expr_Parse
  unfold parseA at hR
  simp only [nd0, Y1n, Y1o, Y1p, Y1q, Y1w, Y1x, Y1y, Y1z, Y20, Y21, Y28, Y2a, AV.cells?, Nat.reduceAdd, Nat.reduceMul]
  by_cases hl : 2000 < s.length
  · rw [if_pos hl] at hR
    simp only [nd0, Y1n, Y1o, Y1p, Y1q, Y1w, Y1x, Y1y, Y1z, Y20, Y21, Y28, Y2a, AV.cells?, Nat.reduceAdd, Nat.reduceMul, decide_eq_true (show (2000 : Int) < (s.length : Int) by omega)]
    exact hR _ _ rfl
  rw [if_neg hl] at hR
  simp only [nd0, Y1n, Y1o, Y1p, Y1q, Y1w, Y1x, Y1y, Y1z, Y20, Y21, Y28, Y2a, AV.cells?, Nat.reduceAdd, Nat.reduceMul, decide_eq_false (show ¬ (2000 : Int) < (s.length : Int) by omega), show fillA [S [], Z 0] [(0, 1, S s)] = some (rd s 0) from rfl, show (AV.val (.string ⟨#[]⟩)) = S [] from rfl]
  refine wNew.L (l := rd s 0) rfl ?_
  have hs : s.length < 1000000 := by omega
  refine wCall.pc (b := 0) (or_spec B s hs (oneR s 20) (oneR_good s 20) 20 (one_spec B s hs 20 (by omega)) 0 (by omega)) rfl rfl ?_
  intro r cs n2 hr
  unfold parseR at hR
  cases hx : orR s (oneR s 20) 0 with
  | no e p =>
    rw [hx] at hr hR
    obtain ⟨zz, rfl, hz, j, rfl⟩ := hr
    simp only [nd0, Y1n, Y1o, Y1p, Y1q, Y1w, Y1x, Y1y, Y1z, Y20, Y21, Y28, Y2a, AV.cells?, Nat.reduceAdd, Nat.reduceMul, eqA_At]
    exact hR _ _ rfl
  | ok x j =>
    rw [hx] at hr hR
    obtain ⟨rfl, rfl⟩ := hr
    obtain ⟨a1, a2, a3, a4⟩ := orR_good (oneR_good s 20) 0 x j (by omega) hx
    simp only [nd0, Y1n, Y1o, Y1p, Y1q, Y1w, Y1x, Y1y, Y1z, Y20, Y21, Y28, Y2a, AV.cells?, Nat.reduceAdd, Nat.reduceMul]
    refine wCall.pc (b := 0) (blanks_spec B.d s j a2 hs) rfl rfl ?_
    rintro r cs n3 ⟨rfl, rfl⟩
    have b2 := skipTo_len a2
    simp only [nd0, Y1n, Y1o, Y1p, Y1q, Y1w, Y1x, Y1y, Y1z, Y20, Y21, Y28, Y2a, AV.cells?, Nat.reduceAdd, Nat.reduceMul, rd]
    by_cases hlt : skipTo s j < s.length
    · simp only [if_pos hlt] at hR
      simp only [nd0, Y1n, Y1o, Y1p, Y1q, Y1w, Y1x, Y1y, Y1z, Y20, Y21, Y28, Y2a, AV.cells?, Nat.reduceAdd, Nat.reduceMul, decide_eq_true (show ((skipTo s j : Nat) : Int) < (s.length : Int) by omega)]
      refine wCall.pc (b := 0) (fail_spec B.d s (skipTo s j) 3 b2 hs) rfl rfl ?_
      rintro r cs n4 ⟨rfl, rfl⟩
      exact hR _ _ (by rw [skipTo_idem])
    · simp only [if_neg hlt] at hR
      simp only [nd0, Y1n, Y1o, Y1p, Y1q, Y1w, Y1x, Y1y, Y1z, Y20, Y21, Y28, Y2a, AV.cells?, Nat.reduceAdd, Nat.reduceMul, decide_eq_false (show ¬ ((skipTo s j : Nat) : Int) < (s.length : Int) by omega)]
      exact hR _ _ rfl
end
end Go.Sc
namespace Go.Sc
open Go
set_option linter.unusedSimpArgs false
set_option linter.unusedVariables false
set_option linter.unnecessarySimpa false
def pd (s : Str) (i e p : Int) : List AV := [S s, Z i, Z e, Z p]
theorem pd_closed (s : Str) (i e p : Int) : AV.closedL (pd s i e p) := ⟨trivial, trivial, trivial, trivial, trivial⟩
section
variable {E : Env} {P : Program}
end
end Go.Sc
namespace Go.Sc
open Go
set_option linter.unusedSimpArgs false
set_option linter.unusedVariables false
set_option linter.unnecessarySimpa false
/-- what the document's reader answers -/
def PR (s : Str) (r : Rs Ex) (x : AV) (cs : List AV) : Prop := match r with
  | .ok e j => x = e.ref ∧ cs = pd s j 0 (-1)
  | .no e p => x.closed ∧ x.scalar = true ∧ ∃ j : Int, cs = pd s j e p
theorem PR.closed {s : Str} {r : Rs Ex} {x : AV} {cs : List AV} (h : PR s r x cs) : x.closed ∧ AV.closedL cs := by
  unfold PR at h
  split at h
  · obtain ⟨rfl, rfl⟩ := h; exact ⟨Ex.ref_closed _, pd_closed _ _ _ _⟩
  · obtain ⟨hz, _, j, rfl⟩ := h; exact ⟨hz, pd_closed _ _ _ _⟩
section
variable {E : Env} {P : Program}
end
end Go.Sc
namespace Go.Sc
open Go Go.RowKit
set_option linter.unusedVariables false
/-- the context as a call begins: all that is there is frozen -/
def Cx.start (W : World) : Cx := { w := W, al := fun _ => 0, base := fun _ => 0, gen := fun _ => none, sz := fun _ => 0, csz := fun _ => 0, fz := fun b => b < W.heap.size, fc := fun _ _ => False, ctr := 0 }
/-- what is known of variables is so -/
def Env.met (E : Env) (W : World) : Prop := ∀ g cs, E.gl g = some cs → AV.closedL cs ∧ CRel E (Cx.start W) cs (E.gn g) 0
theorem HRel.start {E : Env} {W : World} (hg : E.met W) : HRel E (Cx.start W) ⟨[], 0⟩ :=
  ⟨rfl, fun _ _ => rfl, by simp, fun _ h => absurd rfl h, by simp, fun _ _ h => absurd rfl h, fun _ h => absurd rfl h, fun _ h => h, fun _ _ h => h.elim, hg⟩
theorem Later.below {W : World} {c : Cx} (h : Later (Cx.start W) c) : Below W.heap.size W c.w :=
  ⟨h.os, h.tape, h.output, h.size, fun k hk => h.keep k hk fun b hb => absurd rfl hb⟩

/-- a law's call -/
theorem calls_law {E : Env} {P : Program} {f : FuncId} {fn : Func} {n : Ann} {args : List AV} {r : Value} {W : World} (hf : P.funcs[f]? = some fn) (h : bodyW E P fn n args ⟨[], 0⟩ (fun x _ => x = .val r)) {vs : List Value} (hv : LRel E (Cx.start W) args vs) (hg : E.met W) :
    Calls P f vs.toArray W fun e w' => e = .returned r ∧ Below W.heap.size W w' := by
  refine (calls_of_body hf h (HRel.start hg) hv).mono ?_
  rintro e w' ⟨x, v, c', H', rfl, rfl, rfl, _, hv, hl⟩
  simp only [VRel] at hv
  subst hv
  exact ⟨rfl, hl.below⟩

theorem rel_str {E : Env} {c : Cx} (b : ByteArray) : VRel E c (S b.data.toList) (.string b) := by simp only [VRel]
theorem crel_start {E : Env} {W : World} {b : Nat} (hb : b < W.heap.size) {xs : List AV} {o : Nat} (h : ∀ (i : Nat) x, xs[i]? = some x → ∃ u, W.cell? ⟨b, o + i, none⟩ = some u ∧ VRel E (Cx.start W) x u) : CRel E (Cx.start W) xs b o :=
  CRel.of fun i x hi => ⟨.inl hb, h i x hi⟩
theorem list_of {α : Type} {Q : Nat → α → Prop} : ∀ n, (∀ i, i < n → ∃ x, Q i x) → ∃ xs : List α, xs.length = n ∧ ∀ (i : Nat) x, xs[i]? = some x → Q i x
  | 0, _ => ⟨[], rfl, by simp⟩
  | n + 1, h => by
    obtain ⟨xs, h1, h2⟩ := list_of n fun i hi => h i (by omega)
    obtain ⟨y, hy⟩ := h n (by omega)
    refine ⟨xs ++ [y], by simp [h1], fun i x hx => ?_⟩
    by_cases hi : i < xs.length
    · rw [List.getElem?_append_left hi] at hx; exact h2 i x hx
    · have hl := lt_of_get hx
      simp at hl
      have : i = xs.length := by omega
      subst this
      simp at hx
      rw [h1]; exact hx ▸ hy

section
variable {H : Type} {enc : TypeId × Value → H} {P : Program} {W : World} {E : Env} {fuel : Nat} {t : TypeId} {cs : List Value} {x : DataW H × List MemPlace}
theorem trod_i64r (ht : P.underlying t = some (.int .i64)) (h : DataW.trod enc P W 0 (fun _ => true) true fuel t cs = some x) : ∃ z, cs = [.int .i64 z] ∧ -9223372036854775808 ≤ z ∧ z ≤ 9223372036854775807 := by
  obtain ⟨n, h1, _, h2⟩ := DataW.trod_int ht h
  exact ⟨n, h1, by simpa [Lit.wf, IntKind.min, IntKind.max, IntKind.signed, IntKind.bits] using h2⟩
theorem cells_get {a : Addr} {n : Nat} {vs : List Value} (h : W.cells? 0 a n = some vs) : vs.length = n ∧ ∀ j v, vs[j]? = some v → W.cell? (a.add j) = some v := by
  simp only [World.cells?, Nat.zero_le, if_true] at h
  have hl : vs.length = n := by simpa using mapM_some_length h
  refine ⟨hl, fun j v hj => ?_⟩
  have hjn := lt_of_get hj
  have := mapM_some_get h j j (by rw [List.getElem?_range (by omega)])
  rw [this, hj]
theorem cell_spot {a : Addr} {v : Value} (h : W.cell? a = some v) : a.spot = none ∧ a.block < W.heap.size := by
  simp only [World.cell?] at h
  split at h
  · rename_i hb
    refine ⟨?_, ?_⟩
    · cases hs : a.spot with
      | none => rfl
      | some s => simp [hs] at h
    · by_cases hb' : a.block < W.heap.size
      · exact hb'
      · rw [Array.getElem?_eq_none (by omega)] at hb; cases hb
  · cases h
theorem crel_flat {α : Type} {f : α → List AV} {n b : Nat} (hb : b < W.heap.size) (hn : ∀ a, (f a).length = n) : ∀ (xs : List α) (o : Nat), (∀ (i : Nat) x, xs[i]? = some x → ∃ vs : List Value, LRel E (Cx.start W) (f x) vs ∧ ∀ j v, vs[j]? = some v → W.cell? ⟨b, o + i * n + j, none⟩ = some v) → CRel E (Cx.start W) (xs.map f).flatten b o
  | [], _, _ => by simp [CRel]
  | x :: xs, o, h => by
    simp only [List.map_cons, List.flatten_cons]
    refine CRel.append (crel_start hb fun i y hi => ?_) ?_
    · obtain ⟨vs, h1, h2⟩ := h 0 x rfl
      obtain ⟨u, h3, h4⟩ := h1.get hi
      exact ⟨u, by simpa using h2 i u h3, h4⟩
    · rw [hn]
      refine crel_flat hb hn xs (o + n) fun i y hi => ?_
      obtain ⟨vs, h1, h2⟩ := h (i + 1) y (by simpa using hi)
      refine ⟨vs, h1, fun j v hj => ?_⟩
      rw [← h2 j v hj]
      congr 2
      rw [Nat.add_mul]; omega

def inI (z : Int) : Prop := -9223372036854775808 ≤ z ∧ z ≤ 9223372036854775807
end
end Go.Sc
namespace Go.Sc
open Go Go.RowKit Go.WideShapes
set_option linter.unusedVariables false
def Sized {H : Type} (P : Program) (t : TypeId) (d : DataW H) : Prop := ∀ n ∈ d.weights P t, n ≤ reachBytes
theorem weights_all {H : Type} {P : Program} {e : TypeId} {d : DataW H} {n : Nat} (hn : n ∈ d.weights P e) : ∀ {l : List (DataW H)}, d ∈ l → n ∈ DataW.weightsAll P e l
  | y :: l, h => by
    simp only [DataW.weightsAll, List.mem_append]
    rcases List.mem_cons.1 h with rfl | h
    · exact .inl hn
    · exact .inr (weights_all hn h)
theorem Sized.of_each {H : Type} {P : Program} {ts : List TypeId} {ds : List (DataW H)} (h : (DataW.weightsEach P ts ds).all (· ≤ reachBytes) = true) {j : Nat} {t : TypeId} {d : DataW H} (ht : ts[j]? = some t) (hd : ds[j]? = some d) : Sized P t d := fun n hn => by
  have := List.all_eq_true.1 h n (DataW.weights_mem_each ht hd n hn)
  simpa using this

/-- a type's values, as 'f' tells them -/
structure Dec {H : Type} (enc : TypeId × Value → H) (P : Program) (W : World) (E : Env) (t : TypeId) {α : Type} (f : α → List AV) (Q : α → Prop) : Prop where
  ok : ∀ fuel cs x, DataW.trod enc P W 0 (fun _ => true) true fuel t cs = some x → Sized P t x.1 → ∃ a, Q a ∧ LRel E (Cx.start W) (f a) cs

section
variable {H : Type} {enc : TypeId × Value → H} {P : Program} {W : World} {E : Env} {t : TypeId}
theorem LRel.one {c : Cx} {x : AV} {v : Value} (h : VRel E c x v) : LRel E c [x] [v] := by simp only [LRel]; exact ⟨v, [], rfl, h, rfl⟩
theorem LRel.one' {c : Cx} {x : AV} {vs : List Value} (h : LRel E c [x] vs) : ∃ v, vs = [v] ∧ VRel E c x v := by
  simp only [LRel] at h
  obtain ⟨u, us, rfl, h1, rfl⟩ := h
  exact ⟨u, rfl, h1⟩
theorem Dec.map {α β : Type} {f : α → List AV} {Q : α → Prop} (h : Dec enc P W E t f Q) {g : β → List AV} {Q' : β → Prop} (φ : α → β) (hφ : ∀ a, Q a → Q' (φ a) ∧ g (φ a) = f a) : Dec enc P W E t g Q' where
  ok := fun fuel cs x hx hs => by
    obtain ⟨a, h1, h2⟩ := h.ok fuel cs x hx hs
    exact ⟨φ a, (hφ a h1).1, (hφ a h1).2 ▸ h2⟩
theorem Dec.i64 (ht : P.underlying t = some (.int .i64)) : Dec enc P W E t (fun z => [Z z]) inI where
  ok := fun fuel cs x hx _ => by
    obtain ⟨z, rfl, h⟩ := trod_i64r ht hx
    exact ⟨z, h, .one (by simp [VRel])⟩
theorem Dec.str (ht : P.underlying t = some .string) : Dec enc P W E t (fun s => [S s]) (fun s : Str => s.length ≤ reachBytes) where
  ok := fun fuel cs x hx hs => by
    obtain ⟨b, rfl, rfl, _⟩ := DataW.trod_string ht hx
    exact ⟨b.data.toList, hs _ (by simp [DataW.weights]), .one (rel_str b)⟩
theorem Dec.slice {α : Type} {e : TypeId} {f : α → List AV} {Q : α → Prop} (n : Nat) (d : Dec enc P W E e f Q) (hn : ∀ a, (f a).length = n) (h0 : 0 < n) (ht : P.underlying t = some (.slice e)) (hc : P.cellsOf e = n) :
    Dec enc P W E t (fun xs : List α => [.slN (xs.map f).flatten xs.length]) (fun xs => (∀ x ∈ xs, Q x) ∧ xs.length * P.bytesOf e ≤ reachBytes) where
  ok := fun fuel cs x h hs => by
    rcases DataW.trod_slice ht h with ⟨rfl, _⟩ | ⟨a, len, cap, elems, rest, m, _, rfl, rfl, _, hl, hmx, hel, he, hr, _⟩
    · exact ⟨[], ⟨by simp, by simp⟩, .one (by simp [VRel])⟩
    · simp only [Sized, DataW.weights, ht, List.mem_cons, List.mem_append, List.length_map] at hs
      have hlen : (elems.length + rest.length) * P.bytesOf e ≤ reachBytes := hs _ (.inl rfl)
      obtain ⟨hr1, hr2⟩ := hr rfl
      have hcell : ∀ i, i < len → ∃ vs y, W.cells? 0 (a.add (i * n)) n = some vs ∧ DataW.trod enc P W 0 (fun _ => true) true m e vs = some y ∧ Sized P e y.1 := by
        intro i hi
        have h1 := he i hi
        rw [hc, List.getElem?_eq_getElem (by omega)] at h1
        simp only [Option.bind_eq_some_iff] at h1
        obtain ⟨vs, h2, h3⟩ := h1
        exact ⟨vs, _, h2, h3, fun k hk => hs k (.inr (.inl (weights_all hk (List.mem_map.2 ⟨_, List.getElem_mem _, rfl⟩))))⟩
      have hzero : cap = 0 ∨ ∃ v, W.cell? a = some v := by
        by_cases hl0 : 0 < len
        · obtain ⟨vs, _, h1, _⟩ := hcell 0 hl0
          obtain ⟨g1, g2⟩ := cells_get h1
          have : vs[0]? = some vs[0] := List.getElem?_eq_getElem (by omega)
          exact .inr ⟨_, by simpa [Addr.add] using g2 0 _ this⟩
        · by_cases hcp : 0 < cap
          · have h1 := hr2 0 (by omega)
            rw [hc, List.getElem?_eq_getElem (by omega)] at h1
            simp only [Option.bind_eq_some_iff] at h1
            obtain ⟨vs, h2, _⟩ := h1
            obtain ⟨g1, g2⟩ := cells_get h2
            have : vs[0]? = some vs[0] := List.getElem?_eq_getElem (by omega)
            have hlen0 : len = 0 := by omega
            subst hlen0
            exact .inr ⟨_, by simpa [Addr.add] using g2 0 _ this⟩
          · exact .inl (by omega)
      obtain ⟨xs, hx1, hx2⟩ := list_of (Q := fun i (x : α) => Q x ∧ ∃ vs : List Value, LRel E (Cx.start W) (f x) vs ∧ ∀ j v, vs[j]? = some v → W.cell? ((a.add (i * n)).add j) = some v) len fun i hi => by
        obtain ⟨vs, y, h1, h2, h3⟩ := hcell i hi
        obtain ⟨g1, g2⟩ := cells_get h1
        obtain ⟨z, h3, h4⟩ := d.ok m vs y h2 h3
        exact ⟨z, h3, vs, h4, g2⟩
      refine ⟨xs, ⟨fun x hx => ?_, ?_⟩, .one ?_⟩
      · obtain ⟨i, hi, rfl⟩ := List.getElem_of_mem hx
        exact (hx2 i _ (List.getElem?_eq_getElem hi)).1
      · rw [hx1, ← hel]
        exact Nat.le_trans (Nat.mul_le_mul_right _ (by omega)) hlen
      · simp only [VRel]
        refine .inr ⟨a, cap, by rw [hx1], by omega, hzero.imp id ?_⟩
        rintro ⟨v, hv⟩
        have hs := cell_spot hv
        obtain ⟨blk, off, spot⟩ := a
        have hspot : spot = none := hs.1
        subst hspot
        refine ⟨blk, off, rfl, crel_flat hs.2 hn xs off fun i x hi => ?_⟩
        obtain ⟨_, vs, h1, h2⟩ := hx2 i x hi
        refine ⟨vs, h1, fun j v hj => ?_⟩
        have := h2 j v hj
        rwa [Addr.add_at, Addr.add_at] at this
/-! ### arguments -/
theorem Dec.arg_i64 {α : Type} {g : α → AV} {Q : α → Prop} {r : Reach} {b0 : Nat} {v : Value} {x : DataW H} {ps : List MemPlace} (d : Dec enc P W E t (fun a => [g a]) Q) (ht : P.underlying t = some (.int .i64)) (hv : Value.okWide P W r b0 t v)
    (h : DataW.Trod enc P W 0 (fun _ => true) true t v x ps) (hs : Sized P t x) : ∃ a, Q a ∧ VRel E (Cx.start W) (g a) v := by
  obtain ⟨n, rfl⟩ := okWide_int ht hv
  obtain ⟨fuel, hf⟩ := h
  obtain ⟨a, h1, h2⟩ := d.ok _ _ _ hf hs
  obtain ⟨u, e, h3⟩ := h2.one'
  simp [Value.cells] at e
  exact ⟨a, h1, e ▸ h3⟩
theorem Dec.arg_str {α : Type} {g : α → AV} {Q : α → Prop} {r : Reach} {b0 : Nat} {v : Value} {x : DataW H} {ps : List MemPlace} (d : Dec enc P W E t (fun a => [g a]) Q) (ht : P.underlying t = some .string) (hv : Value.okWide P W r b0 t v)
    (h : DataW.Trod enc P W 0 (fun _ => true) true t v x ps) (hs : Sized P t x) : ∃ a, Q a ∧ VRel E (Cx.start W) (g a) v := by
  obtain ⟨n, rfl⟩ := okWide_string ht hv
  obtain ⟨fuel, hf⟩ := h
  obtain ⟨a, h1, h2⟩ := d.ok _ _ _ hf hs
  obtain ⟨u, e, h3⟩ := h2.one'
  simp [Value.cells] at e
  exact ⟨a, h1, e ▸ h3⟩
/-! ### variables -/
end
end Go.Sc
namespace Go.Sc
open Go Go.RowKit
section
variable {E : Env} {P : Program}
theorem FX.ofCalls {k : Nat} {fn : Func} {args : List AV} {r : AV} (hf : P.funcs[E.fn k]? = some fn) (hn : (fn.name == "runtime.NumGoroutine") = false) (hb : fn.body.isNone = false) (ca : AV.closedL args) (hfl : r.flat) (hcl : r.closed)
    (h : ∀ (c : Cx) (vs : List Value), (∀ b, c.fz b → b < c.w.heap.size) → (∀ g cs, E.gl g = some cs → CRel E c cs (E.gn g) 0) → LRel E c args vs →
      Calls P (E.fn k) vs.toArray c.w fun e w' => ∃ v, e = .returned v ∧ Below c.w.heap.size c.w w' ∧ VRel E c r v) : FX E P k args r where
  ca := ca
  cr := hcl
  ok := by
    intro n c vs hH hv o a next Q hnext
    have hrun : (callFunc (E.fn k) vs.toArray).run P c.w = .ok (.enter (E.fn k) vs.toArray) c.w := by
      have hn' : ¬ ((fn.name == "runtime.NumGoroutine") = true) := by rw [hn]; simp
      have hb' : ¬ (fn.body.isNone = true) := by rw [hb]; simp
      simp only [callFunc, Sem.run_bind, run_program, Result.andThen_ok, hf, if_neg hn', if_neg hb', Sem.run_pure]
    rw [hrun]
    simp only [Oper.upon]
    have hgen : ∀ b, c.gen b = none := fun b => hH.out b (by simp)
    refine (h c vs hH.fzlt (fun g cs e => (hH.glob g cs e).2) hv).mono ?_
    rintro e w' ⟨v, rfl, bel, hrv⟩
    have hle : c.le { c with w := w' } := ⟨Nat.le_refl _, fun b hb => ⟨hb, bel.block b (hH.fzlt b hb)⟩, fun b o hb => ⟨.inr hb, cell_of_heap (bel.block b (hH.fclt b o hb)) _ _⟩, fun _ _ _ e => ⟨e, rfl, rfl, rfl, rfl⟩, fun _ _ _ _ _ h => h⟩
    have hL : Later c { c with w := w' } := {
      le := hle
      os := bel.os
      tape := bel.tape
      output := bel.output
      size := bel.size
      keep := fun i hi _ => bel.block i hi
      own := fun b hb => .inl ⟨b, hb, rfl⟩
      fz := fun i hi => .inl hi
      fc := fun i j hi => .inl hi }
    refine hnext v w' ⟨r, { c with w := w' }, ⟨[], n⟩, rfl, rfl, ⟨hH.ctr, hH.out, by simp, fun b hb => absurd (hgen b) hb, by simp, fun b _ hb => absurd (hgen b) hb, fun b hb => absurd (hgen b) hb, fun b hb => Nat.lt_of_lt_of_le (hH.fzlt b hb) bel.size, fun b j hb => Nat.lt_of_lt_of_le (hH.fclt b j hb) bel.size, hH.globLe hle⟩, VRel.ofFlat r v hfl hrv, hL⟩
/-- api.Tell: the code in an error -/
theorem FX.tell {k g X : Nat} {fn : Func} {ev : Value} (hf : P.funcs[E.fn k]? = some fn) (hn : (fn.name == "runtime.NumGoroutine") = false) (hb : fn.body.isNone = false) (hty : E.ty 1 = X) (hgl : E.gl g = some [.val ev])
    (h0 : ∀ w, Calls P (E.fn k) #[.nilIface] w fun e w' => e = .returned (.int .i64 0) ∧ Below w.heap.size w w')
    (h1 : ∀ z w, w.cell? ⟨E.gn g, 0, none⟩ = some ev → Calls P (E.fn k) #[.iface X (.int .i64 z)] w fun e w' => e = .returned (.int .i64 z) ∧ Below w.heap.size w w') (e : Int) : FX E P k [Er e] (Z e) := by
  refine FX.ofCalls hf hn hb (by simp [AV.closedL, Er_closed]) (by simp [AV.flat]) (by simp [AV.closed]) fun c vs _ hg hv => ?_
  obtain ⟨v, rfl, hr⟩ := hv.one'
  by_cases he : e = 0
  · subst he
    simp only [Er, if_true, VRel] at hr
    subst hr
    refine (h0 c.w).mono fun e w' h => ?_
    exact ⟨_, h.1, h.2, by simp [VRel]⟩
  · simp only [Er, he, if_false, VRel] at hr
    obtain ⟨u, rfl, _, rfl⟩ := hr
    have hc := hg g _ hgl
    simp only [CRel, VRel] at hc
    obtain ⟨⟨_, u, hu, rfl⟩, _⟩ := hc
    rw [hty]
    refine (h1 e c.w hu).mono fun e w' h => ?_
    exact ⟨_, h.1, h.2, by simp [VRel]⟩
end
end Go.Sc
namespace Go.Sc
open Go
set_option linter.unusedSimpArgs false
set_option linter.unusedVariables false
set_option linter.unnecessarySimpa false
def Ex.kind : Ex → Str
  | .k b => if b then [49] else [48]
  | .bit _ => [98, 105, 116]
  | .rise _ => [94]
  | .fall _ => [126]
  | .not _ => [33]
  | .and _ => [38]
  | .or _ => [124]
def Ex.of : Ex → AV
  | .not x => .slN [x.ref] 1
  | .and l => .slN (Ex.refL l) l.length
  | .or l => .slN (Ex.refL l) l.length
  | _ => nilS
def Ex.isAnd : Ex → Bool
  | .and _ => true
  | _ => false
def Ex.isOr : Ex → Bool
  | .or _ => true
  | _ => false
theorem Ex.wr_two (x : Ex) : x.wr 2 = around (x.isAnd || x.isOr) (x.wr 0) := by cases x <;> simp [Ex.wr, Ex.isAnd, Ex.isOr, around]
theorem Ex.wr_one (x : Ex) : x.wr 1 = around x.isOr (x.wr 0) := by cases x <;> simp [Ex.wr, Ex.isAnd, Ex.isOr, around]
theorem Ex.wt_mem {x : Ex} : ∀ {l : List Ex}, x ∈ l → x.wt ≤ Ex.wtL l
  | y :: l, h => by
    rcases List.mem_cons.1 h with rfl | h
    · simp only [Ex.wtL]; omega
    · have := Ex.wt_mem h; simp only [Ex.wtL]; omega
theorem Ex.fine_mem {x : Ex} : ∀ {l : List Ex}, Ex.fineL l → x ∈ l → x.fine
  | y :: l, h, hx => by
    rcases List.mem_cons.1 hx with rfl | hx
    · exact h.1
    · exact Ex.fine_mem h.2 hx
theorem Ex.len_wtL : ∀ {l : List Ex}, Ex.fineL l → l.length ≤ Ex.wtL l
  | [], _ => by simp
  | x :: l, h => by
    have h2 := Ex.len_wtL h.2
    have : 1 ≤ x.wt := by
      have h1 := h.1
      cases x with
      | bit s => cases s with
        | nil => simp [Ex.fine, nameOk] at h1
        | cons a b => simp [Ex.wt]
      | _ => simp only [Ex.wt]; omega
    simp only [Ex.wtL, List.length_cons]; omega
theorem Lm_S {l : List Str} : Lm S l = .slN (l.map fun s => S s) l.length := rfl
section
variable {E : Env} {P : Program}
theorem asA {k k' : Nat} {z a : AV} : assertA k z (.ifc k' a) = some (if k' = k then .tup [a, Bo true] else .tup [z, Bo false]) := by
  simp only [assertA]; split <;> rfl
end
end Go.Sc
namespace Go.Sc.F
open Go Go.Sc
set_option linter.unusedVariables false
/-- signalbox/signalboxkeep.pick -/
def keep_pick (E : Env) (P : Program) (a0 a1 : AV) (H : AH) (R : Kt) : Prop :=
  wGet (convA (.int .u64) a0) H fun t6 H =>
  wGet (convA (.int .u64) a1) H fun t8 H =>
  wGet (binA .rem t6 t8) H fun t9 H =>
  wGet (convA (.int .i64) t9) H fun t10 H =>
  R t10 H

end Go.Sc.F
namespace Go.Sc
open Go
set_option linter.unusedSimpArgs false
set_option linter.unusedVariables false
def idxO : Option Nat → Int
  | some i => i
  | none => -1

section
variable {E : Env} {P : Program}
end
end Go.Sc
namespace Go.Sc.F
open Go Go.Sc
set_option linter.unusedVariables false
/-- signalbox/expr.Eval -/
def expr_Eval (E : Env) (P : Program) (a0 a1 a2 : AV) (H : AH) (R : Kt) : Prop :=
  wNew 1 (AV.cells? a1) H fun t4 H =>
  wNew 1 (AV.cells? a2) H fun t5 H =>
  wGet (assertA 11 (.val (.bool false)) a0) H fun t15 H =>
  wGet (extractA t15 1) H fun t16 H =>
  wGet (extractA t15 0) H fun t17 H =>
  wIf t16 (
    R t17 H) (
    wGet (assertA 14 (.val (.string ⟨#[]⟩)) a0) H fun t19 H =>
    wGet (extractA t19 1) H fun t20 H =>
    wGet (extractA t19 0) H fun t21 H =>
    wIf t20 (
      wGet (load1 t4 H) H fun t22 H =>
      wCallV E P t22 [t21] H fun t24 H =>
      R t24 H) (
      wGet (assertA 12 (.val (.string ⟨#[]⟩)) a0) H fun t25 H =>
      wGet (extractA t25 1) H fun t26 H =>
      wGet (extractA t25 0) H fun t27 H =>
      wIf t26 (
        wGet (load1 t4 H) H fun t28 H =>
        wCallV E P t28 [t27] H fun t30 H =>
        wGuard t30 true H (fun k => wGet (load1 t5 H) H k) fun t32 H =>
        wGuard t30 true H (fun k => k t27 H) fun t33 H =>
        wGuard t30 true H (fun k => wCallV E P t32 [t33] H k) fun t34 H =>
        wGuard t30 true H (fun k => wGet (unA .not t34) H k) fun t35 H =>
        wGet (pickA t30 t35 (.val (.bool false))) H fun t36 H =>
        R t36 H) (
        wGet (assertA 13 (.val (.string ⟨#[]⟩)) a0) H fun t37 H =>
        wGet (extractA t37 1) H fun t38 H =>
        wGet (extractA t37 0) H fun t39 H =>
        wIf t38 (
          wGet (load1 t4 H) H fun t40 H =>
          wCallV E P t40 [t39] H fun t42 H =>
          wGet (unA .not t42) H fun t43 H =>
          wGuard t43 true H (fun k => wGet (load1 t5 H) H k) fun t45 H =>
          wGuard t43 true H (fun k => k t39 H) fun t46 H =>
          wGuard t43 true H (fun k => wCallV E P t45 [t46] H k) fun t47 H =>
          wGet (pickA t43 t47 (.val (.bool false))) H fun t48 H =>
          R t48 H) (
          wGet (assertA 10 (.agg [(.val (.nilIface))]) a0) H fun t49 H =>
          wGet (extractA t49 1) H fun t50 H =>
          wGet (extractA t49 0) H fun t51 H =>
          wIf t50 (
            wNew 1 (some [(.val (.nilIface))]) H fun t11 H =>
            wPut (storeN 1 t11 t51 H) fun _u H =>
            wGet (faddr 0 t11) H fun t52 H =>
            wGet (load1 t52 H) H fun t53 H =>
            wGet (load1 t4 H) H fun t54 H =>
            wGet (load1 t5 H) H fun t55 H =>
            wCall E P 158 [t53, t54, t55] H fun t56 H =>
            wGet (unA .not t56) H fun t57 H =>
            R t57 H) (
            wGet (assertA 9 (.val (.slice none 0 0)) a0) H fun t58 H =>
            wGet (extractA t58 1) H fun t59 H =>
            wGet (extractA t58 0) H fun t60 H =>
            wIf t59 (
              wCall E P 163 [t60, (.fn 162 [] [t4, t5])] H fun t63 H =>
              wGet (unA .not t63) H fun t64 H =>
              R t64 H) (
              wGet (assertA 8 (.val (.slice none 0 0)) a0) H fun t65 H =>
              wGet (extractA t65 1) H fun t66 H =>
              wGet (extractA t65 0) H fun t67 H =>
              wIf t66 (
                wCall E P 165 [t67, (.fn 164 [] [t4, t5])] H fun t70 H =>
                R t70 H) (
                R (.val (.bool false)) H)))))))

/-- signalbox/signalboxkeep.among -/
def keep_among (E : Env) (P : Program) (a0 : AV) (H : AH) (R : Kt) : Prop :=
  wNew 1 (AV.cells? a0) H fun t1 H =>
  R (.fn 166 [] [t1]) H

/-- signalbox/expr.walk -/
def expr_walk (E : Env) (P : Program) (a0 a1 : AV) (H : AH) (R : Kt) : Prop :=
  wCallV E P a1 [a0] H fun t13 H =>
  wGet (assertA 10 (.agg [(.val (.nilIface))]) a0) H fun t15 H =>
  wGet (extractA t15 1) H fun t16 H =>
  wGet (extractA t15 0) H fun t17 H =>
  wIf t16 (
    wNew 1 (some [(.val (.nilIface))]) H fun t4 H =>
    wPut (storeN 1 t4 t17 H) fun _u H =>
    wGet (faddr 0 t4) H fun t18 H =>
    wGet (load1 t18 H) H fun t19 H =>
    wCall E P 161 [t19, a1] H fun t21 H =>
    R (.tup []) H) (
    wGet (assertA 9 (.val (.slice none 0 0)) a0) H fun t22 H =>
    wGet (extractA t22 1) H fun t23 H =>
    wGet (extractA t22 0) H fun t24 H =>
    wIf t23 (
      wGet (lenA t24) H fun t26 H =>
      wLoop 1 (fun I1 => I1 (.val (.int .i64 0)) H) fun I1 t27 H =>
        wGet (binA .lss t27 t26) H fun t28 H =>
        wIf t28 (
          wGet (iaddr 1 t24 t27) H fun t29 H =>
          wGet (load1 t29 H) H fun t30 H =>
          wCall E P 161 [t30, a1] H fun t33 H =>
          wGet (binA .add t27 (.val (.int .i64 1))) H fun t34 H =>
          I1 t34 H) (
          R (.tup []) H)) (
      wGet (assertA 8 (.val (.slice none 0 0)) a0) H fun t35 H =>
      wGet (extractA t35 1) H fun t36 H =>
      wGet (extractA t35 0) H fun t37 H =>
      wIf t36 (
        wGet (lenA t37) H fun t39 H =>
        wLoop 1 (fun I2 => I2 (.val (.int .i64 0)) H) fun I2 t40 H =>
          wGet (binA .lss t40 t39) H fun t41 H =>
          wIf t41 (
            wGet (iaddr 1 t37 t40) H fun t42 H =>
            wGet (load1 t42 H) H fun t43 H =>
            wCall E P 161 [t43, a1] H fun t46 H =>
            wGet (binA .add t40 (.val (.int .i64 1))) H fun t47 H =>
            I2 t47 H) (
            R (.tup []) H)) (
        R (.tup []) H)))

/-- slices.ContainsFunc[signalbox/expr.And,signalbox/expr.Expr] -/
def slices_ContainsFunc_expr_And_expr_Expr (E : Env) (P : Program) (a0 a1 : AV) (H : AH) (R : Kt) : Prop :=
  wCall E P 167 [a0, a1] H fun t7 H =>
  wGet (binA .geq t7 (.val (.int .i64 0))) H fun t8 H =>
  R t8 H

/-- signalbox/expr.Eval$1 -/
def expr_Eval_c1 (E : Env) (P : Program) (a0 a1 a2 : AV) (H : AH) (R : Kt) : Prop :=
  wGet (load1 a1 H) H fun t6 H =>
  wGet (load1 a2 H) H fun t7 H =>
  wCall E P 158 [a0, t6, t7] H fun t8 H =>
  wGet (unA .not t8) H fun t9 H =>
  R t9 H

/-- slices.ContainsFunc[signalbox/expr.Or,signalbox/expr.Expr] -/
def slices_ContainsFunc_expr_Or_expr_Expr (E : Env) (P : Program) (a0 a1 : AV) (H : AH) (R : Kt) : Prop :=
  wCall E P 168 [a0, a1] H fun t7 H =>
  wGet (binA .geq t7 (.val (.int .i64 0))) H fun t8 H =>
  R t8 H

/-- signalbox/expr.Eval$2 -/
def expr_Eval_c2 (E : Env) (P : Program) (a0 a1 a2 : AV) (H : AH) (R : Kt) : Prop :=
  wGet (load1 a1 H) H fun t6 H =>
  wGet (load1 a2 H) H fun t7 H =>
  wCall E P 158 [a0, t6, t7] H fun t8 H =>
  R t8 H

/-- signalbox/signalboxkeep.among$1 -/
def keep_among_c1 (E : Env) (P : Program) (a0 a1 : AV) (H : AH) (R : Kt) : Prop :=
  wLoop 1 (fun I1 => I1 (.val (.int .i64 0)) H) fun I1 t4 H =>
    wGet (load1 a1 H) H fun t6 H =>
    wGet (lenA t6) H fun t7 H =>
    wGet (binA .lss t4 t7) H fun t8 H =>
    wIf t8 (
      wGet (load1 a1 H) H fun t11 H =>
      wGet (iaddr 1 t11 t4) H fun t13 H =>
      wGet (load1 t13 H) H fun t14 H =>
      wGet (binA .eql t14 a0) H fun t16 H =>
      wIf t16 (
        R (.val (.bool true)) H) (
        wGet (binA .add t4 (.val (.int .i64 1))) H fun t10 H =>
        I1 t10 H)) (
      R (.val (.bool false)) H)

/-- slices.IndexFunc[signalbox/expr.And,signalbox/expr.Expr] -/
def slices_IndexFunc_expr_And_expr_Expr (E : Env) (P : Program) (a0 a1 : AV) (H : AH) (R : Kt) : Prop :=
  wGet (lenA a0) H fun t7 H =>
  wLoop 1 (fun I1 => I1 (.val (.int .i64 0)) H) fun I1 t8 H =>
    wGet (binA .lss t8 t7) H fun t9 H =>
    wIf t9 (
      wGet (iaddr 1 a0 t8) H fun t14 H =>
      wGet (load1 t14 H) H fun t15 H =>
      wCallV E P a1 [t15] H fun t16 H =>
      wIf t16 (
        R t8 H) (
        wGet (binA .add t8 (.val (.int .i64 1))) H fun t18 H =>
        I1 t18 H)) (
      R (.val (.int .i64 (-1))) H)

/-- slices.IndexFunc[signalbox/expr.Or,signalbox/expr.Expr] -/
def slices_IndexFunc_expr_Or_expr_Expr (E : Env) (P : Program) (a0 a1 : AV) (H : AH) (R : Kt) : Prop :=
  wGet (lenA a0) H fun t7 H =>
  wLoop 1 (fun I1 => I1 (.val (.int .i64 0)) H) fun I1 t8 H =>
    wGet (binA .lss t8 t7) H fun t9 H =>
    wIf t9 (
      wGet (iaddr 1 a0 t8) H fun t14 H =>
      wGet (load1 t14 H) H fun t15 H =>
      wCallV E P a1 [t15] H fun t16 H =>
      wIf t16 (
        R t8 H) (
        wGet (binA .add t8 (.val (.int .i64 1))) H fun t18 H =>
        I1 t18 H)) (
      R (.val (.int .i64 (-1))) H)

end Go.Sc.F
