/- EXPRESSIONS MADE TIDY: plain. WHAT IS TIDY STAYS AS IT IS: plain. CONTRACTS: package expr: how great an expression is; the keep's fact of it. CONTRACTS: package expr: an expression is made tidy. (of the seat YtmeppifnagiamaaDoor) -/
import Derived.Test.YtmeppifnagiamaaDoorCore10
namespace Go.Sc
open Go
set_option linter.unusedSimpArgs false
set_option linter.unusedVariables false

def Ex.other : Ex → Ex
  | .not x => x
  | x => .not x
def hasT (l : List Ex) (t : Str) : Bool := l.any fun z => decide (z.wr 0 = t)
def addP (l : List Ex) (y : Ex) : Option (List Ex) := if hasT l (y.wr 0) = true then some l else if hasT l (y.other.wr 0) = true then none else some (l ++ [y])
def addAll : List Ex → List Ex → Option (List Ex)
  | l, [] => some l
  | l, y :: ys => match addP l y with
    | none => none
    | some l' => addAll l' ys
def pieces (mode : Bool) : Ex → Option (List Ex)
  | .k b => if b = mode then some [] else none
  | .and l => some (if mode then l else [.and l])
  | .or l => some (if mode then [.or l] else l)
  | x => some [x]
def packT (mode : Bool) : Option (List Ex) → Ex
  | none => .k (!mode)
  | some [] => .k mode
  | some [x] => x
  | some l => if mode then .and l else .or l
def notT : Ex → Ex
  | .k b => .k !b
  | .not y => y
  | y => .not y
mutual
def Ex.tidy : Ex → Ex
  | .not x => notT x.tidy
  | .and l => packT true (Ex.tidyL true l [])
  | .or l => packT false (Ex.tidyL false l [])
  | x => x
def Ex.tidyL (mode : Bool) : List Ex → List Ex → Option (List Ex)
  | [], acc => some acc
  | x :: l, acc => match pieces mode x.tidy with
    | none => none
    | some ps => match addAll acc ps with
      | none => none
      | some acc' => Ex.tidyL mode l acc'
end
def mkT (mode : Bool) (l : List Ex) : Ex := if mode then .and l else .or l
theorem packT_mk (mode : Bool) (l : List Ex) (h : 2 ≤ l.length) : packT mode (some l) = mkT mode l := by
  match l, h with
  | x :: y :: r, _ => rfl

/-! ### what is kept -/
theorem addP_sub {l l' : List Ex} {y : Ex} (h : addP l y = some l') : l' = l ∨ l' = l ++ [y] := by
  unfold addP at h
  split at h
  · injection h with h; exact .inl h.symm
  split at h
  · cases h
  · injection h with h; exact .inr h.symm
theorem addAll_mem {Q : Ex → Prop} : ∀ {ps l l' : List Ex}, addAll l ps = some l' → (∀ x ∈ l, Q x) → (∀ x ∈ ps, Q x) → ∀ x ∈ l', Q x
  | [], l, l', h, hl, _ => by injection h with h; subst h; exact hl
  | y :: ys, l, l', h, hl, hp => by
    unfold addAll at h
    split at h
    · cases h
    · rename_i m hm
      refine addAll_mem h (fun x hx => ?_) (fun x hx => hp x (List.mem_cons_of_mem _ hx))
      rcases addP_sub hm with rfl | rfl
      · exact hl x hx
      · rcases List.mem_append.1 hx with hx | hx
        · exact hl x hx
        · simp at hx; subst hx; exact hp x (by simp)
theorem tidyL_mem {Q : Ex → Prop} {mode : Bool} : ∀ {l acc acc' : List Ex}, Ex.tidyL mode l acc = some acc' → (∀ x ∈ acc, Q x) → (∀ x ∈ l, ∀ ps, pieces mode x.tidy = some ps → ∀ y ∈ ps, Q y) → ∀ x ∈ acc', Q x
  | [], acc, acc', h, ha, _ => by simp only [Ex.tidyL] at h; injection h with h; subst h; exact ha
  | x :: l, acc, acc', h, ha, hp => by
    simp only [Ex.tidyL] at h
    split at h
    · cases h
    · rename_i ps hps
      split at h
      · cases h
      · rename_i m hm
        exact tidyL_mem h (addAll_mem hm ha (hp x (by simp) ps hps)) (fun y hy => hp y (List.mem_cons_of_mem _ hy))
/-- sums of weights -/
def WtS (f : Ex → Nat) : List Ex → Nat
  | [] => 0
  | x :: l => f x + WtS f l
theorem WtS_append (f : Ex → Nat) : ∀ l m : List Ex, WtS f (l ++ m) = WtS f l + WtS f m
  | [], m => by simp [WtS]
  | x :: l, m => by simp only [List.cons_append, WtS, WtS_append f l m]; omega
theorem addAll_wt (f : Ex → Nat) : ∀ {ps l l' : List Ex}, addAll l ps = some l' → WtS f l' ≤ WtS f l + WtS f ps
  | [], l, l', h => by injection h with h; subst h; omega
  | y :: ys, l, l', h => by
    unfold addAll at h
    split at h
    · cases h
    · rename_i m hm
      have := addAll_wt f h
      rcases addP_sub hm with rfl | rfl
      · simp only [WtS]; omega
      · rw [WtS_append] at this; simp only [WtS] at this ⊢; omega
theorem tidyL_wt (f : Ex → Nat) {mode : Bool} : ∀ {l acc acc' : List Ex}, Ex.tidyL mode l acc = some acc' → (∀ x ∈ l, ∀ ps, pieces mode x.tidy = some ps → WtS f ps ≤ f x) → WtS f acc' ≤ WtS f acc + WtS f l
  | [], acc, acc', h, _ => by simp only [Ex.tidyL] at h; injection h with h; subst h; omega
  | x :: l, acc, acc', h, hp => by
    simp only [Ex.tidyL] at h
    split at h
    · cases h
    · rename_i ps hps
      split at h
      · cases h
      · rename_i m hm
        have h1 := addAll_wt f hm
        have h2 := hp x (by simp) ps hps
        have h3 := tidyL_wt f h (fun y hy => hp y (List.mem_cons_of_mem _ hy))
        simp only [WtS]; omega
theorem wtL_S : ∀ l : List Ex, WtS (fun x => x.wt + 3) l = Ex.wtL l + 3 * l.length
  | [] => rfl
  | x :: l => by simp only [WtS, Ex.wtL, wtL_S l, List.length_cons]; omega
theorem sizeL_S : ∀ l : List Ex, WtS Ex.size l = Ex.sizeL l
  | [] => rfl
  | x :: l => by simp only [WtS, Ex.sizeL, sizeL_S l]
theorem mkT_wt (mode : Bool) (l : List Ex) : (mkT mode l).wt = Ex.wtL l + 3 * l.length + 2 := by cases mode <;> rfl
theorem mkT_size (mode : Bool) (l : List Ex) : (mkT mode l).size = Ex.sizeL l + 1 := by cases mode <;> rfl
theorem pieces_wt {mode : Bool} {t : Ex} {ps : List Ex} (h : pieces mode t = some ps) : WtS (fun x => x.wt + 3) ps ≤ t.wt + 3 := by
  cases t with
  | k b => simp only [pieces] at h; split at h; · injection h with h; subst h; simp [WtS]
           · cases h
  | and l => simp only [pieces] at h; injection h with h; subst h; cases mode
             · simp [WtS]
             · rw [if_pos rfl, wtL_S]; simp only [Ex.wt]; omega
  | or l => simp only [pieces] at h; injection h with h; subst h; cases mode
            · simp only [Bool.false_eq_true, if_false]; rw [wtL_S]; simp only [Ex.wt]; omega
            · simp [WtS]
  | _ => simp only [pieces] at h; injection h with h; subst h; simp [WtS]
theorem pieces_size {mode : Bool} {t : Ex} {ps : List Ex} (h : pieces mode t = some ps) : WtS Ex.size ps ≤ t.size := by
  cases t with
  | k b => simp only [pieces] at h; split at h; · injection h with h; subst h; simp [WtS]
           · cases h
  | and l => simp only [pieces] at h; injection h with h; subst h; cases mode
             · simp [WtS]
             · rw [if_pos rfl, sizeL_S]; simp only [Ex.size]; omega
  | or l => simp only [pieces] at h; injection h with h; subst h; cases mode
            · simp only [Bool.false_eq_true, if_false]; rw [sizeL_S]; simp only [Ex.size]; omega
            · simp [WtS]
  | _ => simp only [pieces] at h; injection h with h; subst h; simp [WtS]
theorem packT_le (f : Ex → Nat) (g : Nat) {mode : Bool} {o : Option (List Ex)} (h1 : ∀ b, f (.k b) ≤ g) (h2 : ∀ l, o = some l → (∀ x, l = [x] → f x ≤ g) ∧ f (mkT mode l) ≤ g) : f (packT mode o) ≤ g := by
  match o, h2 with
  | none, _ => exact h1 _
  | some [], _ => exact h1 _
  | some [x], h2 => exact (h2 [x] rfl).1 x rfl
  | some (x :: y :: r), h2 => exact (h2 _ rfl).2
theorem Ex.tidy_wt : ∀ (n : Nat) (x : Ex), x.wt < n → x.tidy.wt ≤ x.wt
  | 0, x, h => by omega
  | n + 1, x, h => by
    have row : ∀ mode l, Ex.wtL l < n → Ex.wtL l + 3 * l.length + 2 = x.wt → (packT mode (Ex.tidyL mode l [])).wt ≤ x.wt := fun mode l hl he => by
      refine packT_le Ex.wt _ (fun b => by simp only [Ex.wt]; omega) fun l' hl' => ?_
      have h1 := tidyL_wt (fun x => x.wt + 3) hl' fun y hy ps hps => by
        have h2 := Ex.tidy_wt n y (by have := Ex.wt_mem hy; omega)
        have h3 := pieces_wt hps
        show WtS (fun x => x.wt + 3) ps ≤ y.wt + 3
        omega
      rw [wtL_S l', wtL_S l] at h1
      simp only [WtS] at h1
      refine ⟨fun y hy => ?_, by rw [mkT_wt]; omega⟩
      subst hy
      simp only [Ex.wtL, List.length_cons, List.length_nil] at h1
      omega
    cases x with
    | not x =>
      simp only [Ex.wt] at h
      have := Ex.tidy_wt n x (by omega)
      simp only [Ex.tidy, Ex.wt]
      cases hx : x.tidy with
      | k b => simp only [notT, Ex.wt]; omega
      | not y => rw [hx] at this; simp only [notT, Ex.wt] at this ⊢; omega
      | _ => rw [hx] at this; simp only [notT, Ex.wt] at this ⊢; omega
    | and l => simp only [Ex.tidy]; exact row true l (by simp only [Ex.wt] at h; omega) (by simp only [Ex.wt])
    | or l => simp only [Ex.tidy]; exact row false l (by simp only [Ex.wt] at h; omega) (by simp only [Ex.wt])
    | _ => simp only [Ex.tidy]; exact Nat.le_refl _
theorem Ex.tidy_le (x : Ex) : x.tidy.wt ≤ x.wt := Ex.tidy_wt (x.wt + 1) x (by omega)
theorem Ex.tidy_size' : ∀ (n : Nat) (x : Ex), x.wt < n → x.tidy.size ≤ x.size
  | 0, x, h => by omega
  | n + 1, x, h => by
    have row : ∀ mode l, Ex.wtL l < n → Ex.sizeL l + 1 = x.size → (packT mode (Ex.tidyL mode l [])).size ≤ x.size := fun mode l hl he => by
      refine packT_le Ex.size _ (fun b => by simp only [Ex.size]; omega) fun l' hl' => ?_
      have h1 := tidyL_wt Ex.size hl' fun y hy ps hps => by
        have h2 := Ex.tidy_size' n y (by have := Ex.wt_mem hy; omega)
        have h3 := pieces_size hps
        omega
      rw [sizeL_S l', sizeL_S l] at h1
      simp only [WtS] at h1
      refine ⟨fun y hy => ?_, by rw [mkT_size]; omega⟩
      subst hy
      simp only [Ex.sizeL] at h1
      omega
    cases x with
    | not x =>
      simp only [Ex.wt] at h
      have := Ex.tidy_size' n x (by omega)
      simp only [Ex.tidy, Ex.size]
      cases hx : x.tidy with
      | k b => simp only [notT, Ex.size]; omega
      | not y => rw [hx] at this; simp only [notT, Ex.size] at this ⊢; omega
      | _ => rw [hx] at this; simp only [notT, Ex.size] at this ⊢; omega
    | and l => simp only [Ex.tidy]; exact row true l (by simp only [Ex.wt] at h; omega) (by simp only [Ex.size])
    | or l => simp only [Ex.tidy]; exact row false l (by simp only [Ex.wt] at h; omega) (by simp only [Ex.size])
    | _ => simp only [Ex.tidy]; exact Nat.le_refl _
theorem Ex.tidy_size (x : Ex) : x.tidy.size ≤ x.size := Ex.tidy_size' (x.wt + 1) x (by omega)
theorem Ex.fineL_iff : ∀ {l : List Ex}, Ex.fineL l ↔ ∀ x ∈ l, x.fine
  | [] => by simp [Ex.fineL]
  | x :: l => by simp [Ex.fineL, Ex.fineL_iff (l := l)]
theorem mkT_fine {mode : Bool} {l : List Ex} (h : 2 ≤ l.length) (hf : ∀ x ∈ l, x.fine) : (mkT mode l).fine := by cases mode <;> exact ⟨h, Ex.fineL_iff.2 hf⟩
theorem pieces_fine {mode : Bool} {t : Ex} {ps : List Ex} (h : pieces mode t = some ps) (hf : t.fine) : ∀ y ∈ ps, y.fine := by
  cases t with
  | k b => simp only [pieces] at h; split at h; · injection h with h; subst h; simp
           · cases h
  | and l => simp only [pieces] at h; injection h with h; subst h; cases mode
             · simpa using hf
             · exact Ex.fineL_iff.1 hf.2
  | or l => simp only [pieces] at h; injection h with h; subst h; cases mode
            · exact Ex.fineL_iff.1 hf.2
            · simpa using hf
  | _ => simp only [pieces] at h; injection h with h; subst h; simpa using hf
theorem packT_ind {Q : Ex → Prop} {mode : Bool} {o : Option (List Ex)} (h1 : ∀ b, Q (.k b)) (h2 : ∀ l, o = some l → (∀ x ∈ l, Q x) ∧ (2 ≤ l.length → Q (mkT mode l))) : Q (packT mode o) := by
  match o, h2 with
  | none, _ => exact h1 _
  | some [], _ => exact h1 _
  | some [x], h2 => exact (h2 [x] rfl).1 x (by simp)
  | some (x :: y :: r), h2 => exact (h2 _ rfl).2 (by simp)
theorem notT_fine {t : Ex} (h : t.fine) : (notT t).fine := by cases t <;> exact h
theorem Ex.tidy_fine' : ∀ (n : Nat) (x : Ex), x.wt < n → x.fine → x.tidy.fine
  | 0, x, h, _ => by omega
  | n + 1, x, h, hf => by
    have row : ∀ mode l, Ex.wtL l < n → Ex.fineL l → (packT mode (Ex.tidyL mode l [])).fine := fun mode l hl hfl => by
      refine packT_ind (fun _ => trivial) fun l' hl' => ?_
      have h1 := tidyL_mem (Q := Ex.fine) hl' (by simp) fun y hy ps hps => pieces_fine hps (Ex.tidy_fine' n y (by have := Ex.wt_mem hy; omega) (Ex.fine_mem hfl hy))
      exact ⟨h1, fun h2 => mkT_fine h2 h1⟩
    cases x with
    | not x => simp only [Ex.tidy]; exact notT_fine (Ex.tidy_fine' n x (by simp only [Ex.wt] at h; omega) hf)
    | and l => simp only [Ex.tidy]; exact row true l (by simp only [Ex.wt] at h; omega) hf.2
    | or l => simp only [Ex.tidy]; exact row false l (by simp only [Ex.wt] at h; omega) hf.2
    | _ => simp only [Ex.tidy]; exact hf
theorem Ex.tidy_fine {x : Ex} (h : x.fine) : x.tidy.fine := Ex.tidy_fine' (x.wt + 1) x (by omega) h

/-! ### it says the same -/
theorem other_says (p q : Str → Bool) (y : Ex) : y.other.says p q = !y.says p q := by cases y <;> simp [Ex.other, Ex.says]
theorem other_fine {y : Ex} (h : y.fine) : y.other.fine := by cases y <;> exact h
theorem hasT_mem {l : List Ex} {y : Ex} (hl : ∀ x ∈ l, x.fine) (hy : y.fine) (h : hasT l (y.wr 0) = true) : y ∈ l := by
  unfold hasT at h
  rw [List.any_eq_true] at h
  obtain ⟨z, hz, he⟩ := h
  have := wr_inj (hl z hz) hy (by simpa using he)
  subst this; exact hz
theorem hasT_of {l : List Ex} {y : Ex} (h : y ∈ l) : hasT l (y.wr 0) = true := by
  unfold hasT
  rw [List.any_eq_true]
  exact ⟨y, h, by simp⟩
/-- all, or one: as 'mode' says -/
def sayL (mode : Bool) (f : Ex → Bool) (l : List Ex) : Bool := if mode then l.all f else l.any f
theorem sayL_append (mode : Bool) (f : Ex → Bool) (l m : List Ex) : sayL mode f (l ++ m) = if mode then sayL mode f l && sayL mode f m else sayL mode f l || sayL mode f m := by cases mode <;> simp [sayL]
theorem sayL_has {mode : Bool} {f : Ex → Bool} {l : List Ex} {y : Ex} (h : y ∈ l) : sayL mode f (l ++ [y]) = sayL mode f l := by
  cases mode with
  | true =>
    simp only [sayL, if_true, List.all_append, List.all_cons, List.all_nil, Bool.and_true]
    cases ha : l.all f with
    | false => rfl
    | true => rw [List.all_eq_true.1 ha y h]; rfl
  | false =>
    simp only [sayL, Bool.false_eq_true, if_false, List.any_append, List.any_cons, List.any_nil, Bool.or_false]
    cases hy : f y with
    | false => simp
    | true => rw [List.any_eq_true.2 ⟨y, h, hy⟩]; rfl
theorem sayL_both {mode : Bool} {f : Ex → Bool} {l : List Ex} {y z : Ex} (h1 : y ∈ l) (h2 : z ∈ l) (hz : f z = !f y) : sayL mode f l = !mode := by
  cases mode with
  | true =>
    simp only [sayL, if_true, Bool.not_true]
    rw [List.all_eq_false]
    cases hy : f y with
    | false => exact ⟨y, h1, by simp [hy]⟩
    | true => exact ⟨z, h2, by rw [hz, hy]; simp⟩
  | false =>
    simp only [sayL, Bool.false_eq_true, if_false, Bool.not_false]
    rw [List.any_eq_true]
    cases hy : f y with
    | true => exact ⟨y, h1, hy⟩
    | false => exact ⟨z, h2, by rw [hz, hy]; rfl⟩
theorem sayL_mono {mode : Bool} {f : Ex → Bool} {l m : List Ex} (h : sayL mode f l = !mode) : sayL mode f (l ++ m) = !mode := by
  rw [sayL_append, h]; cases mode <;> simp
section
variable {p q : Str → Bool}
theorem addAll_says {mode : Bool} : ∀ {ps l : List Ex}, (∀ x ∈ l, x.fine) → (∀ x ∈ ps, x.fine) → sayL mode (Ex.says p q) (l ++ ps) = match addAll l ps with
    | none => !mode
    | some l' => sayL mode (Ex.says p q) l'
  | [], l, _, _ => by simp [addAll]
  | y :: ys, l, hl, hp => by
    have hy := hp y (by simp)
    have hys : ∀ x ∈ ys, x.fine := fun x hx => hp x (List.mem_cons_of_mem _ hx)
    have e : l ++ y :: ys = l ++ [y] ++ ys := by simp
    unfold addAll addP
    by_cases h1 : hasT l (y.wr 0) = true
    · rw [if_pos h1]
      simp only
      rw [← addAll_says hl hys, e, sayL_append, sayL_has (hasT_mem hl hy h1), ← sayL_append]
    · rw [if_neg h1]
      by_cases h2 : hasT l (y.other.wr 0) = true
      · rw [if_pos h2]
        simp only
        have hm := hasT_mem hl (other_fine hy) h2
        rw [e]
        refine sayL_mono (sayL_both (y := y) (z := y.other) (by simp) (by simp [hm]) (other_says p q y))
      · rw [if_neg h2]
        simp only
        rw [e]
        refine addAll_says (fun x hx => ?_) hys
        rcases List.mem_append.1 hx with hx | hx
        · exact hl x hx
        · simp at hx; subst hx; exact hy
theorem mkT_says (mode : Bool) (l : List Ex) : (mkT mode l).says p q = sayL mode (Ex.says p q) l := by
  cases mode
  · show Ex.anyL p q l = l.any (Ex.says p q); exact Ex.anyL_eq p q l
  · show Ex.allL p q l = l.all (Ex.says p q); exact Ex.allL_eq p q l
theorem pieces_says {mode : Bool} {t : Ex} : t.says p q = match pieces mode t with
    | none => !mode
    | some ps => sayL mode (Ex.says p q) ps := by
  have one : ∀ x : Ex, x.says p q = sayL mode (Ex.says p q) [x] := fun x => by cases mode <;> simp [sayL]
  cases t with
  | k b => simp only [pieces]; cases b <;> cases mode <;> simp [sayL, Ex.says]
  | and l =>
    simp only [pieces]
    cases mode with
    | true => exact mkT_says true l
    | false => exact one _
  | or l =>
    simp only [pieces]
    cases mode with
    | true => exact one _
    | false => exact mkT_says false l
  | _ => exact one _
theorem tidyL_says {mode : Bool} : ∀ {l acc : List Ex}, (∀ x ∈ acc, x.fine) → (∀ x ∈ l, x.fine) → (∀ x ∈ l, x.tidy.says p q = x.says p q) → sayL mode (Ex.says p q) (acc ++ l) = match Ex.tidyL mode l acc with
    | none => !mode
    | some l' => sayL mode (Ex.says p q) l'
  | [], acc, _, _, _ => by simp [Ex.tidyL]
  | x :: l, acc, ha, hl, hs => by
    have hx := hs x (by simp)
    have hfx := Ex.tidy_fine (hl x (by simp))
    have e : acc ++ x :: l = acc ++ [x] ++ l := by simp
    have e1 : sayL mode (Ex.says p q) [x] = x.says p q := by cases mode <;> simp [sayL]
    simp only [Ex.tidyL]
    have hp := pieces_says (p := p) (q := q) (mode := mode) (t := x.tidy)
    cases hps : pieces mode x.tidy with
    | none =>
      rw [hps] at hp
      simp only at hp ⊢
      rw [e]
      refine sayL_mono ?_
      rw [sayL_append, e1, ← hx, hp]
      cases mode <;> simp
    | some ps =>
      rw [hps] at hp
      simp only at hp ⊢
      have hpf := pieces_fine hps hfx
      have h1 := addAll_says (p := p) (q := q) (mode := mode) ha hpf
      have e2 : sayL mode (Ex.says p q) (acc ++ [x]) = sayL mode (Ex.says p q) (acc ++ ps) := by rw [sayL_append, sayL_append, e1, ← hx, hp]
      cases hm : addAll acc ps with
      | none =>
        rw [hm] at h1
        simp only at h1 ⊢
        rw [e]
        exact sayL_mono (by rw [e2, h1])
      | some acc' =>
        rw [hm] at h1
        simp only at h1 ⊢
        have haf := addAll_mem (Q := Ex.fine) hm ha hpf
        rw [← tidyL_says haf (fun y hy => hl y (List.mem_cons_of_mem _ hy)) (fun y hy => hs y (List.mem_cons_of_mem _ hy)), e, sayL_append, e2, h1, ← sayL_append]
theorem packT_says {mode : Bool} {o : Option (List Ex)} : (packT mode o).says p q = match o with
    | none => !mode
    | some l => sayL mode (Ex.says p q) l := by
  match o with
  | none => rfl
  | some [] => cases mode <;> rfl
  | some [x] => cases mode <;> simp [packT, sayL]
  | some (x :: y :: r) => exact mkT_says mode _
theorem notT_says {t : Ex} : (notT t).says p q = !t.says p q := by cases t <;> simp [notT, Ex.says]
theorem Ex.tidy_says' : ∀ (n : Nat) (x : Ex), x.wt < n → x.fine → x.tidy.says p q = x.says p q
  | 0, x, h, _ => by omega
  | n + 1, x, h, hf => by
    have row : ∀ mode l, Ex.wtL l < n → Ex.fineL l → (packT mode (Ex.tidyL mode l [])).says p q = (mkT mode l).says p q := fun mode l hl hfl => by
      rw [packT_says, mkT_says]
      have := tidyL_says (p := p) (q := q) (mode := mode) (acc := []) (by simp) (Ex.fineL_iff.1 hfl) (fun y hy => Ex.tidy_says' n y (by have := Ex.wt_mem hy; omega) (Ex.fine_mem hfl hy))
      rw [List.nil_append] at this
      exact this.symm
    cases x with
    | not x => simp only [Ex.tidy, Ex.says]; rw [notT_says, Ex.tidy_says' n x (by simp only [Ex.wt] at h; omega) hf]
    | and l => simp only [Ex.tidy]; exact row true l (by simp only [Ex.wt] at h; omega) hf.2
    | or l => simp only [Ex.tidy]; exact row false l (by simp only [Ex.wt] at h; omega) hf.2
    | _ => simp only [Ex.tidy]
theorem Ex.tidy_says {x : Ex} (h : x.fine) : x.tidy.says p q = x.says p q := Ex.tidy_says' (x.wt + 1) x (by omega) h
end
end Go.Sc
namespace Go.Sc
open Go
set_option linter.unusedSimpArgs false
set_option linter.unusedVariables false

def Ex.isK : Ex → Bool
  | .k _ => true
  | _ => false
def Ex.isNot : Ex → Bool
  | .not _ => true
  | _ => false
/-- neither alike nor the other one -/
def Apt (z y : Ex) : Prop := z.wr 0 ≠ y.wr 0 ∧ z.wr 0 ≠ y.other.wr 0
def kindOf (mode : Bool) (x : Ex) : Bool := if mode then x.isAnd else x.isOr
mutual
def Ex.td : Ex → Prop
  | .not y => y.td ∧ y.isK = false ∧ y.isNot = false
  | .and l => 2 ≤ l.length ∧ Ex.tdL l ∧ (∀ x ∈ l, x.isK = false ∧ x.isAnd = false) ∧ l.Pairwise Apt
  | .or l => 2 ≤ l.length ∧ Ex.tdL l ∧ (∀ x ∈ l, x.isK = false ∧ x.isOr = false) ∧ l.Pairwise Apt
  | _ => True
def Ex.tdL : List Ex → Prop
  | [] => True
  | x :: l => x.td ∧ Ex.tdL l
end
theorem Ex.tdL_iff : ∀ {l : List Ex}, Ex.tdL l ↔ ∀ x ∈ l, x.td
  | [] => by simp [Ex.tdL]
  | x :: l => by simp [Ex.tdL, Ex.tdL_iff (l := l)]
theorem hasT_false {l : List Ex} {t : Str} : hasT l t = false ↔ ∀ z ∈ l, z.wr 0 ≠ t := by
  unfold hasT
  rw [List.any_eq_false]
  simp
theorem addP_new {l : List Ex} {y : Ex} (h : ∀ z ∈ l, Apt z y) : addP l y = some (l ++ [y]) := by
  have h1 : hasT l (y.wr 0) = false := hasT_false.2 fun z hz => (h z hz).1
  have h2 : hasT l (y.other.wr 0) = false := hasT_false.2 fun z hz => (h z hz).2
  unfold addP
  rw [h1, h2]; rfl
theorem addP_pw {l l' : List Ex} {y : Ex} (h : addP l y = some l') (hl : l.Pairwise Apt) : l'.Pairwise Apt := by
  unfold addP at h
  split at h
  · injection h with h; subst h; exact hl
  split at h
  · cases h
  · rename_i h1 h2
    injection h with h; subst h
    rw [List.pairwise_append]
    refine ⟨hl, by simp, fun z hz w hw => ?_⟩
    simp at hw; subst hw
    exact ⟨hasT_false.1 (by simpa using h1) z hz, hasT_false.1 (by simpa using h2) z hz⟩
theorem addAll_pw : ∀ {ps l l' : List Ex}, addAll l ps = some l' → l.Pairwise Apt → l'.Pairwise Apt
  | [], l, l', h, hl => by injection h with h; subst h; exact hl
  | y :: ys, l, l', h, hl => by
    unfold addAll at h
    split at h
    · cases h
    · rename_i m hm
      exact addAll_pw h (addP_pw hm hl)
theorem tidyL_pw {mode : Bool} : ∀ {l acc acc' : List Ex}, Ex.tidyL mode l acc = some acc' → acc.Pairwise Apt → acc'.Pairwise Apt
  | [], acc, acc', h, ha => by simp only [Ex.tidyL] at h; injection h with h; subst h; exact ha
  | x :: l, acc, acc', h, ha => by
    simp only [Ex.tidyL] at h
    split at h
    · cases h
    · split at h
      · cases h
      · rename_i m hm
        exact tidyL_pw h (addAll_pw hm ha)
theorem pieces_td {mode : Bool} {t : Ex} {ps : List Ex} (h : pieces mode t = some ps) (ht : t.td) : ∀ y ∈ ps, y.td ∧ y.isK = false ∧ kindOf mode y = false := by
  cases t with
  | k b => simp only [pieces] at h; split at h; · injection h with h; subst h; simp
           · cases h
  | and l =>
    simp only [pieces] at h; injection h with h; subst h
    cases mode with
    | true => intro y hy; exact ⟨Ex.tdL_iff.1 ht.2.1 y hy, (ht.2.2.1 y hy).1, (ht.2.2.1 y hy).2⟩
    | false => intro y hy; simp at hy; subst hy; exact ⟨ht, rfl, rfl⟩
  | or l =>
    simp only [pieces] at h; injection h with h; subst h
    cases mode with
    | false => intro y hy; exact ⟨Ex.tdL_iff.1 ht.2.1 y hy, (ht.2.2.1 y hy).1, (ht.2.2.1 y hy).2⟩
    | true => intro y hy; simp at hy; subst hy; exact ⟨ht, rfl, rfl⟩
  | not y => simp only [pieces] at h; injection h with h; subst h; intro z hz; simp at hz; subst hz; exact ⟨ht, rfl, by cases mode <;> rfl⟩
  | _ => simp only [pieces] at h; injection h with h; subst h; intro z hz; simp at hz; subst hz; exact ⟨ht, rfl, by cases mode <;> rfl⟩
theorem mkT_td {mode : Bool} {l : List Ex} (h : 2 ≤ l.length) (h1 : ∀ x ∈ l, x.td ∧ x.isK = false ∧ kindOf mode x = false) (h2 : l.Pairwise Apt) : (mkT mode l).td := by
  cases mode
  · exact ⟨h, Ex.tdL_iff.2 fun x hx => (h1 x hx).1, fun x hx => (h1 x hx).2, h2⟩
  · exact ⟨h, Ex.tdL_iff.2 fun x hx => (h1 x hx).1, fun x hx => (h1 x hx).2, h2⟩
theorem Ex.tidy_td' : ∀ (n : Nat) (x : Ex), x.wt < n → x.tidy.td
  | 0, x, h => by omega
  | n + 1, x, h => by
    have row : ∀ mode l, Ex.wtL l < n → (packT mode (Ex.tidyL mode l [])).td := fun mode l hl => by
      refine packT_ind (fun _ => trivial) fun l' hl' => ?_
      have h1 := tidyL_mem (Q := fun y => y.td ∧ y.isK = false ∧ kindOf mode y = false) hl' (by simp) fun y hy ps hps => pieces_td hps (Ex.tidy_td' n y (by have := Ex.wt_mem hy; omega))
      exact ⟨fun x hx => (h1 x hx).1, fun h2 => mkT_td h2 h1 (tidyL_pw hl' (by simp))⟩
    cases x with
    | not x =>
      have ih := Ex.tidy_td' n x (by simp only [Ex.wt] at h; omega)
      simp only [Ex.tidy]
      cases hx : x.tidy with
      | k b => trivial
      | not y => rw [hx] at ih; exact ih.1
      | bit s => exact ⟨trivial, rfl, rfl⟩
      | rise s => exact ⟨trivial, rfl, rfl⟩
      | fall s => exact ⟨trivial, rfl, rfl⟩
      | and l => rw [hx] at ih; exact ⟨ih, rfl, rfl⟩
      | or l => rw [hx] at ih; exact ⟨ih, rfl, rfl⟩
    | and l => simp only [Ex.tidy]; exact row true l (by simp only [Ex.wt] at h; omega)
    | or l => simp only [Ex.tidy]; exact row false l (by simp only [Ex.wt] at h; omega)
    | _ => simp only [Ex.tidy]; trivial
theorem Ex.tidy_td (x : Ex) : x.tidy.td := Ex.tidy_td' (x.wt + 1) x (by omega)
theorem pieces_one {mode : Bool} {x : Ex} (h1 : x.isK = false) (h2 : kindOf mode x = false) : pieces mode x = some [x] := by
  cases x <;> cases mode <;> simp_all [pieces, Ex.isK, kindOf, Ex.isAnd, Ex.isOr]
theorem tidyL_same {mode : Bool} : ∀ {l acc : List Ex}, (∀ x ∈ l, x.tidy = x ∧ x.isK = false ∧ kindOf mode x = false) → (acc ++ l).Pairwise Apt → Ex.tidyL mode l acc = some (acc ++ l)
  | [], acc, _, _ => by simp [Ex.tidyL]
  | x :: l, acc, h, hp => by
    have hx := h x (by simp)
    have e : acc ++ x :: l = acc ++ [x] ++ l := by simp
    simp only [Ex.tidyL]
    rw [hx.1, pieces_one hx.2.1 hx.2.2]
    simp only [addAll]
    rw [addP_new (fun z hz => (List.pairwise_append.1 hp).2.2 z hz x (by simp))]
    simp only
    rw [e] at hp ⊢
    exact tidyL_same (fun y hy => h y (List.mem_cons_of_mem _ hy)) hp
theorem Ex.td_same' : ∀ (n : Nat) (x : Ex), x.wt < n → x.td → x.tidy = x
  | 0, x, h, _ => by omega
  | n + 1, x, h, ht => by
    cases x with
    | not y =>
      simp only [Ex.tidy]
      rw [Ex.td_same' n y (by simp only [Ex.wt] at h; omega) ht.1]
      have h1 := ht.2.1
      have h2 := ht.2.2
      cases y <;> simp_all [notT, Ex.isK, Ex.isNot]
    | and l =>
      simp only [Ex.tidy]
      rw [tidyL_same (mode := true) (acc := []) (fun y hy => ⟨Ex.td_same' n y (by have := Ex.wt_mem hy; simp only [Ex.wt] at h; omega) (Ex.tdL_iff.1 ht.2.1 y hy), ht.2.2.1 y hy⟩) (by simpa using ht.2.2.2), List.nil_append, packT_mk _ _ ht.1]; rfl
    | or l =>
      simp only [Ex.tidy]
      rw [tidyL_same (mode := false) (acc := []) (fun y hy => ⟨Ex.td_same' n y (by have := Ex.wt_mem hy; simp only [Ex.wt] at h; omega) (Ex.tdL_iff.1 ht.2.1 y hy), ht.2.2.1 y hy⟩) (by simpa using ht.2.2.2), List.nil_append, packT_mk _ _ ht.1]; rfl
    | _ => simp only [Ex.tidy]
theorem Ex.tidy_tidy (x : Ex) : x.tidy.tidy = x.tidy := Ex.td_same' (x.tidy.wt + 1) _ (by omega) x.tidy_td

/-! ### asked the other way about -/
def refAdd (l : List Ex) (y : Ex) : Option (List Ex) := if hasT l (y.other.wr 0) = true then none else if hasT l (y.wr 0) = true then some l else some (l ++ [y])
theorem other_other {y : Ex} (h : y.td) : y.other.other = y := by
  cases y with
  | not w =>
    have := h.2.2
    cases w <;> simp_all [Ex.other, Ex.isNot]
  | _ => rfl
theorem other_ne (y : Ex) (h : y.td) : y.other ≠ y := by
  intro e
  have := congrArg Ex.wt e
  cases y with
  | not w => simp only [Ex.other, Ex.wt] at this; omega
  | _ => simp only [Ex.other, Ex.wt] at this; omega
theorem pair_mem {α : Type} {R : α → α → Prop} : ∀ {l : List α}, l.Pairwise R → ∀ {a b : α}, a ∈ l → b ∈ l → a ≠ b → R a b ∨ R b a
  | [], _, _, _, ha, _, _ => by simp at ha
  | x :: l, h, a, b, ha, hb, hne => by
    rw [List.pairwise_cons] at h
    rcases List.mem_cons.1 ha with h1 | h1
    · rcases List.mem_cons.1 hb with h2 | h2
      · exact absurd (h1.trans h2.symm) hne
      · rw [h1]; exact .inl (h.1 b h2)
    · rcases List.mem_cons.1 hb with h2 | h2
      · rw [h2]; exact .inr (h.1 a h1)
      · exact pair_mem h.2 h1 h2 hne
theorem refAdd_eq {l : List Ex} {y : Ex} (hl : ∀ x ∈ l, x.fine) (hp : l.Pairwise Apt) (hy : y.fine) (ht : y.td) : refAdd l y = addP l y := by
  unfold refAdd addP
  by_cases h1 : hasT l (y.other.wr 0) = true
  · rw [if_pos h1]
    by_cases h2 : hasT l (y.wr 0) = true
    · exfalso
      have m1 := hasT_mem hl (other_fine hy) h1
      have m2 := hasT_mem hl hy h2
      rcases pair_mem hp m1 m2 (other_ne y ht) with h | h
      · exact h.2 rfl
      · have := h.2
        rw [other_other ht] at this
        exact this rfl
    · rw [if_neg h2, if_pos h1]
  · rw [if_neg h1, if_neg h1]
end Go.Sc
namespace Go.Sc
open Go
set_option linter.unusedSimpArgs false
set_option linter.unusedVariables false
set_option linter.unnecessarySimpa false

structure SizeBodies (E : Env) (P : Program) : Prop where
  size : Body1 E P 156 F.expr_Size
  size1 : Body2 E P 160 F.expr_Size_c1
  walk : Body2 E P 161 F.expr_walk
section
variable {E : Env} {P : Program}
theorem size1_spec (B : SizeBodies E P) (y : Ex) (n : Nat) (hn : n < 1000000000) : PC E P 160 1 [Z n] (fun b g => [y.enc, .ptrL b 0 g]) (fun r cs => r = .tup [] ∧ cs = [Z ((n + 1 : Nat) : Int)]) := by
  refine PC.of (fun f g => by simp only [AV.renL, AV.ren, AV.ren_closed _ (Ex.enc_closed y)]) ⟨trivial, trivial⟩ (by rintro r cs ⟨rfl, rfl⟩; exact ⟨trivial, trivial, trivial⟩) fun c g R hR => B.size1 _ _ _ _ ?_
  unfold F.expr_Size_c1
  simp only [nd0, Y1n, Y1o, Y1p, Y1q, Y1w, Y1x, Y1y, Y1z, Y20, Y21, Y28, Y2a, AV.cells?, Nat.reduceAdd, Nat.reduceMul]
  rw [binA_succ (by omega)]
  simp only [nd0, Y1n, Y1o, Y1p, Y1q, Y1w, Y1x, Y1y, Y1z, Y20, Y21, Y28, Y2a, AV.cells?, Nat.reduceAdd, Nat.reduceMul]
  rw [store1_L rfl]
  simp only [nd0, Y1n, Y1o, Y1p, Y1q, Y1w, Y1x, Y1y, Y1z, Y20, Y21, Y28, Y2a, AV.cells?, Nat.reduceAdd, Nat.reduceMul, Nat.reduceLT]
  exact hR _ _ [Z ((n + 1 : Nat) : Int)] [] c (.same _) ⟨rfl, rfl⟩
theorem walkL_spec (B : SizeBodies E P) (l : List Ex) (hl : ∀ x ∈ l, ∀ n : Nat, n + x.size < 1000000000 → PC E P 161 1 [Z n] (fun b g => [x.enc, .fn 160 [] [.ptrL b 0 g]]) (fun r cs => r = .tup [] ∧ cs = [Z ((n + x.size : Nat) : Int)])) (hlen : l.length < 1000000000) (n : Nat) (hn : n + Ex.sizeL l < 1000000000) {g c : Nat} {R : Kt} (rest : List Blk)
    (hR : ∀ c, R (.tup []) ⟨.cells g 1 [Z ((n + Ex.sizeL l : Nat) : Int)] :: rest, c⟩) :
    wLoop 1 (fun I1 => I1 (Z 0) ⟨.cells g 1 [Z n] :: rest, c⟩) fun I1 t27 H =>
      wGet (binA .lss t27 (Z l.length)) H fun t28 H =>
      wIf t28 (
        wGet (iaddr 1 (.slN (Ex.encL l) l.length) t27) H fun t29 H =>
        wGet (load1 t29 H) H fun t30 H =>
        wCall E P 161 [t30, .fn 160 [] [.ptrL 0 0 g]] H fun t33 H =>
        wGet (binA .add t27 (.val (.int .i64 1))) H fun t34 H =>
        I1 t34 H) (
        R (.tup []) H) := by
  refine wLoop.one (fun m i H => ∃ pre r c, l = pre ++ r ∧ i = Z pre.length ∧ m = r.length ∧ H = ⟨.cells g 1 [Z ((n + Ex.sizeL pre : Nat) : Int)] :: rest, c⟩) l.length (gh1.mk ⟨[], l, c, rfl, rfl, rfl, by simp [Ex.sizeL]⟩) ?_
  rintro m i H ⟨pre, r, c, rfl, rfl, rfl, rfl⟩
  have happ : ∀ a b : List Ex, Ex.sizeL (a ++ b) = Ex.sizeL a + Ex.sizeL b := fun a b => by
    induction a with
    | nil => simp [Ex.sizeL]
    | cons x a ih => simp only [List.cons_append, Ex.sizeL, ih]; omega
  cases r with
  | nil =>
    rw [List.append_nil] at hR ⊢
    simp only [nd0, Y1n, Y1o, Y1p, Y1q, Y1w, Y1x, Y1y, Y1z, Y20, Y21, Y28, Y2a, AV.cells?, Nat.reduceAdd, Nat.reduceMul, Int.lt_irrefl]
    exact hR c
  | cons x r =>
    rw [happ] at hn
    simp only [Ex.sizeL] at hn
    simp only [nd0, Y1n, Y1o, Y1p, Y1q, Y1w, Y1x, Y1y, Y1z, Y20, Y21, Y28, Y2a, AV.cells?, Nat.reduceAdd, Nat.reduceMul, decide_eq_true (show (pre.length : Int) < ((pre ++ x :: r).length : Int) by simp; omega)]
    rw [iaddr_Nn lt_mid]
    simp only [nd0, Y1n, Y1o, Y1p, Y1q, Y1w, Y1x, Y1y, Y1z, Y20, Y21, Y28, Y2a, AV.cells?, Nat.reduceAdd, Nat.reduceMul, show (Ex.encL (pre ++ x :: r))[pre.length]? = some x.enc by rw [Ex.encL_map]; simp]
    refine wCall.pc (b := 0) (hl x (by simp) (n + Ex.sizeL pre) (by omega)) rfl rfl ?_
    rintro rr cs n3 ⟨rfl, rfl⟩
    rw [binA_succ (by simp at hlen; omega)]
    simp only [nd0, Y1n, Y1o, Y1p, Y1q, Y1w, Y1x, Y1y, Y1z, Y20, Y21, Y28, Y2a, AV.cells?, Nat.reduceAdd, Nat.reduceMul]
    refine back1.mk r.length (by simp) ⟨pre ++ [x], r, n3, by simp, by simp, rfl, ?_⟩
    rw [happ]
    simp only [Ex.sizeL]
    congr 5; omega
theorem walk_spec (B : SizeBodies E P) : ∀ (k : Nat) (x : Ex), x.wt < k → x.wt ≤ 1000000 → x.fine → ∀ n : Nat, n + x.size < 1000000000 → PC E P 161 1 [Z n] (fun b g => [x.enc, .fn 160 [] [.ptrL b 0 g]]) (fun r cs => r = .tup [] ∧ cs = [Z ((n + x.size : Nat) : Int)]) := by
  intro k
  induction k with
  | zero => intro x h; omega
  | succ k ih =>
    intro x hx hw hf n hn
    refine PC.of (fun f g => by simp only [AV.renL, AV.ren, AV.ren_closed _ (Ex.enc_closed x)]) ⟨trivial, trivial⟩ (by rintro r cs ⟨rfl, rfl⟩; exact ⟨trivial, trivial, trivial⟩) fun c g R hR => B.walk _ _ _ _ ?_
    unfold F.expr_walk
    have h1 : 1 ≤ x.size := by cases x <;> simp [Ex.size]
    refine wCallV.pc (b := 0) (size1_spec B x n (by omega)) rfl rfl ?_
    rintro r cs c2 ⟨rfl, rfl⟩
    have fin : ∀ rest c, x.size = 1 → R (.tup []) ⟨.cells g 1 [Z ((n + 1 : Nat) : Int)] :: rest, c⟩ := fun rest c h => hR _ _ _ rest c (.same _) ⟨rfl, by rw [h]⟩
    cases x with
    | k b => simp only [Ex.enc]; simp only [nd0, Y1n, Y1o, Y1p, Y1q, Y1w, Y1x, Y1y, Y1z, Y20, Y21, Y28, Y2a, AV.cells?, Nat.reduceAdd, Nat.reduceMul, asA, show (11 : Nat) = 10 ↔ False by decide, show (11 : Nat) = 9 ↔ False by decide, show (11 : Nat) = 8 ↔ False by decide]; exact fin [] c2 rfl
    | bit b => simp only [Ex.enc]; simp only [nd0, Y1n, Y1o, Y1p, Y1q, Y1w, Y1x, Y1y, Y1z, Y20, Y21, Y28, Y2a, AV.cells?, Nat.reduceAdd, Nat.reduceMul, asA, show (14 : Nat) = 10 ↔ False by decide, show (14 : Nat) = 9 ↔ False by decide, show (14 : Nat) = 8 ↔ False by decide]; exact fin [] c2 rfl
    | rise b => simp only [Ex.enc]; simp only [nd0, Y1n, Y1o, Y1p, Y1q, Y1w, Y1x, Y1y, Y1z, Y20, Y21, Y28, Y2a, AV.cells?, Nat.reduceAdd, Nat.reduceMul, asA, show (12 : Nat) = 10 ↔ False by decide, show (12 : Nat) = 9 ↔ False by decide, show (12 : Nat) = 8 ↔ False by decide]; exact fin [] c2 rfl
    | fall b => simp only [Ex.enc]; simp only [nd0, Y1n, Y1o, Y1p, Y1q, Y1w, Y1x, Y1y, Y1z, Y20, Y21, Y28, Y2a, AV.cells?, Nat.reduceAdd, Nat.reduceMul, asA, show (13 : Nat) = 10 ↔ False by decide, show (13 : Nat) = 9 ↔ False by decide, show (13 : Nat) = 8 ↔ False by decide]; exact fin [] c2 rfl
    | not y =>
      simp only [Ex.enc]
      simp only [Ex.wt] at hw hx
      simp only [Ex.size] at hn hR
      simp only [nd0, Y1n, Y1o, Y1p, Y1q, Y1w, Y1x, Y1y, Y1z, Y20, Y21, Y28, Y2a, AV.cells?, Nat.reduceAdd, Nat.reduceMul, asA, show (10 : Nat) = 10 ↔ True by decide]
      refine wNew.L (l := [nilE]) rfl ?_
      simp only [nd0, Y1n, Y1o, Y1p, Y1q, Y1w, Y1x, Y1y, Y1z, Y20, Y21, Y28, Y2a, AV.cells?, Nat.reduceAdd, Nat.reduceMul]
      rw [storeN_L (n := 1) (xs := [y.enc]) rfl (by simp [Ex.enc_scalar])]
      simp only [nd0, Y1n, Y1o, Y1p, Y1q, Y1w, Y1x, Y1y, Y1z, Y20, Y21, Y28, Y2a, AV.cells?, Nat.reduceAdd, Nat.reduceMul, show putL [nilE] 0 [y.enc] = some [y.enc] from rfl]
      refine wCall.pc (b := 0) (ih y (by omega) (by omega) hf (n + 1) (by omega)) rfl rfl ?_
      rintro r cs c3 ⟨rfl, rfl⟩
      refine hR _ _ _ _ c3 (.same _) ⟨rfl, ?_⟩
      congr 3; omega
    | and l =>
      simp only [Ex.enc]
      simp only [Ex.wt] at hw hx
      simp only [Ex.size] at hn hR
      have hll := Ex.len_wtL hf.2
      simp only [nd0, Y1n, Y1o, Y1p, Y1q, Y1w, Y1x, Y1y, Y1z, Y20, Y21, Y28, Y2a, AV.cells?, Nat.reduceAdd, Nat.reduceMul, asA, show (9 : Nat) = 10 ↔ False by decide, show (9 : Nat) = 9 ↔ True by decide]
      refine walkL_spec B l (fun y hy => ih y (by have := Ex.wt_mem hy; omega) (by have := Ex.wt_mem hy; omega) (Ex.fine_mem hf.2 hy)) (by omega) (n + 1) (by omega) [] fun c => ?_
      refine hR _ _ _ [] c (.same _) ⟨rfl, ?_⟩
      congr 3; omega
    | or l =>
      simp only [Ex.enc]
      simp only [Ex.wt] at hw hx
      simp only [Ex.size] at hn hR
      have hll := Ex.len_wtL hf.2
      simp only [nd0, Y1n, Y1o, Y1p, Y1q, Y1w, Y1x, Y1y, Y1z, Y20, Y21, Y28, Y2a, AV.cells?, Nat.reduceAdd, Nat.reduceMul, asA, show (8 : Nat) = 10 ↔ False by decide, show (8 : Nat) = 9 ↔ False by decide, show (8 : Nat) = 8 ↔ True by decide]
      refine walkL_spec B l (fun y hy => ih y (by have := Ex.wt_mem hy; omega) (by have := Ex.wt_mem hy; omega) (Ex.fine_mem hf.2 hy)) (by omega) (n + 1) (by omega) [] fun c => ?_
      refine hR _ _ _ [] c (.same _) ⟨rfl, ?_⟩
      congr 3; omega
theorem Size_spec (B : SizeBodies E P) (x : Ex) (hw : x.wt ≤ 1000000) (hf : x.fine) : FX E P 156 [x.enc] (Z x.size) := by
  refine FX.of' ⟨Ex.enc_closed x, trivial⟩ trivial fun n R hR => B.size _ _ _ ?_
  unfold F.expr_Size
  refine wNew.L (l := [Z 0]) rfl ?_
  simp only [nd0, Y1n, Y1o, Y1p, Y1q, Y1w, Y1x, Y1y, Y1z, Y20, Y21, Y28, Y2a, AV.cells?, Nat.reduceAdd, Nat.reduceMul]
  rw [store1_L rfl]
  simp only [nd0, Y1n, Y1o, Y1p, Y1q, Y1w, Y1x, Y1y, Y1z, Y20, Y21, Y28, Y2a, AV.cells?, Nat.reduceAdd, Nat.reduceMul, Nat.reduceLT]
  have := Ex.size_wt x hf
  refine wCall.pc (b := 0) (walk_spec B (x.wt + 1) x (by omega) hw hf 0 (by omega)) rfl rfl ?_
  rintro r cs c2 ⟨rfl, rfl⟩
  simp only [nd0, Y1n, Y1o, Y1p, Y1q, Y1w, Y1x, Y1y, Y1z, Y20, Y21, Y28, Y2a, AV.cells?, Nat.reduceAdd, Nat.reduceMul]
  exact hR _ _ (by simp)
end

/-! ### a fact: an expression of two -/
structure KeepExprBodies (E : Env) (P : Program) : Prop where
  p : ParseBodies E P
  w : WriteBodies E P
  e : EvalBodies E P
  says : Body0 E P 155 F.keep_says
section
variable {E : Env} {P : Program}
def saysEx : Ex := .and [.bit [97], .not (.bit [98])]
theorem saysEx_text : saysEx.wr 0 = [97, 32, 38, 32, 33, 98] := by rfl
theorem saysEx_fine : saysEx.fine := ⟨by simp, by show nameOk [97] = true; decide, by show nameOk [98] = true; decide, trivial⟩
theorem saysEx_parse : parseA [97, 32, 38, 32, 33, 98] = .tup [saysEx.enc, nilE] := by
  have h := parse_text saysEx_fine (by decide)
  rw [saysEx_text] at h
  unfold parseA
  rw [if_neg (by decide), h]
theorem says_spec (B : KeepExprBodies E P) : FX E P 155 [] (Bo true) := by
  refine FX.of' trivial trivial fun n R hR => B.says _ _ ?_
  unfold F.keep_says
  have hp := Parse_spec B.p [97, 32, 38, 32, 33, 98]
  rw [saysEx_parse] at hp
  have nilT : TXL nilS [] := .inl ⟨rfl, rfl⟩
  refine wCall.fx hp fun n => ?_
  have hne : eqA .iface saysEx.enc nilE = some false := rfl
  simp only [nd0, Y1n, Y1o, Y1p, Y1q, Y1w, Y1x, Y1y, Y1z, Y20, Y21, Y28, Y2a, AV.cells?, Nat.reduceAdd, Nat.reduceMul, hne]
  have hS : ∀ l : List Str, (fillA (List.replicate l.length [S []]).flatten []) = (fillA (List.replicate l.length [S []]).flatten []) := fun _ => rfl
  have hwt : saysEx.wt ≤ 1000000 := by decide
  refine wNewS.F' (l := [S [97]]) rfl rfl ?_
  have t1 : TXL (.slN [S [97]] 1) [[97]] := .inr rfl
  refine wCall.fx (among_spec B.e t1) fun n => ?_
  refine wCall.fx (among_spec B.e nilT) fun n => ?_
  refine wCall.fx (Eval_spec B.e (among_asks B.e t1 (by decide)) (among_asks B.e nilT (by decide)) (saysEx.wt + 1) saysEx (by omega) hwt saysEx_fine) fun n => ?_
  rw [show saysEx.says (fun s => decide (s ∈ [[97]])) (fun s => decide (s ∈ ([] : List Str))) = true by decide]
  simp only [nd0, Y1n, Y1o, Y1p, Y1q, Y1w, Y1x, Y1y, Y1z, Y20, Y21, Y28, Y2a, AV.cells?, Nat.reduceAdd, Nat.reduceMul]
  refine wNewS.F' (l := [S [97], S [98]]) rfl rfl ?_
  have t2 : TXL (.slN [S [97], S [98]] 2) [[97], [98]] := .inr rfl
  refine wCall.fx (among_spec B.e t2) fun n => ?_
  refine wCall.fx (among_spec B.e nilT) fun n => ?_
  refine wCall.fx (Eval_spec B.e (among_asks B.e t2 (by decide)) (among_asks B.e nilT (by decide)) (saysEx.wt + 1) saysEx (by omega) hwt saysEx_fine) fun n => ?_
  rw [show saysEx.says (fun s => decide (s ∈ [[97], [98]])) (fun s => decide (s ∈ ([] : List Str))) = false by decide]
  simp only [nd0, Y1n, Y1o, Y1p, Y1q, Y1w, Y1x, Y1y, Y1z, Y20, Y21, Y28, Y2a, AV.cells?, Nat.reduceAdd, Nat.reduceMul]
  refine wCall.fx (Text_spec B.w saysEx hwt saysEx_fine) fun n => ?_
  rw [saysEx_text]
  simp only [nd0, Y1n, Y1o, Y1p, Y1q, Y1w, Y1x, Y1y, Y1z, Y20, Y21, Y28, Y2a, AV.cells?, Nat.reduceAdd, Nat.reduceMul]
  exact hR _ _ rfl
end
end Go.Sc
namespace Go.Sc.F
open Go Go.Sc
set_option linter.unusedVariables false

/-- signalbox/signalboxlaw.ExprTidies -/
def law_ExprTidies (E : Env) (P : Program) (a0 : AV) (H : AH) (R : Kt) : Prop :=
  wCall E P 169 [a0] H fun t8 H =>
  wGet (extractA t8 0) H fun t9 H =>
  wGet (extractA t8 1) H fun t10 H =>
  wGet (extractA t8 2) H fun t11 H =>
  wGet (unA .not t11) H fun t13 H =>
  wGuard t13 false H (fun k => k t9 H) fun t15 H =>
  wGuard t13 false H (fun k => wBool (eqA .iface t15 (.val (.nilIface))) H true k) fun t16 H =>
  wGuard t13 false H (fun k => k t16 H) fun t17 H =>
  wGuard t17 true H (fun k => k t9 H) fun t18 H =>
  wGuard t17 true H (fun k => wCall E P 170 [t18] H k) fun t19 H =>
  wGuard t17 true H (fun k => wCall E P 127 [t19] H k) fun t20 H =>
  wGuard t17 true H (fun k => k t10 H) fun t21 H =>
  wGuard t17 true H (fun k => wCall E P 171 [t21] H k) fun t22 H =>
  wGuard t17 true H (fun k => wCall E P 128 [t22] H k) fun t23 H =>
  wGuard t17 true H (fun k => wGet (binA .eql t20 t23) H k) fun t24 H =>
  wGuard t13 false H (fun k => wGet (pickA t17 t24 (.val (.bool false))) H k) fun t25 H =>
  wGet (pickA t13 (.val (.bool true)) t25) H fun t26 H =>
  R t26 H

/-- signalbox/signalboxlaw.read -/
def law_read (E : Env) (P : Program) (a0 : AV) (H : AH) (R : Kt) : Prop :=
  wGet (lenS a0) H fun t10 H =>
  wGet (binA .gtr t10 (.val (.int .i64 1000))) H fun t11 H =>
  wIf t11 (
    R (.tup [(.val (.nilIface)), (.val (.pointer none)), (.val (.bool false))]) H) (
    wCall E P 125 [a0] H fun t14 H =>
    wGet (extractA t14 0) H fun t15 H =>
    wGet (extractA t14 1) H fun t16 H =>
    wNew 2 (some [(.val (.int .i64 0)), (.val (.int .i64 0))]) H fun t6 H =>
    wPut (storeN 2 t6 t16 H) fun _u H =>
    wGet (faddr 0 t6) H fun t17 H =>
    wGet (load1 t17 H) H fun t18 H =>
    wGet (binA .neq t18 (.val (.int .i64 0))) H fun t19 H =>
    wIf t19 (
      R (.tup [(.val (.nilIface)), (.val (.pointer none)), (.val (.bool false))]) H) (
      wCall E P 126 [a0] H fun t22 H =>
      wGet (extractA t22 0) H fun t23 H =>
      wGet (extractA t22 1) H fun t24 H =>
      wBool (eqA .iface t24 (.val (.nilIface))) H true fun t26 H =>
      wIf t26 (
        R (.tup [(.val (.nilIface)), t15, (.val (.bool true))]) H) (
        R (.tup [t23, t15, (.val (.bool true))]) H)))

/-- signalbox/expr.Tidy -/
def expr_Tidy (E : Env) (P : Program) (a0 : AV) (H : AH) (R : Kt) : Prop :=
  wGet (assertA 10 (.agg [(.val (.nilIface))]) a0) H fun t14 H =>
  wGet (extractA t14 1) H fun t15 H =>
  wGet (extractA t14 0) H fun t16 H =>
  wIf t15 (
    wNew 1 (some [(.val (.nilIface))]) H fun t3 H =>
    wPut (storeN 1 t3 t16 H) fun _u H =>
    wGet (faddr 0 t3) H fun t17 H =>
    wGet (load1 t17 H) H fun t18 H =>
    wCall E P 170 [t18] H fun t19 H =>
    wGet (assertA 11 (.val (.bool false)) t19) H fun t23 H =>
    wGet (extractA t23 1) H fun t24 H =>
    wGet (extractA t23 0) H fun t25 H =>
    wIf t24 (
      wGet (unA .not t25) H fun t27 H =>
      R (.ifc 11 t27) H) (
      wGet (assertA 10 (.agg [(.val (.nilIface))]) t19) H fun t29 H =>
      wGet (extractA t29 1) H fun t30 H =>
      wGet (extractA t29 0) H fun t31 H =>
      wIf t30 (
        wNew 1 (some [(.val (.nilIface))]) H fun t5 H =>
        wPut (storeN 1 t5 t31 H) fun _u H =>
        wGet (faddr 0 t5) H fun t32 H =>
        wGet (load1 t32 H) H fun t33 H =>
        R t33 H) (
        wAgg (fillA [(.val (.nilIface))] [(0, 1, t19)]) H fun t21 H =>
        R (.ifc 10 t21) H))) (
    wGet (assertA 9 (.val (.slice none 0 0)) a0) H fun t34 H =>
    wGet (extractA t34 1) H fun t35 H =>
    wGet (extractA t34 0) H fun t36 H =>
    wIf t35 (
      wCall E P 173 [t36, (.val (.bool true))] H fun t39 H =>
      wGet (extractA t39 0) H fun t40 H =>
      wGet (extractA t39 1) H fun t41 H =>
      wIf t41 (
        R (.ifc 11 (.val (.bool false))) H) (
        wGet (lenA t40) H fun t47 H =>
        wGet (binA .eql t47 (.val (.int .i64 0))) H fun t48 H =>
        wIf t48 (
          R (.ifc 11 (.val (.bool true))) H) (
          wGet (lenA t40) H fun t52 H =>
          wGet (binA .eql t52 (.val (.int .i64 1))) H fun t53 H =>
          wIf t53 (
            wGet (iaddr 1 t40 (.val (.int .i64 0))) H fun t55 H =>
            wGet (load1 t55 H) H fun t56 H =>
            R t56 H) (
            R (.ifc 9 t40) H)))) (
      wGet (assertA 8 (.val (.slice none 0 0)) a0) H fun t59 H =>
      wGet (extractA t59 1) H fun t60 H =>
      wGet (extractA t59 0) H fun t61 H =>
      wIf t60 (
        wCall E P 173 [t61, (.val (.bool false))] H fun t64 H =>
        wGet (extractA t64 0) H fun t65 H =>
        wGet (extractA t64 1) H fun t66 H =>
        wIf t66 (
          R (.ifc 11 (.val (.bool true))) H) (
          wGet (lenA t65) H fun t72 H =>
          wGet (binA .eql t72 (.val (.int .i64 0))) H fun t73 H =>
          wIf t73 (
            R (.ifc 11 (.val (.bool false))) H) (
            wGet (lenA t65) H fun t77 H =>
            wGet (binA .eql t77 (.val (.int .i64 1))) H fun t78 H =>
            wIf t78 (
              wGet (iaddr 1 t65 (.val (.int .i64 0))) H fun t80 H =>
              wGet (load1 t80 H) H fun t81 H =>
              R t81 H) (
              R (.ifc 8 t65) H)))) (
        R a0 H)))

/-- (*signalbox/signalboxref.Expr).Tidy -/
def pref_Expr_Tidy (E : Env) (P : Program) (a0 : AV) (H : AH) (R : Kt) : Prop :=
  wGet (nilA a0) H fun t17 H =>
  wGet (faddr 0 t17) H fun t18 H =>
  wGet (load1 t18 H) H fun t19 H =>
  wGet (binA .eql t19 (.val (.string ⟨#[33]⟩))) H fun t21 H =>
  wIf t21 (
    wGet (nilA a0) H fun t23 H =>
    wGet (faddr 2 t23) H fun t24 H =>
    wGet (load1 t24 H) H fun t25 H =>
    wGet (iaddr 1 t25 (.val (.int .i64 0))) H fun t26 H =>
    wGet (load1 t26 H) H fun t27 H =>
    wCall E P 171 [t27] H fun t28 H =>
    wGet (nilA t28) H fun t30 H =>
    wGet (faddr 0 t30) H fun t31 H =>
    wGet (load1 t31 H) H fun t32 H =>
    wGet (binA .eql t32 (.val (.string ⟨#[48]⟩))) H fun t34 H =>
    wIf t34 (
      wAgg (fillA [(.val (.string ⟨#[]⟩)), (.val (.string ⟨#[]⟩)), (.val (.slice none 0 0))] [(0, 1, (.val (.string ⟨#[49]⟩)))]) H fun t35 H =>
      wNew 3 (AV.cells? t35) H fun t36 H =>
      R t36 H) (
      wGet (binA .eql t32 (.val (.string ⟨#[49]⟩))) H fun t38 H =>
      wIf t38 (
        wAgg (fillA [(.val (.string ⟨#[]⟩)), (.val (.string ⟨#[]⟩)), (.val (.slice none 0 0))] [(0, 1, (.val (.string ⟨#[48]⟩)))]) H fun t39 H =>
        wNew 3 (AV.cells? t39) H fun t40 H =>
        R t40 H) (
        wCall E P 174 [t28] H fun t42 H =>
        R t42 H))) (
    wJoin 1 (fun J1 =>
      wGet (binA .eql t19 (.val (.string ⟨#[38]⟩))) H fun t44 H =>
      wIf t44 (
        J1 t44 H) (
        wGet (binA .eql t19 (.val (.string ⟨#[124]⟩))) H fun t45 H =>
        J1 t45 H)) fun t43 H =>
      wIf t43 (
        wJoin 2 (fun J2 =>
          wGet (nilA a0) H fun t47 H =>
          wGet (faddr 0 t47) H fun t48 H =>
          wGet (load1 t48 H) H fun t49 H =>
          wGet (binA .eql t49 (.val (.string ⟨#[124]⟩))) H fun t50 H =>
          wIf t50 (
            J2 (.val (.string ⟨#[48]⟩)) (.val (.string ⟨#[49]⟩)) H) (
            J2 (.val (.string ⟨#[49]⟩)) (.val (.string ⟨#[48]⟩)) H)) fun t4 t5 H =>
          wGet (nilA a0) H fun t52 H =>
          wGet (faddr 2 t52) H fun t53 H =>
          wGet (load1 t53 H) H fun t54 H =>
          wGet (lenA t54) H fun t55 H =>
          wLoop 2 (fun I3 => I3 (.val (.slice none 0 0)) (.val (.int .i64 0)) H) fun I3 t6 t56 H =>
            wGet (binA .lss t56 t55) H fun t57 H =>
            wIf t57 (
              wGet (iaddr 1 t54 t56) H fun t58 H =>
              wGet (load1 t58 H) H fun t59 H =>
              wCall E P 171 [t59] H fun t61 H =>
              wNewS 1 1 (fillA (List.replicate 1 [(.val (.pointer none))]).flatten [(0, 1, t61)]) H fun t63 H =>
              wJoin 1 (fun J4 =>
                wGet (nilA t61) H fun t65 H =>
                wGet (faddr 0 t65) H fun t66 H =>
                wGet (load1 t66 H) H fun t67 H =>
                wGet (nilA a0) H fun t69 H =>
                wGet (faddr 0 t69) H fun t70 H =>
                wGet (load1 t70 H) H fun t71 H =>
                wGet (binA .eql t67 t71) H fun t72 H =>
                wIf t72 (
                  wGet (nilA t61) H fun t74 H =>
                  wGet (faddr 2 t74) H fun t75 H =>
                  wGet (load1 t75 H) H fun t76 H =>
                  J4 t76 H) (
                  J4 t63 H)) fun t10 H =>
                wJoin 1 (fun J5 =>
                  wGet (nilA t61) H fun t78 H =>
                  wGet (faddr 0 t78) H fun t79 H =>
                  wGet (load1 t79 H) H fun t80 H =>
                  wGet (binA .eql t80 t4) H fun t82 H =>
                  wIf t82 (
                    J5 (.val (.slice none 0 0)) H) (
                    J5 t10 H)) fun t10_1 H =>
                  wGet (nilA t61) H fun t84 H =>
                  wGet (faddr 0 t84) H fun t85 H =>
                  wGet (load1 t85 H) H fun t86 H =>
                  wGet (binA .eql t86 t5) H fun t88 H =>
                  wIf t88 (
                    wAgg (fillA [(.val (.string ⟨#[]⟩)), (.val (.string ⟨#[]⟩)), (.val (.slice none 0 0))] [(0, 1, t5)]) H fun t90 H =>
                    wNew 3 (AV.cells? t90) H fun t91 H =>
                    R t91 H) (
                    wGet (lenA t10_1) H fun t93 H =>
                    wLoop 2 (fun I6 => I6 t6 (.val (.int .i64 0)) H) fun I6 t6_1 t94 H =>
                      wGet (binA .lss t94 t93) H fun t95 H =>
                      wIf t95 (
                        wJoin 1 (fun J7 =>
                          wGet (iaddr 1 t10_1 t94) H fun t96 H =>
                          wGet (load1 t96 H) H fun t97 H =>
                          wGet (lenA t6_1) H fun t99 H =>
                          wLoop 2 (fun I8 => I8 (.val (.bool false)) (.val (.int .i64 0)) H) fun I8 t13 t100 H =>
                            wGet (binA .lss t100 t99) H fun t101 H =>
                            wIf t101 (
                              wGet (iaddr 1 t6_1 t100) H fun t102 H =>
                              wGet (load1 t102 H) H fun t103 H =>
                              wCall E P 128 [t103] H fun t105 H =>
                              wCall E P 174 [t97] H fun t107 H =>
                              wCall E P 128 [t107] H fun t108 H =>
                              wGet (binA .eql t105 t108) H fun t109 H =>
                              wIf t109 (
                                wAgg (fillA [(.val (.string ⟨#[]⟩)), (.val (.string ⟨#[]⟩)), (.val (.slice none 0 0))] [(0, 1, t5)]) H fun t111 H =>
                                wNew 3 (AV.cells? t111) H fun t112 H =>
                                R t112 H) (
                                wGuard t13 false H (fun k => k t103 H) fun t115 H =>
                                wGuard t13 false H (fun k => wCall E P 128 [t115] H k) fun t116 H =>
                                wGuard t13 false H (fun k => k t97 H) fun t117 H =>
                                wGuard t13 false H (fun k => wCall E P 128 [t117] H k) fun t118 H =>
                                wGuard t13 false H (fun k => wGet (binA .eql t116 t118) H k) fun t119 H =>
                                wGet (pickA t13 (.val (.bool true)) t119) H fun t120 H =>
                                wGet (binA .add t100 (.val (.int .i64 1))) H fun t121 H =>
                                I8 t120 t121 H)) (
                              wGet (unA .not t13) H fun t123 H =>
                              wIf t123 (
                                wNewS 1 1 (fillA (List.replicate 1 [(.val (.pointer none))]).flatten [(0, 1, t97)]) H fun t126 H =>
                                wApp 1 8 t6_1 t126 H fun t127 H =>
                                J7 t127 H) (
                                J7 t6_1 H))) fun t6_2 H =>
                          wGet (binA .add t94 (.val (.int .i64 1))) H fun t128 H =>
                          I6 t6_2 t128 H) (
                        wGet (binA .add t56 (.val (.int .i64 1))) H fun t129 H =>
                        I3 t6_1 t129 H))) (
              wGet (lenA t6) H fun t131 H =>
              wGet (binA .eql t131 (.val (.int .i64 0))) H fun t133 H =>
              wIf t133 (
                wAgg (fillA [(.val (.string ⟨#[]⟩)), (.val (.string ⟨#[]⟩)), (.val (.slice none 0 0))] [(0, 1, t4)]) H fun t135 H =>
                wNew 3 (AV.cells? t135) H fun t136 H =>
                R t136 H) (
                wGet (binA .eql t131 (.val (.int .i64 1))) H fun t138 H =>
                wIf t138 (
                  wGet (iaddr 1 t6 (.val (.int .i64 0))) H fun t140 H =>
                  wGet (load1 t140 H) H fun t141 H =>
                  R t141 H) (
                  wGet (nilA a0) H fun t143 H =>
                  wGet (faddr 0 t143) H fun t144 H =>
                  wGet (load1 t144 H) H fun t145 H =>
                  wAgg (fillA [(.val (.string ⟨#[]⟩)), (.val (.string ⟨#[]⟩)), (.val (.slice none 0 0))] [(0, 1, t145), (2, 1, t6)]) H fun t147 H =>
                  wNew 3 (AV.cells? t147) H fun t148 H =>
                  R t148 H)))) (
        R a0 H))

/-- signalbox/expr.parts -/
def expr_parts (E : Env) (P : Program) (a0 a1 : AV) (H : AH) (R : Kt) : Prop :=
  wNew 1 (some [(.val (.slice none 0 0))]) H fun t6 H =>
  wNew 1 (some [(.val (.slice none 0 0))]) H fun t7 H =>
  wGet (lenA a0) H fun t18 H =>
  wLoop 1 (fun I1 => I1 (.val (.int .i64 0)) H) fun I1 t19 H =>
    wGet (binA .lss t19 t18) H fun t20 H =>
    wIf t20 (
      wGet (iaddr 1 a0 t19) H fun t21 H =>
      wGet (load1 t21 H) H fun t22 H =>
      wJoin 1 (fun J2 =>
        wCall E P 170 [t22] H fun t24 H =>
        wGet (assertA 11 (.val (.bool false)) t24) H fun t27 H =>
        wGet (extractA t27 1) H fun t28 H =>
        wGet (extractA t27 0) H fun t29 H =>
        wIf t28 (
          wBool (eqA .bool t29 a1) H true fun t32 H =>
          wIf t32 (
            R (.tup [(.val (.slice none 0 0)), (.val (.bool true))]) H) (
            J2 (.val (.slice none 0 0)) H)) (
          wGet (assertA 9 (.val (.slice none 0 0)) t24) H fun t33 H =>
          wGet (extractA t33 1) H fun t34 H =>
          wGet (extractA t33 0) H fun t35 H =>
          wIf t34 (
            wNewS 1 1 (fillA (List.replicate 1 [(.val (.nilIface))]).flatten [(0, 1, (.ifc 9 t35))]) H fun t38 H =>
            wIf a1 (
              J2 t35 H) (
              J2 t38 H)) (
            wGet (assertA 8 (.val (.slice none 0 0)) t24) H fun t41 H =>
            wGet (extractA t41 1) H fun t42 H =>
            wGet (extractA t41 0) H fun t43 H =>
            wIf t42 (
              wNewS 1 1 (fillA (List.replicate 1 [(.val (.nilIface))]).flatten [(0, 1, (.ifc 8 t43))]) H fun t46 H =>
              wGet (unA .not a1) H fun t48 H =>
              wIf t48 (
                J2 t43 H) (
                J2 t46 H)) (
              wNewS 1 1 (fillA (List.replicate 1 [(.val (.nilIface))]).flatten [(0, 1, t24)]) H fun t26 H =>
              J2 t26 H)))) fun t11 H =>
        wCall E P 176 [t11, (.fn 175 [] [t7, t6])] H fun t52 H =>
        wIf t52 (
          R (.tup [(.val (.slice none 0 0)), (.val (.bool true))]) H) (
          wGet (binA .add t19 (.val (.int .i64 1))) H fun t53 H =>
          I1 t53 H)) (
      wGet (load1 t6 H) H fun t54 H =>
      R (.tup [t54, (.val (.bool false))]) H)

/-- (*signalbox/signalboxref.Expr).other -/
def pref_Expr_other (E : Env) (P : Program) (a0 : AV) (H : AH) (R : Kt) : Prop :=
  wGet (nilA a0) H fun t4 H =>
  wGet (faddr 0 t4) H fun t5 H =>
  wGet (load1 t5 H) H fun t6 H =>
  wGet (binA .eql t6 (.val (.string ⟨#[33]⟩))) H fun t7 H =>
  wIf t7 (
    wGet (nilA a0) H fun t9 H =>
    wGet (faddr 2 t9) H fun t10 H =>
    wGet (load1 t10 H) H fun t11 H =>
    wGet (iaddr 1 t11 (.val (.int .i64 0))) H fun t12 H =>
    wGet (load1 t12 H) H fun t13 H =>
    R t13 H) (
    wNewS 1 1 (fillA (List.replicate 1 [(.val (.pointer none))]).flatten [(0, 1, a0)]) H fun t15 H =>
    wAgg (fillA [(.val (.string ⟨#[]⟩)), (.val (.string ⟨#[]⟩)), (.val (.slice none 0 0))] [(0, 1, (.val (.string ⟨#[33]⟩))), (2, 1, t15)]) H fun t16 H =>
    wNew 3 (AV.cells? t16) H fun t17 H =>
    R t17 H)

/-- signalbox/expr.parts$1 -/
def expr_parts_c1 (E : Env) (P : Program) (a0 a1 a2 : AV) (H : AH) (R : Kt) : Prop :=
  wCall E P 127 [a0] H fun t10 H =>
  wGet (load1 a1 H) H fun t11 H =>
  wCall E P 5 [t11, t10] H fun t13 H =>
  wIf t13 (
    R (.val (.bool false)) H) (
    wAgg (fillA [(.val (.nilIface))] [(0, 1, a0)]) H fun t15 H =>
    wCall E P 127 [(.ifc 10 t15)] H fun t17 H =>
    wJoin 1 (fun J1 =>
      wGet (assertA 10 (.agg [(.val (.nilIface))]) a0) H fun t20 H =>
      wGet (extractA t20 0) H fun t21 H =>
      wGet (extractA t20 1) H fun t22 H =>
      wNew 1 (some [(.val (.nilIface))]) H fun t7 H =>
      wPut (storeN 1 t7 t21 H) fun _u H =>
      wIf t22 (
        wGet (faddr 0 t7) H fun t24 H =>
        wGet (load1 t24 H) H fun t25 H =>
        wCall E P 127 [t25] H fun t26 H =>
        J1 t26 H) (
        J1 t17 H)) fun t6 H =>
      wGet (load1 a1 H) H fun t27 H =>
      wCall E P 5 [t27, t6] H fun t29 H =>
      wIf t29 (
        R (.val (.bool true)) H) (
        wJoin 0 (fun J2 =>
          wGet (load1 a2 H) H fun t30 H =>
          wGet (load1 a1 H) H fun t34 H =>
          (
            wNewS 1 1 (fillA (List.replicate 1 [(.val (.nilIface))]).flatten [(0, 1, a0)]) H fun t32 H =>
            (wGet (load1 a2 H) H (fun y H2 => y = t30 ∧ H2 = H)) ∧
            (wGet (load1 a1 H) H (fun y H2 => y = t34 ∧ H2 = H)) ∧
            (
              wApp 1 16 t30 t32 H fun t33 H =>
              (wGet (load1 a1 H) H (fun y H2 => y = t34 ∧ H2 = H)) ∧
              wNewS 1 1 (fillA (List.replicate 1 [(.val (.string ⟨#[]⟩))]).flatten [(0, 1, t10)]) H fun t36 H =>
              (wGet (load1 a2 H) H (fun y H2 => y = t30 ∧ H2 = H)) ∧
              (wGet (load1 a1 H) H (fun y H2 => y = t34 ∧ H2 = H)) ∧
              wApp 1 16 t34 t36 H fun t37 H =>
              wPut (store1 a2 t33 H) fun _u H =>
              wPut (store1 a1 t37 H) fun _u H =>
              J2 H) ∧
            (
              wNewS 1 1 (fillA (List.replicate 1 [(.val (.string ⟨#[]⟩))]).flatten [(0, 1, t10)]) H fun t36_1 H =>
              (wGet (load1 a2 H) H (fun y H2 => y = t30 ∧ H2 = H)) ∧
              (wGet (load1 a1 H) H (fun y H2 => y = t34 ∧ H2 = H)) ∧
              wApp 1 16 t30 t32 H fun t33_1 H =>
              (wGet (load1 a1 H) H (fun y H2 => y = t34 ∧ H2 = H)) ∧
              wApp 1 16 t34 t36_1 H fun t37_1 H =>
              wPut (store1 a2 t33_1 H) fun _u H =>
              wPut (store1 a1 t37_1 H) fun _u H =>
              J2 H)) ∧
          (
            wNewS 1 1 (fillA (List.replicate 1 [(.val (.string ⟨#[]⟩))]).flatten [(0, 1, t10)]) H fun t36_2 H =>
            (wGet (load1 a2 H) H (fun y H2 => y = t30 ∧ H2 = H)) ∧
            (wGet (load1 a1 H) H (fun y H2 => y = t34 ∧ H2 = H)) ∧
            wNewS 1 1 (fillA (List.replicate 1 [(.val (.nilIface))]).flatten [(0, 1, a0)]) H fun t32_1 H =>
            (wGet (load1 a2 H) H (fun y H2 => y = t30 ∧ H2 = H)) ∧
            (wGet (load1 a1 H) H (fun y H2 => y = t34 ∧ H2 = H)) ∧
            wApp 1 16 t30 t32_1 H fun t33_2 H =>
            (wGet (load1 a1 H) H (fun y H2 => y = t34 ∧ H2 = H)) ∧
            wApp 1 16 t34 t36_2 H fun t37_2 H =>
            wPut (store1 a2 t33_2 H) fun _u H =>
            wPut (store1 a1 t37_2 H) fun _u H =>
            J2 H)) fun H =>
          R (.val (.bool false)) H))

/-- slices.ContainsFunc[[]signalbox/expr.Expr,signalbox/expr.Expr] -/
def slices_ContainsFunc_Lexpr_Expr_expr_Expr (E : Env) (P : Program) (a0 a1 : AV) (H : AH) (R : Kt) : Prop :=
  wCall E P 177 [a0, a1] H fun t7 H =>
  wGet (binA .geq t7 (.val (.int .i64 0))) H fun t8 H =>
  R t8 H

/-- slices.IndexFunc[[]signalbox/expr.Expr,signalbox/expr.Expr] -/
def slices_IndexFunc_Lexpr_Expr_expr_Expr (E : Env) (P : Program) (a0 a1 : AV) (H : AH) (R : Kt) : Prop :=
  wGet (lenA a0) H fun t7 H =>
  wLoop 1 (fun I1 => I1 (.val (.int .i64 0)) H) fun I1 t8 H =>
    wGet (binA .lss t8 t7) H fun t9 H =>
    wIf t9 (
      wGet (iaddr 1 a0 t8) H fun t14 H =>
      wGet (load1 t14 H) H fun t15 H =>
      wCallV E P a1 [t15] H fun t16 H =>
      wIf t16 (
        R t8 H) (
        wGet (binA .add t8 (.val (.int .i64 1))) H fun t18 H =>
        I1 t18 H)) (
      R (.val (.int .i64 (-1))) H)

end Go.Sc.F
namespace Go.Sc
open Go
set_option linter.unusedSimpArgs false
set_option linter.unusedVariables false
set_option linter.unnecessarySimpa false

structure TidyBodies (E : Env) (P : Program) : Prop where
  n : NameBodies E P
  w : WriteBodies E P
  tidy : Body1 E P 170 F.expr_Tidy
  parts : Body2 E P 173 F.expr_parts
  parts1 : Body3 E P 175 F.expr_parts_c1
  con : Body2 E P 176 F.slices_ContainsFunc_Lexpr_Expr_expr_Expr
  ix : Body2 E P 177 F.slices_IndexFunc_Lexpr_Expr_expr_Expr
/-- what has been found so far: the parts, and their texts -/
def PH (g0 g1 : Nat) (acc : List Ex) (H : AH) : Prop := ∃ x0 x1 z0 z1 c, H = ⟨[.cells g0 1 [x0], .cells g1 1 [x1], z0, z1], c⟩ ∧ Gr 1 z0 2 x0 (Ex.encL acc) acc.length ∧ Gr 1 z1 3 x1 ((acc.map (Ex.wr 0)).map fun s => S s) acc.length
theorem hasT_dec (l : List Ex) (t : Str) : decide (t ∈ l.map (Ex.wr 0)) = hasT l t := by
  rw [Bool.eq_iff_iff]
  unfold hasT
  simp [List.any_eq_true]
theorem kill4 {a b z0 z1 e : Blk} {c : Nat} {t : Str} : Ghost [S t] ⟨[a, b, z0, z1, e], c⟩ [S t] ⟨[a, b, z0, z1], c⟩ :=
  ghost_kill (H := ⟨[a, b, z0, z1, e], c⟩) (H' := ⟨[a, b, z0, z1], c⟩) (S := fun i => decide (i = 4)) rfl (.keep rfl (KB.same _) (.keep rfl (KB.same _) (.keep rfl (KB.same _) (.keep rfl (KB.same _) (.cut fun j x hx => by
    cases j with
    | zero => exact .inl rfl
    | succ j => simp at hx))))) (FkL.same _)
section
variable {E : Env} {P : Program}
theorem containsT (B : TidyBodies E P) {acc : List Ex} {z : Blk} {b : Nat} {x : AV} (hg : Gr 1 z b x ((acc.map (Ex.wr 0)).map fun s => S s) acc.length) (hn : acc.length ≤ 1000000) (t : Str) {H : AH} {K : Kt} (hK : ∀ n, K (Bo (hasT acc t)) ⟨H.bs, n⟩) : wCall E P 5 [x, S t] H K := by
  have hlen : (acc.map (Ex.wr 0)).length = acc.length := List.length_map _
  refine wCall.fxs (ContainsS_spec (IndexS_spec B.n.index) B.n.contains (acc.map (Ex.wr 0)) t (by rw [hlen]; omega)) (.cons (by
    have := hg.sub
    rw [Lm_S, hlen]; exact this) (.refl _)) fun n => ?_
  rw [hasT_dec]
  exact hK n
set_option maxHeartbeats 2000000 in
theorem add_spec (B : TidyBodies E P) {g0 g1 : Nat} {acc : List Ex} {y : Ex} (hn : acc.length ≤ 1000000) (hw : y.wt ≤ 900000) (hf : y.fine) {H : AH} (hH : PH g0 g1 acc H) :
    ACalls E P 175 [y.enc, .ptrL 1 0 g1, .ptrL 0 0 g0] H fun r H' => match addP acc y with
      | none => r = Bo true ∧ PH g0 g1 acc H'
      | some acc' => r = Bo false ∧ PH g0 g1 acc' H' := by
  obtain ⟨x0, x1, z0, z1, c, rfl, hg0, hg1⟩ := hH
  refine B.parts1 _ _ _ _ _ ?_
  unfold F.expr_parts_c1
  have hb : (acc.length + 1) * 16 ≤ mostBytes ∧ acc.length + 1 ≤ mostBytes := by simp [mostBytes]; omega
  refine wCall.fx (Text_spec B.w y (by omega) hf) fun n1 => ?_
  simp only [nd0, Y1n, Y1o, Y1p, Y1q, Y1w, Y1x, Y1y, Y1z, Y20, Y21, Y28, Y2a, AV.cells?, Nat.reduceAdd, Nat.reduceMul]
  refine containsT B hg1 hn _ fun n2 => ?_
  unfold addP
  by_cases h1 : hasT acc (y.wr 0) = true
  · rw [if_pos h1]
    rw [h1]
    simp only [nd0, Y1n, Y1o, Y1p, Y1q, Y1w, Y1x, Y1y, Y1z, Y20, Y21, Y28, Y2a, AV.cells?, Nat.reduceAdd, Nat.reduceMul]
    exact ⟨trivial, x0, x1, z0, z1, n2, rfl, hg0, hg1⟩
  rw [if_neg h1, Bool.not_eq_true] at *
  rw [h1]
  simp only [nd0, Y1n, Y1o, Y1p, Y1q, Y1w, Y1x, Y1y, Y1z, Y20, Y21, Y28, Y2a, AV.cells?, Nat.reduceAdd, Nat.reduceMul, show fillA [nilE] [(0, 1, y.enc)] = some [y.enc] from by rw [fillA_one (Ex.enc_scalar y) (by simp)]; rfl]
  have hnot : FX E P 127 [.ifc 10 (.agg [y.enc])] (S ((Ex.not y).wr 0)) := Text_spec B.w (.not y) (by simp only [Ex.wt]; omega) hf
  refine wCall.fx hnot fun n3 => ?_
  refine wJoin.one (fun t H => t = S (y.other.wr 0) ∧ ∃ n, H = ⟨[.cells g0 1 [x0], .cells g1 1 [x1], z0, z1], n⟩) ?_ ?_
  · have done : ∀ (o : Blk) (t : Str) n, t = y.other.wr 0 → gh1 (fun t H => t = S (y.other.wr 0) ∧ ∃ n, H = ⟨[.cells g0 1 [x0], .cells g1 1 [x1], z0, z1], n⟩) (S t) ⟨[.cells g0 1 [x0], .cells g1 1 [x1], z0, z1, o], n⟩ := fun o t n ht => gh1.of kill4 ⟨by rw [ht], n, rfl⟩
    have hsub1 : ∀ w : Ex, putL [nilE] 0 [w.enc] = some [w.enc] := fun _ => rfl
    have hz : putL [nilE] 0 [nilE] = some [nilE] := rfl
    cases y with
    | not w =>
      simp only [Ex.wt] at hw
      simp only [Ex.enc]
      simp only [nd0, Y1n, Y1o, Y1p, Y1q, Y1w, Y1x, Y1y, Y1z, Y20, Y21, Y28, Y2a, AV.cells?, Nat.reduceAdd, Nat.reduceMul, asA, show (10 : Nat) = 10 ↔ True by decide]
      refine wNew.L (l := [nilE]) rfl ?_
      simp only [nd0, Y1n, Y1o, Y1p, Y1q, Y1w, Y1x, Y1y, Y1z, Y20, Y21, Y28, Y2a, AV.cells?, Nat.reduceAdd, Nat.reduceMul]
      rw [storeN_L (n := 1) (xs := [w.enc]) rfl (by simp [Ex.enc_scalar])]
      simp only [nd0, Y1n, Y1o, Y1p, Y1q, Y1w, Y1x, Y1y, Y1z, Y20, Y21, Y28, Y2a, AV.cells?, Nat.reduceAdd, Nat.reduceMul, hsub1]
      refine wCall.fx (Text_spec B.w w (by omega) hf) fun n4 => ?_
      exact done _ _ _ rfl
    | k b =>
      simp only [Ex.enc]
      simp only [nd0, Y1n, Y1o, Y1p, Y1q, Y1w, Y1x, Y1y, Y1z, Y20, Y21, Y28, Y2a, AV.cells?, Nat.reduceAdd, Nat.reduceMul, asA, show (11 : Nat) = 10 ↔ False by decide]
      refine wNew.L (l := [nilE]) rfl ?_
      simp only [nd0, Y1n, Y1o, Y1p, Y1q, Y1w, Y1x, Y1y, Y1z, Y20, Y21, Y28, Y2a, AV.cells?, Nat.reduceAdd, Nat.reduceMul]
      rw [storeN_L (n := 1) (xs := [nilE]) rfl rfl]
      simp only [nd0, Y1n, Y1o, Y1p, Y1q, Y1w, Y1x, Y1y, Y1z, Y20, Y21, Y28, Y2a, AV.cells?, Nat.reduceAdd, Nat.reduceMul, hz]
      exact done _ _ _ rfl
    | bit b =>
      simp only [Ex.enc]
      simp only [nd0, Y1n, Y1o, Y1p, Y1q, Y1w, Y1x, Y1y, Y1z, Y20, Y21, Y28, Y2a, AV.cells?, Nat.reduceAdd, Nat.reduceMul, asA, show (14 : Nat) = 10 ↔ False by decide]
      refine wNew.L (l := [nilE]) rfl ?_
      simp only [nd0, Y1n, Y1o, Y1p, Y1q, Y1w, Y1x, Y1y, Y1z, Y20, Y21, Y28, Y2a, AV.cells?, Nat.reduceAdd, Nat.reduceMul]
      rw [storeN_L (n := 1) (xs := [nilE]) rfl rfl]
      simp only [nd0, Y1n, Y1o, Y1p, Y1q, Y1w, Y1x, Y1y, Y1z, Y20, Y21, Y28, Y2a, AV.cells?, Nat.reduceAdd, Nat.reduceMul, hz]
      exact done _ _ _ rfl
    | rise b =>
      simp only [Ex.enc]
      simp only [nd0, Y1n, Y1o, Y1p, Y1q, Y1w, Y1x, Y1y, Y1z, Y20, Y21, Y28, Y2a, AV.cells?, Nat.reduceAdd, Nat.reduceMul, asA, show (12 : Nat) = 10 ↔ False by decide]
      refine wNew.L (l := [nilE]) rfl ?_
      simp only [nd0, Y1n, Y1o, Y1p, Y1q, Y1w, Y1x, Y1y, Y1z, Y20, Y21, Y28, Y2a, AV.cells?, Nat.reduceAdd, Nat.reduceMul]
      rw [storeN_L (n := 1) (xs := [nilE]) rfl rfl]
      simp only [nd0, Y1n, Y1o, Y1p, Y1q, Y1w, Y1x, Y1y, Y1z, Y20, Y21, Y28, Y2a, AV.cells?, Nat.reduceAdd, Nat.reduceMul, hz]
      exact done _ _ _ rfl
    | fall b =>
      simp only [Ex.enc]
      simp only [nd0, Y1n, Y1o, Y1p, Y1q, Y1w, Y1x, Y1y, Y1z, Y20, Y21, Y28, Y2a, AV.cells?, Nat.reduceAdd, Nat.reduceMul, asA, show (13 : Nat) = 10 ↔ False by decide]
      refine wNew.L (l := [nilE]) rfl ?_
      simp only [nd0, Y1n, Y1o, Y1p, Y1q, Y1w, Y1x, Y1y, Y1z, Y20, Y21, Y28, Y2a, AV.cells?, Nat.reduceAdd, Nat.reduceMul]
      rw [storeN_L (n := 1) (xs := [nilE]) rfl rfl]
      simp only [nd0, Y1n, Y1o, Y1p, Y1q, Y1w, Y1x, Y1y, Y1z, Y20, Y21, Y28, Y2a, AV.cells?, Nat.reduceAdd, Nat.reduceMul, hz]
      exact done _ _ _ rfl
    | and b =>
      simp only [Ex.enc]
      simp only [nd0, Y1n, Y1o, Y1p, Y1q, Y1w, Y1x, Y1y, Y1z, Y20, Y21, Y28, Y2a, AV.cells?, Nat.reduceAdd, Nat.reduceMul, asA, show (9 : Nat) = 10 ↔ False by decide]
      refine wNew.L (l := [nilE]) rfl ?_
      simp only [nd0, Y1n, Y1o, Y1p, Y1q, Y1w, Y1x, Y1y, Y1z, Y20, Y21, Y28, Y2a, AV.cells?, Nat.reduceAdd, Nat.reduceMul]
      rw [storeN_L (n := 1) (xs := [nilE]) rfl rfl]
      simp only [nd0, Y1n, Y1o, Y1p, Y1q, Y1w, Y1x, Y1y, Y1z, Y20, Y21, Y28, Y2a, AV.cells?, Nat.reduceAdd, Nat.reduceMul, hz]
      exact done _ _ _ rfl
    | or b =>
      simp only [Ex.enc]
      simp only [nd0, Y1n, Y1o, Y1p, Y1q, Y1w, Y1x, Y1y, Y1z, Y20, Y21, Y28, Y2a, AV.cells?, Nat.reduceAdd, Nat.reduceMul, asA, show (8 : Nat) = 10 ↔ False by decide]
      refine wNew.L (l := [nilE]) rfl ?_
      simp only [nd0, Y1n, Y1o, Y1p, Y1q, Y1w, Y1x, Y1y, Y1z, Y20, Y21, Y28, Y2a, AV.cells?, Nat.reduceAdd, Nat.reduceMul]
      rw [storeN_L (n := 1) (xs := [nilE]) rfl rfl]
      simp only [nd0, Y1n, Y1o, Y1p, Y1q, Y1w, Y1x, Y1y, Y1z, Y20, Y21, Y28, Y2a, AV.cells?, Nat.reduceAdd, Nat.reduceMul, hz]
      exact done _ _ _ rfl
  · rintro t H ⟨rfl, n4, rfl⟩
    simp only [nd0, Y1n, Y1o, Y1p, Y1q, Y1w, Y1x, Y1y, Y1z, Y20, Y21, Y28, Y2a, AV.cells?, Nat.reduceAdd, Nat.reduceMul]
    refine containsT B hg1 hn _ fun n5 => ?_
    by_cases h2 : hasT acc (y.other.wr 0) = true
    · rw [if_pos h2, h2]
      simp only [nd0, Y1n, Y1o, Y1p, Y1q, Y1w, Y1x, Y1y, Y1z, Y20, Y21, Y28, Y2a, AV.cells?, Nat.reduceAdd, Nat.reduceMul]
      exact ⟨trivial, x0, x1, z0, z1, n5, rfl, hg0, hg1⟩
    rw [if_neg h2]
    rw [Bool.not_eq_true] at h2
    rw [h2]
    simp only [nd0, Y1n, Y1o, Y1p, Y1q, Y1w, Y1x, Y1y, Y1z, Y20, Y21, Y28, Y2a, AV.cells?, Nat.reduceAdd, Nat.reduceMul]
    refine wJoin.zero (fun H => PH g0 g1 (acc ++ [y]) H) ?_ (fun H h => ⟨trivial, h⟩)
    have henc : (Ex.encL acc).length = acc.length := Ex.encL_len acc
    have htx : ((acc.map (Ex.wr 0)).map fun s => S s).length = acc.length := by simp
    have fin : ∀ {x0' x1' : AV} {z0' z1' : Blk} {n : Nat}, Gr 1 z0' 2 x0' (Ex.encL acc ++ [y.enc]) (acc.length + 1) → Gr 1 z1' 3 x1' (((acc.map (Ex.wr 0)).map fun s => S s) ++ [S (y.wr 0)]) (acc.length + 1) →
        gh0 (fun H => PH g0 g1 (acc ++ [y]) H) ⟨[.cells g0 1 [x0'], .cells g1 1 [x1'], z0', z1'], n⟩ := fun {x0' x1' z0' z1' n} k0 k1 => gh0.mk ⟨x0', x1', z0', z1', n, rfl, by rw [Ex.encL_snoc, List.length_append]; exact k0, by rw [List.length_append, List.map_append, List.map_append]; exact k1⟩
    refine ⟨?_, ?_⟩
    · refine wNewS.F' (l := [y.enc]) (fill1 (Ex.enc_scalar y)) rfl ?_
      simp only [nd0, Y1n, Y1o, Y1p, Y1q, Y1w, Y1x, Y1y, Y1z, Y20, Y21, Y28, Y2a, AV.cells?, Nat.reduceAdd, Nat.reduceMul, and_self, true_and]
      refine ⟨?_, ?_⟩
      · refine wApp.one hg0 rfl henc (.refl _) (Ex.enc_scalar y) hb fun z0' x0' c1 k0 => ?_
        simp only [nd0, Y1n, Y1o, Y1p, Y1q, Y1w, Y1x, Y1y, Y1z, Y20, Y21, Y28, Y2a, AV.cells?, Nat.reduceAdd, Nat.reduceMul, and_self, true_and]
        refine wNewS.F' (l := [S (y.wr 0)]) (fill1 rfl) rfl ?_
        simp only [nd0, Y1n, Y1o, Y1p, Y1q, Y1w, Y1x, Y1y, Y1z, Y20, Y21, Y28, Y2a, AV.cells?, Nat.reduceAdd, Nat.reduceMul, and_self, true_and]
        refine wApp.one hg1 rfl htx (.refl _) rfl hb fun z1' x1' c2 k1 => ?_
        simp only [nd0, Y1n, Y1o, Y1p, Y1q, Y1w, Y1x, Y1y, Y1z, Y20, Y21, Y28, Y2a, AV.cells?, Nat.reduceAdd, Nat.reduceMul, and_self, true_and]
        rw [store1_L k0.scalar]
        simp only [nd0, Y1n, Y1o, Y1p, Y1q, Y1w, Y1x, Y1y, Y1z, Y20, Y21, Y28, Y2a, AV.cells?, Nat.reduceAdd, Nat.reduceMul, Nat.reduceLT]
        rw [store1_L k1.scalar]
        simp only [nd0, Y1n, Y1o, Y1p, Y1q, Y1w, Y1x, Y1y, Y1z, Y20, Y21, Y28, Y2a, AV.cells?, Nat.reduceAdd, Nat.reduceMul, Nat.reduceLT]
        exact fin k0 k1
      · refine wNewS.F' (l := [S (y.wr 0)]) (fill1 rfl) rfl ?_
        simp only [nd0, Y1n, Y1o, Y1p, Y1q, Y1w, Y1x, Y1y, Y1z, Y20, Y21, Y28, Y2a, AV.cells?, Nat.reduceAdd, Nat.reduceMul, and_self, true_and]
        refine wApp.one hg0 rfl henc (.refl _) (Ex.enc_scalar y) hb fun z0' x0' c1 k0 => ?_
        simp only [nd0, Y1n, Y1o, Y1p, Y1q, Y1w, Y1x, Y1y, Y1z, Y20, Y21, Y28, Y2a, AV.cells?, Nat.reduceAdd, Nat.reduceMul, and_self, true_and]
        refine wApp.one hg1 rfl htx (.refl _) rfl hb fun z1' x1' c2 k1 => ?_
        simp only [nd0, Y1n, Y1o, Y1p, Y1q, Y1w, Y1x, Y1y, Y1z, Y20, Y21, Y28, Y2a, AV.cells?, Nat.reduceAdd, Nat.reduceMul, and_self, true_and]
        rw [store1_L k0.scalar]
        simp only [nd0, Y1n, Y1o, Y1p, Y1q, Y1w, Y1x, Y1y, Y1z, Y20, Y21, Y28, Y2a, AV.cells?, Nat.reduceAdd, Nat.reduceMul, Nat.reduceLT]
        rw [store1_L k1.scalar]
        simp only [nd0, Y1n, Y1o, Y1p, Y1q, Y1w, Y1x, Y1y, Y1z, Y20, Y21, Y28, Y2a, AV.cells?, Nat.reduceAdd, Nat.reduceMul, Nat.reduceLT]
        exact fin k0 k1
    · refine wNewS.F' (l := [S (y.wr 0)]) (fill1 rfl) rfl ?_
      simp only [nd0, Y1n, Y1o, Y1p, Y1q, Y1w, Y1x, Y1y, Y1z, Y20, Y21, Y28, Y2a, AV.cells?, Nat.reduceAdd, Nat.reduceMul, and_self, true_and]
      refine wNewS.F' (l := [y.enc]) (fill1 (Ex.enc_scalar y)) rfl ?_
      simp only [nd0, Y1n, Y1o, Y1p, Y1q, Y1w, Y1x, Y1y, Y1z, Y20, Y21, Y28, Y2a, AV.cells?, Nat.reduceAdd, Nat.reduceMul, and_self, true_and]
      refine wApp.one hg0 rfl henc (.refl _) (Ex.enc_scalar y) hb fun z0' x0' c1 k0 => ?_
      simp only [nd0, Y1n, Y1o, Y1p, Y1q, Y1w, Y1x, Y1y, Y1z, Y20, Y21, Y28, Y2a, AV.cells?, Nat.reduceAdd, Nat.reduceMul, and_self, true_and]
      refine wApp.one hg1 rfl htx (.refl _) rfl hb fun z1' x1' c2 k1 => ?_
      simp only [nd0, Y1n, Y1o, Y1p, Y1q, Y1w, Y1x, Y1y, Y1z, Y20, Y21, Y28, Y2a, AV.cells?, Nat.reduceAdd, Nat.reduceMul, and_self, true_and]
      rw [store1_L k0.scalar]
      simp only [nd0, Y1n, Y1o, Y1p, Y1q, Y1w, Y1x, Y1y, Y1z, Y20, Y21, Y28, Y2a, AV.cells?, Nat.reduceAdd, Nat.reduceMul, Nat.reduceLT]
      rw [store1_L k1.scalar]
      simp only [nd0, Y1n, Y1o, Y1p, Y1q, Y1w, Y1x, Y1y, Y1z, Y20, Y21, Y28, Y2a, AV.cells?, Nat.reduceAdd, Nat.reduceMul, Nat.reduceLT]
      exact fin k0 k1
theorem pieces_len {l l' ps : List Ex} (h : addAll l ps = some l') : l'.length ≤ l.length + ps.length := by
  have := addAll_wt (fun _ => 1) h
  have e : ∀ m : List Ex, WtS (fun _ => 1) m = m.length := fun m => by
    induction m with
    | nil => rfl
    | cons x m ih => simp only [WtS, ih, List.length_cons]; omega
  rwa [e, e, e] at this
/-- one piece after the other -/
theorem ixAdd_spec (B : TidyBodies E P) {g0 g1 : Nat} {acc ps : List Ex} (hn : acc.length + ps.length ≤ 1000000) (hp : ∀ y ∈ ps, y.wt ≤ 900000 ∧ y.fine) {H : AH} (hH : PH g0 g1 acc H) :
    ACalls E P 177 [.slN (Ex.encL ps) ps.length, .fn 175 [] [.ptrL 1 0 g1, .ptrL 0 0 g0]] H fun r H' => match addAll acc ps with
      | none => (∃ i : Nat, r = Z i) ∧ ∃ acc', PH g0 g1 acc' H'
      | some acc' => r = Z (-1) ∧ PH g0 g1 acc' H' := by
  refine B.ix _ _ _ _ ?_
  unfold F.slices_IndexFunc_Lexpr_Expr_expr_Expr
  simp only [nd0, Y1n, Y1o, Y1p, Y1q, Y1w, Y1x, Y1y, Y1z, Y20, Y21, Y28, Y2a, AV.cells?, Nat.reduceAdd, Nat.reduceMul]
  refine wLoop.one (fun m i H => ∃ pre rest acc1, ps = pre ++ rest ∧ i = Z pre.length ∧ m = rest.length ∧ PH g0 g1 acc1 H ∧ acc1.length ≤ acc.length + pre.length ∧ addAll acc ps = addAll acc1 rest) ps.length (gh1.mk ⟨[], ps, acc, rfl, rfl, rfl, hH, by simp, rfl⟩) ?_
  rintro m i H ⟨pre, rest, acc1, hpr, rfl, rfl, hH1, hl1, he⟩
  cases rest with
  | nil =>
    rw [List.append_nil] at hpr
    subst hpr
    rw [he]
    simp only [nd0, Y1n, Y1o, Y1p, Y1q, Y1w, Y1x, Y1y, Y1z, Y20, Y21, Y28, Y2a, AV.cells?, Nat.reduceAdd, Nat.reduceMul, Int.lt_irrefl]
    exact ⟨trivial, hH1⟩
  | cons y rest =>
    have hym : y ∈ ps := by rw [hpr]; simp
    have hlt : pre.length < ps.length := by rw [hpr]; simp
    simp only [nd0, Y1n, Y1o, Y1p, Y1q, Y1w, Y1x, Y1y, Y1z, Y20, Y21, Y28, Y2a, AV.cells?, Nat.reduceAdd, Nat.reduceMul, decide_eq_true (show (pre.length : Int) < (ps.length : Int) by omega)]
    rw [iaddr_Nn hlt]
    simp only [nd0, Y1n, Y1o, Y1p, Y1q, Y1w, Y1x, Y1y, Y1z, Y20, Y21, Y28, Y2a, AV.cells?, Nat.reduceAdd, Nat.reduceMul, show (Ex.encL ps)[pre.length]? = some y.enc by rw [Ex.encL_map, hpr]; simp]
    refine ⟨⟨175, [], [.ptrL 1 0 g1, .ptrL 0 0 g0], rfl, _, add_spec B (by omega) (hp y hym).1 (hp y hym).2 hH1, ?_⟩⟩
    intro r H' hr
    have he2 : addAll acc1 (y :: rest) = match addP acc1 y with
      | none => none
      | some l' => addAll l' rest := by rw [addAll] <;> (cases addP acc1 y <;> rfl)
    rw [he2] at he
    cases ha : addP acc1 y with
    | none =>
      rw [ha] at hr he
      obtain ⟨rfl, hH2⟩ := hr
      rw [he]
      simp only [nd0, Y1n, Y1o, Y1p, Y1q, Y1w, Y1x, Y1y, Y1z, Y20, Y21, Y28, Y2a, AV.cells?, Nat.reduceAdd, Nat.reduceMul]
      exact ⟨⟨_, rfl⟩, _, hH2⟩
    | some acc2 =>
      rw [ha] at hr he
      obtain ⟨rfl, hH2⟩ := hr
      simp only [nd0, Y1n, Y1o, Y1p, Y1q, Y1w, Y1x, Y1y, Y1z, Y20, Y21, Y28, Y2a, AV.cells?, Nat.reduceAdd, Nat.reduceMul]
      rw [binA_succ (by omega)]
      simp only [nd0, Y1n, Y1o, Y1p, Y1q, Y1w, Y1x, Y1y, Y1z, Y20, Y21, Y28, Y2a, AV.cells?, Nat.reduceAdd, Nat.reduceMul]
      refine back1.mk rest.length (by simp) ⟨pre ++ [y], rest, acc2, by rw [hpr]; simp, by simp, rfl, hH2, ?_, he⟩
      rcases addP_sub ha with rfl | rfl
      · simp; omega
      · simp; omega
theorem conAdd_spec (B : TidyBodies E P) {g0 g1 : Nat} {acc ps : List Ex} (hn : acc.length + ps.length ≤ 1000000) (hp : ∀ y ∈ ps, y.wt ≤ 900000 ∧ y.fine) {H : AH} (hH : PH g0 g1 acc H) :
    ACalls E P 176 [.slN (Ex.encL ps) ps.length, .fn 175 [] [.ptrL 1 0 g1, .ptrL 0 0 g0]] H fun r H' => match addAll acc ps with
      | none => r = Bo true ∧ ∃ acc', PH g0 g1 acc' H'
      | some acc' => r = Bo false ∧ PH g0 g1 acc' H' := by
  refine B.con _ _ _ _ ?_
  unfold F.slices_ContainsFunc_Lexpr_Expr_expr_Expr
  refine ⟨⟨_, ixAdd_spec B hn hp hH, ?_⟩⟩
  intro r H' hr
  cases ha : addAll acc ps with
  | none =>
    rw [ha] at hr
    obtain ⟨⟨i, rfl⟩, hH2⟩ := hr
    simp only [nd0, Y1n, Y1o, Y1p, Y1q, Y1w, Y1x, Y1y, Y1z, Y20, Y21, Y28, Y2a, AV.cells?, Nat.reduceAdd, Nat.reduceMul, decide_eq_true (show (0 : Int) ≤ (i : Int) by omega)]
    exact ⟨trivial, hH2⟩
  | some acc2 =>
    rw [ha] at hr
    obtain ⟨rfl, hH2⟩ := hr
    simp only [nd0, Y1n, Y1o, Y1p, Y1q, Y1w, Y1x, Y1y, Y1z, Y20, Y21, Y28, Y2a, AV.cells?, Nat.reduceAdd, Nat.reduceMul, show decide ((0 : Int) ≤ -1) = false from rfl]
    exact ⟨trivial, hH2⟩
/-- what 'parts' answers -/
def partsA (o : Option (List Ex)) : AV := match o with
  | none => .tup [nilS, Bo true]
  | some l => .tup [.slN (Ex.encL l) l.length, Bo false]
theorem partsA_closed (o : Option (List Ex)) : (partsA o).closed := by
  cases o with
  | none => exact ⟨trivial, trivial, trivial⟩
  | some l => exact ⟨Ex.encL_closed l, trivial, trivial⟩
set_option maxHeartbeats 2000000 in
theorem parts_spec (B : TidyBodies E P) (mode : Bool) (l : List Ex) (hl : ∀ x ∈ l, FX E P 170 [x.enc] x.tidy.enc) (hw : Ex.wtL l + 3 * l.length ≤ 900000) (hf : Ex.fineL l) :
    FX E P 173 [.slN (Ex.encL l) l.length, Bo mode] (partsA (Ex.tidyL mode l [])) := by
  refine FX.of ⟨Ex.encL_closed l, trivial, trivial⟩ (partsA_closed _) fun n R hR => B.parts _ _ _ _ ?_
  unfold F.expr_parts
  refine wNew.L (l := [nilS]) rfl ?_
  refine wNew.L (l := [nilS]) rfl ?_
  simp only [nd0, Y1n, Y1o, Y1p, Y1q, Y1w, Y1x, Y1y, Y1z, Y20, Y21, Y28, Y2a, AV.cells?, Nat.reduceAdd, Nat.reduceMul]
  have hpw : ∀ x ∈ l, ∀ ps, pieces mode x.tidy = some ps → WtS (fun x => x.wt + 3) ps ≤ x.wt + 3 := fun x hx ps h => by
    have := pieces_wt h
    have := x.tidy_le
    omega
  have hlenS : ∀ m : List Ex, 3 * m.length ≤ WtS (fun x => x.wt + 3) m := fun m => by rw [wtL_S]; omega
  have hmemS : ∀ (m : List Ex) (y : Ex), y ∈ m → y.wt ≤ WtS (fun x => x.wt + 3) m := fun m y hy => by rw [wtL_S]; have := Ex.wt_mem hy; omega
  refine wLoop.one (fun m i H => ∃ pre rest acc, l = pre ++ rest ∧ i = Z pre.length ∧ m = rest.length ∧ PH n (n + 1) acc H ∧ WtS (fun x => x.wt + 3) acc ≤ WtS (fun x => x.wt + 3) pre ∧ Ex.tidyL mode l [] = Ex.tidyL mode rest acc) l.length
    (gh1.of (ghost_room [.dead, .dead] (by simp)) ⟨[], l, [], rfl, rfl, rfl, ⟨nilS, nilS, .dead, .dead, _, rfl, .nil, .nil⟩, by simp [WtS], rfl⟩) ?_
  rintro m i H ⟨pre, rest, acc, hpr, rfl, rfl, hH, hwa, he⟩
  have hwl : WtS (fun x => x.wt + 3) l ≤ 900000 := by rw [wtL_S]; exact hw
  cases rest with
  | nil =>
    rw [List.append_nil] at hpr
    subst hpr
    simp only [nd0, Y1n, Y1o, Y1p, Y1q, Y1w, Y1x, Y1y, Y1z, Y20, Y21, Y28, Y2a, AV.cells?, Nat.reduceAdd, Nat.reduceMul, Int.lt_irrefl]
    obtain ⟨x0, x1, z0, z1, c, rfl, hg0, hg1⟩ := hH
    simp only [Ex.tidyL] at he
    simp only [nd0, Y1n, Y1o, Y1p, Y1q, Y1w, Y1x, Y1y, Y1z, Y20, Y21, Y28, Y2a, AV.cells?, Nat.reduceAdd, Nat.reduceMul]
    refine hR _ _ ?_
    rw [he]
    exact .tup (.cons (.sub hg0.sub) (FkL.same _))
  | cons x rest =>
    have hxm : x ∈ l := by rw [hpr]; simp
    have hlt : pre.length < l.length := by rw [hpr]; simp
    have hfx := Ex.tidy_fine (Ex.fine_mem hf hxm)
    simp only [nd0, Y1n, Y1o, Y1p, Y1q, Y1w, Y1x, Y1y, Y1z, Y20, Y21, Y28, Y2a, AV.cells?, Nat.reduceAdd, Nat.reduceMul, decide_eq_true (show (pre.length : Int) < (l.length : Int) by omega)]
    rw [iaddr_Nn hlt]
    simp only [nd0, Y1n, Y1o, Y1p, Y1q, Y1w, Y1x, Y1y, Y1z, Y20, Y21, Y28, Y2a, AV.cells?, Nat.reduceAdd, Nat.reduceMul, show (Ex.encL l)[pre.length]? = some x.enc by rw [Ex.encL_map, hpr]; simp]
    have hsum : WtS (fun x => x.wt + 3) pre + (x.wt + 3) ≤ 900000 := by
      have : WtS (fun x => x.wt + 3) l = WtS (fun x => x.wt + 3) pre + ((x.wt + 3) + WtS (fun x => x.wt + 3) rest) := by rw [hpr, WtS_append]; rfl
      omega
    simp only [Ex.tidyL] at he
    refine wJoin.one (fun t H => PH n (n + 1) acc H ∧ ∃ ps, pieces mode x.tidy = some ps ∧ t = .slN (Ex.encL ps) ps.length) ?_ ?_
    case refine_2 =>
      rintro t H ⟨hH, ps, hps, rfl⟩
      rw [hps] at he
      simp only at he
      have hps1 := hpw x hxm ps hps
      have h3 := hlenS acc
      have h4 := hlenS ps
      refine ⟨⟨_, conAdd_spec B (by omega) (fun y hy => ⟨by have := hmemS ps y hy; omega, pieces_fine hps hfx y hy⟩) hH, ?_⟩⟩
      intro r H' hr
      cases ha : addAll acc ps with
      | none =>
        rw [ha] at hr he
        simp only at he
        obtain ⟨rfl, acc', hH'⟩ := hr
        simp only [nd0, Y1n, Y1o, Y1p, Y1q, Y1w, Y1x, Y1y, Y1z, Y20, Y21, Y28, Y2a, AV.cells?, Nat.reduceAdd, Nat.reduceMul]
        refine hR _ _ ?_
        rw [he]
        exact .same _
      | some acc' =>
        rw [ha] at hr he
        simp only at he
        obtain ⟨rfl, hH'⟩ := hr
        simp only [nd0, Y1n, Y1o, Y1p, Y1q, Y1w, Y1x, Y1y, Y1z, Y20, Y21, Y28, Y2a, AV.cells?, Nat.reduceAdd, Nat.reduceMul]
        rw [binA_succ (by omega)]
        simp only [nd0, Y1n, Y1o, Y1p, Y1q, Y1w, Y1x, Y1y, Y1z, Y20, Y21, Y28, Y2a, AV.cells?, Nat.reduceAdd, Nat.reduceMul]
        refine back1.mk rest.length (by simp) ⟨pre ++ [x], rest, acc', by rw [hpr]; simp, by simp, rfl, hH', ?_, he⟩
        have := addAll_wt (fun x => x.wt + 3) ha
        rw [WtS_append]
        simp only [WtS]
        omega
    · obtain ⟨x0, x1, z0, z1, c, rfl, hg0, hg1⟩ := hH
      refine wCall.fx (hl x hxm) fun n2 => ?_
      have hPH : ∀ n2, PH n (n + 1) acc ⟨[.cells n 1 [x0], .cells (n + 1) 1 [x1], z0, z1], n2⟩ := fun n2 => ⟨x0, x1, z0, z1, n2, rfl, hg0, hg1⟩
      cases ht : x.tidy with
      | k b =>
        rw [ht] at he
        simp only [Ex.enc]
        simp only [nd0, Y1n, Y1o, Y1p, Y1q, Y1w, Y1x, Y1y, Y1z, Y20, Y21, Y28, Y2a, AV.cells?, Nat.reduceAdd, Nat.reduceMul, asA, show (11 : Nat) = 11 ↔ True by decide]
        simp only [pieces] at he
        by_cases hb : b = mode
        · subst hb
          simp only [nd0, Y1n, Y1o, Y1p, Y1q, Y1w, Y1x, Y1y, Y1z, Y20, Y21, Y28, Y2a, AV.cells?, Nat.reduceAdd, Nat.reduceMul, eqA_bool, beq_self_eq_true]
          exact gh1.of (ghost_sub (.one .nil)) ⟨hPH n2, [], by simp [pieces], rfl⟩
        · rw [if_neg hb] at he
          simp only [nd0, Y1n, Y1o, Y1p, Y1q, Y1w, Y1x, Y1y, Y1z, Y20, Y21, Y28, Y2a, AV.cells?, Nat.reduceAdd, Nat.reduceMul, eqA_bool, show (b == mode) = false by simpa using hb]
          refine hR _ _ ?_
          rw [he]
          exact .same _
      | and l' =>
        simp only [Ex.enc]
        simp only [nd0, Y1n, Y1o, Y1p, Y1q, Y1w, Y1x, Y1y, Y1z, Y20, Y21, Y28, Y2a, AV.cells?, Nat.reduceAdd, Nat.reduceMul, asA, show (9 : Nat) = 11 ↔ False by decide, show (9 : Nat) = 9 ↔ True by decide]
        refine wNewS.F' (l := [(Ex.and l').enc]) rfl rfl ?_
        cases mode with
        | true => simp only [nd0, Y1n, Y1o, Y1p, Y1q, Y1w, Y1x, Y1y, Y1z, Y20, Y21, Y28, Y2a, AV.cells?, Nat.reduceAdd, Nat.reduceMul]; exact gh1.mk ⟨hPH n2, l', rfl, rfl⟩
        | false => simp only [nd0, Y1n, Y1o, Y1p, Y1q, Y1w, Y1x, Y1y, Y1z, Y20, Y21, Y28, Y2a, AV.cells?, Nat.reduceAdd, Nat.reduceMul]; exact gh1.mk ⟨hPH n2, [.and l'], rfl, rfl⟩
      | or l' =>
        simp only [Ex.enc]
        simp only [nd0, Y1n, Y1o, Y1p, Y1q, Y1w, Y1x, Y1y, Y1z, Y20, Y21, Y28, Y2a, AV.cells?, Nat.reduceAdd, Nat.reduceMul, asA, show (8 : Nat) = 11 ↔ False by decide, show (8 : Nat) = 9 ↔ False by decide, show (8 : Nat) = 8 ↔ True by decide]
        refine wNewS.F' (l := [(Ex.or l').enc]) rfl rfl ?_
        cases mode with
        | true => simp only [nd0, Y1n, Y1o, Y1p, Y1q, Y1w, Y1x, Y1y, Y1z, Y20, Y21, Y28, Y2a, AV.cells?, Nat.reduceAdd, Nat.reduceMul]; exact gh1.mk ⟨hPH n2, [.or l'], rfl, rfl⟩
        | false => simp only [nd0, Y1n, Y1o, Y1p, Y1q, Y1w, Y1x, Y1y, Y1z, Y20, Y21, Y28, Y2a, AV.cells?, Nat.reduceAdd, Nat.reduceMul]; exact gh1.mk ⟨hPH n2, l', rfl, rfl⟩
      | not y =>
        simp only [Ex.enc]
        simp only [nd0, Y1n, Y1o, Y1p, Y1q, Y1w, Y1x, Y1y, Y1z, Y20, Y21, Y28, Y2a, AV.cells?, Nat.reduceAdd, Nat.reduceMul, asA, show (10 : Nat) = 11 ↔ False by decide, show (10 : Nat) = 9 ↔ False by decide, show (10 : Nat) = 8 ↔ False by decide]
        refine wNewS.F' (l := [(Ex.not y).enc]) rfl rfl ?_
        exact gh1.mk ⟨hPH n2, [.not y], rfl, rfl⟩
      | bit y =>
        simp only [Ex.enc]
        simp only [nd0, Y1n, Y1o, Y1p, Y1q, Y1w, Y1x, Y1y, Y1z, Y20, Y21, Y28, Y2a, AV.cells?, Nat.reduceAdd, Nat.reduceMul, asA, show (14 : Nat) = 11 ↔ False by decide, show (14 : Nat) = 9 ↔ False by decide, show (14 : Nat) = 8 ↔ False by decide]
        refine wNewS.F' (l := [(Ex.bit y).enc]) rfl rfl ?_
        exact gh1.mk ⟨hPH n2, [.bit y], rfl, rfl⟩
      | rise y =>
        simp only [Ex.enc]
        simp only [nd0, Y1n, Y1o, Y1p, Y1q, Y1w, Y1x, Y1y, Y1z, Y20, Y21, Y28, Y2a, AV.cells?, Nat.reduceAdd, Nat.reduceMul, asA, show (12 : Nat) = 11 ↔ False by decide, show (12 : Nat) = 9 ↔ False by decide, show (12 : Nat) = 8 ↔ False by decide]
        refine wNewS.F' (l := [(Ex.rise y).enc]) rfl rfl ?_
        exact gh1.mk ⟨hPH n2, [.rise y], rfl, rfl⟩
      | fall y =>
        simp only [Ex.enc]
        simp only [nd0, Y1n, Y1o, Y1p, Y1q, Y1w, Y1x, Y1y, Y1z, Y20, Y21, Y28, Y2a, AV.cells?, Nat.reduceAdd, Nat.reduceMul, asA, show (13 : Nat) = 11 ↔ False by decide, show (13 : Nat) = 9 ↔ False by decide, show (13 : Nat) = 8 ↔ False by decide]
        refine wNewS.F' (l := [(Ex.fall y).enc]) rfl rfl ?_
        exact gh1.mk ⟨hPH n2, [.fall y], rfl, rfl⟩
set_option maxHeartbeats 2000000 in
theorem Tidy_spec (B : TidyBodies E P) : ∀ (n : Nat) (x : Ex), x.wt < n → x.wt ≤ 900000 → x.fine → FX E P 170 [x.enc] x.tidy.enc := by
  intro n
  induction n with
  | zero => intro x h; omega
  | succ n ih =>
    intro x hx hw hf
    refine FX.of' ⟨Ex.enc_closed x, trivial⟩ (Ex.enc_closed _) fun c R hR => B.tidy _ _ _ ?_
    unfold F.expr_Tidy
    have i0 : ∀ (y : AV), iaddr 1 (.slN [y] 1) (.val (.int .i64 0)) = some (.ptrF [y] 0) := fun _ => rfl
    cases x with
    | k b => simp only [Ex.enc]; simp only [nd0, Y1n, Y1o, Y1p, Y1q, Y1w, Y1x, Y1y, Y1z, Y20, Y21, Y28, Y2a, AV.cells?, Nat.reduceAdd, Nat.reduceMul, asA, show (11 : Nat) = 10 ↔ False by decide, show (11 : Nat) = 9 ↔ False by decide, show (11 : Nat) = 8 ↔ False by decide]; exact hR _ _ rfl
    | bit b => simp only [Ex.enc]; simp only [nd0, Y1n, Y1o, Y1p, Y1q, Y1w, Y1x, Y1y, Y1z, Y20, Y21, Y28, Y2a, AV.cells?, Nat.reduceAdd, Nat.reduceMul, asA, show (14 : Nat) = 10 ↔ False by decide, show (14 : Nat) = 9 ↔ False by decide, show (14 : Nat) = 8 ↔ False by decide]; exact hR _ _ rfl
    | rise b => simp only [Ex.enc]; simp only [nd0, Y1n, Y1o, Y1p, Y1q, Y1w, Y1x, Y1y, Y1z, Y20, Y21, Y28, Y2a, AV.cells?, Nat.reduceAdd, Nat.reduceMul, asA, show (12 : Nat) = 10 ↔ False by decide, show (12 : Nat) = 9 ↔ False by decide, show (12 : Nat) = 8 ↔ False by decide]; exact hR _ _ rfl
    | fall b => simp only [Ex.enc]; simp only [nd0, Y1n, Y1o, Y1p, Y1q, Y1w, Y1x, Y1y, Y1z, Y20, Y21, Y28, Y2a, AV.cells?, Nat.reduceAdd, Nat.reduceMul, asA, show (13 : Nat) = 10 ↔ False by decide, show (13 : Nat) = 9 ↔ False by decide, show (13 : Nat) = 8 ↔ False by decide]; exact hR _ _ rfl
    | not y =>
      simp only [Ex.wt] at hx hw
      simp only [Ex.enc]
      simp only [nd0, Y1n, Y1o, Y1p, Y1q, Y1w, Y1x, Y1y, Y1z, Y20, Y21, Y28, Y2a, AV.cells?, Nat.reduceAdd, Nat.reduceMul, asA, show (10 : Nat) = 10 ↔ True by decide]
      refine wNew.L (l := [nilE]) rfl ?_
      simp only [nd0, Y1n, Y1o, Y1p, Y1q, Y1w, Y1x, Y1y, Y1z, Y20, Y21, Y28, Y2a, AV.cells?, Nat.reduceAdd, Nat.reduceMul]
      rw [storeN_L (n := 1) (xs := [y.enc]) rfl (by simp [Ex.enc_scalar])]
      simp only [nd0, Y1n, Y1o, Y1p, Y1q, Y1w, Y1x, Y1y, Y1z, Y20, Y21, Y28, Y2a, AV.cells?, Nat.reduceAdd, Nat.reduceMul, show putL [nilE] 0 [y.enc] = some [y.enc] from rfl]
      refine wCall.fx (ih y (by omega) (by omega) hf) fun n2 => ?_
      simp only [Ex.tidy] at hR
      cases ht : y.tidy with
      | k b =>
        rw [ht] at hR
        simp only [Ex.enc]
        simp only [nd0, Y1n, Y1o, Y1p, Y1q, Y1w, Y1x, Y1y, Y1z, Y20, Y21, Y28, Y2a, AV.cells?, Nat.reduceAdd, Nat.reduceMul, asA, show (11 : Nat) = 11 ↔ True by decide]
        exact hR _ _ rfl
      | not w =>
        rw [ht] at hR
        simp only [Ex.enc]
        simp only [nd0, Y1n, Y1o, Y1p, Y1q, Y1w, Y1x, Y1y, Y1z, Y20, Y21, Y28, Y2a, AV.cells?, Nat.reduceAdd, Nat.reduceMul, asA, show (10 : Nat) = 11 ↔ False by decide, show (10 : Nat) = 10 ↔ True by decide]
        refine wNew.L (l := [nilE]) rfl ?_
        simp only [nd0, Y1n, Y1o, Y1p, Y1q, Y1w, Y1x, Y1y, Y1z, Y20, Y21, Y28, Y2a, AV.cells?, Nat.reduceAdd, Nat.reduceMul]
        rw [storeN_L (n := 1) (xs := [w.enc]) rfl (by simp [Ex.enc_scalar])]
        simp only [nd0, Y1n, Y1o, Y1p, Y1q, Y1w, Y1x, Y1y, Y1z, Y20, Y21, Y28, Y2a, AV.cells?, Nat.reduceAdd, Nat.reduceMul, show putL [nilE] 0 [w.enc] = some [w.enc] from rfl]
        exact hR _ _ rfl
      | bit w =>
        rw [ht] at hR
        simp only [Ex.enc]
        simp only [nd0, Y1n, Y1o, Y1p, Y1q, Y1w, Y1x, Y1y, Y1z, Y20, Y21, Y28, Y2a, AV.cells?, Nat.reduceAdd, Nat.reduceMul, asA, show (14 : Nat) = 11 ↔ False by decide, show (14 : Nat) = 10 ↔ False by decide, show fillA [nilE] [(0, 1, .ifc 14 (S w))] = some [.ifc 14 (S w)] from rfl]
        exact hR _ _ rfl
      | rise w =>
        rw [ht] at hR
        simp only [Ex.enc]
        simp only [nd0, Y1n, Y1o, Y1p, Y1q, Y1w, Y1x, Y1y, Y1z, Y20, Y21, Y28, Y2a, AV.cells?, Nat.reduceAdd, Nat.reduceMul, asA, show (12 : Nat) = 11 ↔ False by decide, show (12 : Nat) = 10 ↔ False by decide, show fillA [nilE] [(0, 1, .ifc 12 (S w))] = some [.ifc 12 (S w)] from rfl]
        exact hR _ _ rfl
      | fall w =>
        rw [ht] at hR
        simp only [Ex.enc]
        simp only [nd0, Y1n, Y1o, Y1p, Y1q, Y1w, Y1x, Y1y, Y1z, Y20, Y21, Y28, Y2a, AV.cells?, Nat.reduceAdd, Nat.reduceMul, asA, show (13 : Nat) = 11 ↔ False by decide, show (13 : Nat) = 10 ↔ False by decide, show fillA [nilE] [(0, 1, .ifc 13 (S w))] = some [.ifc 13 (S w)] from rfl]
        exact hR _ _ rfl
      | and l =>
        rw [ht] at hR
        simp only [Ex.enc]
        simp only [nd0, Y1n, Y1o, Y1p, Y1q, Y1w, Y1x, Y1y, Y1z, Y20, Y21, Y28, Y2a, AV.cells?, Nat.reduceAdd, Nat.reduceMul, asA, show (9 : Nat) = 11 ↔ False by decide, show (9 : Nat) = 10 ↔ False by decide, show fillA [nilE] [(0, 1, .ifc 9 (.slN (Ex.encL l) l.length))] = some [.ifc 9 (.slN (Ex.encL l) l.length)] from rfl]
        exact hR _ _ rfl
      | or l =>
        rw [ht] at hR
        simp only [Ex.enc]
        simp only [nd0, Y1n, Y1o, Y1p, Y1q, Y1w, Y1x, Y1y, Y1z, Y20, Y21, Y28, Y2a, AV.cells?, Nat.reduceAdd, Nat.reduceMul, asA, show (8 : Nat) = 11 ↔ False by decide, show (8 : Nat) = 10 ↔ False by decide, show fillA [nilE] [(0, 1, .ifc 8 (.slN (Ex.encL l) l.length))] = some [.ifc 8 (.slN (Ex.encL l) l.length)] from rfl]
        exact hR _ _ rfl
    | and l =>
      simp only [Ex.wt] at hx hw
      simp only [Ex.enc]
      simp only [nd0, Y1n, Y1o, Y1p, Y1q, Y1w, Y1x, Y1y, Y1z, Y20, Y21, Y28, Y2a, AV.cells?, Nat.reduceAdd, Nat.reduceMul, asA, show (9 : Nat) = 10 ↔ False by decide, show (9 : Nat) = 9 ↔ True by decide]
      refine wCall.fx (parts_spec B true l (fun y hy => ih y (by have := Ex.wt_mem hy; omega) (by have := Ex.wt_mem hy; omega) (Ex.fine_mem hf.2 hy)) (by omega) hf.2) fun n2 => ?_
      simp only [Ex.tidy] at hR
      cases ho : Ex.tidyL true l [] with
      | none => rw [ho] at hR; simp only [partsA]; simp only [nd0, Y1n, Y1o, Y1p, Y1q, Y1w, Y1x, Y1y, Y1z, Y20, Y21, Y28, Y2a, AV.cells?, Nat.reduceAdd, Nat.reduceMul]; exact hR _ _ rfl
      | some l' =>
        rw [ho] at hR
        simp only [partsA]
        simp only [nd0, Y1n, Y1o, Y1p, Y1q, Y1w, Y1x, Y1y, Y1z, Y20, Y21, Y28, Y2a, AV.cells?, Nat.reduceAdd, Nat.reduceMul]
        match l', hR with
        | [], hR => simp only [nd0, Y1n, Y1o, Y1p, Y1q, Y1w, Y1x, Y1y, Y1z, Y20, Y21, Y28, Y2a, AV.cells?, Nat.reduceAdd, Nat.reduceMul, show decide (((0 : Nat) : Int) = 0) = true from rfl]; exact hR _ _ rfl
        | [y], hR =>
          simp only [nd0, Y1n, Y1o, Y1p, Y1q, Y1w, Y1x, Y1y, Y1z, Y20, Y21, Y28, Y2a, AV.cells?, Nat.reduceAdd, Nat.reduceMul, i0, Ex.encL, show decide (((1 : Nat) : Int) = 0) = false from rfl, show decide (((1 : Nat) : Int) = 1) = true from rfl]
          exact hR _ _ rfl
        | y :: z :: r, hR =>
          simp only [nd0, Y1n, Y1o, Y1p, Y1q, Y1w, Y1x, Y1y, Y1z, Y20, Y21, Y28, Y2a, AV.cells?, Nat.reduceAdd, Nat.reduceMul, decide_eq_false (show ¬ ((((y :: z :: r) : List Ex).length : Int) = 0) by simp; omega), decide_eq_false (show ¬ ((((y :: z :: r) : List Ex).length : Int) = 1) by simp; omega), decide_eq_false (show ¬ (((r.length + 1 + 1 : Nat) : Int) = 0) by omega), decide_eq_false (show ¬ (((r.length + 1 + 1 : Nat) : Int) = 1) by omega)]
          exact hR _ _ rfl
    | or l =>
      simp only [Ex.wt] at hx hw
      simp only [Ex.enc]
      simp only [nd0, Y1n, Y1o, Y1p, Y1q, Y1w, Y1x, Y1y, Y1z, Y20, Y21, Y28, Y2a, AV.cells?, Nat.reduceAdd, Nat.reduceMul, asA, show (8 : Nat) = 10 ↔ False by decide, show (8 : Nat) = 9 ↔ False by decide, show (8 : Nat) = 8 ↔ True by decide]
      refine wCall.fx (parts_spec B false l (fun y hy => ih y (by have := Ex.wt_mem hy; omega) (by have := Ex.wt_mem hy; omega) (Ex.fine_mem hf.2 hy)) (by omega) hf.2) fun n2 => ?_
      simp only [Ex.tidy] at hR
      cases ho : Ex.tidyL false l [] with
      | none => rw [ho] at hR; simp only [partsA]; simp only [nd0, Y1n, Y1o, Y1p, Y1q, Y1w, Y1x, Y1y, Y1z, Y20, Y21, Y28, Y2a, AV.cells?, Nat.reduceAdd, Nat.reduceMul]; exact hR _ _ rfl
      | some l' =>
        rw [ho] at hR
        simp only [partsA]
        simp only [nd0, Y1n, Y1o, Y1p, Y1q, Y1w, Y1x, Y1y, Y1z, Y20, Y21, Y28, Y2a, AV.cells?, Nat.reduceAdd, Nat.reduceMul]
        match l', hR with
        | [], hR => simp only [nd0, Y1n, Y1o, Y1p, Y1q, Y1w, Y1x, Y1y, Y1z, Y20, Y21, Y28, Y2a, AV.cells?, Nat.reduceAdd, Nat.reduceMul, show decide (((0 : Nat) : Int) = 0) = true from rfl]; exact hR _ _ rfl
        | [y], hR =>
          simp only [nd0, Y1n, Y1o, Y1p, Y1q, Y1w, Y1x, Y1y, Y1z, Y20, Y21, Y28, Y2a, AV.cells?, Nat.reduceAdd, Nat.reduceMul, i0, Ex.encL, show decide (((1 : Nat) : Int) = 0) = false from rfl, show decide (((1 : Nat) : Int) = 1) = true from rfl]
          exact hR _ _ rfl
        | y :: z :: r, hR =>
          simp only [nd0, Y1n, Y1o, Y1p, Y1q, Y1w, Y1x, Y1y, Y1z, Y20, Y21, Y28, Y2a, AV.cells?, Nat.reduceAdd, Nat.reduceMul, decide_eq_false (show ¬ (((r.length + 1 + 1 : Nat) : Int) = 0) by omega), decide_eq_false (show ¬ (((r.length + 1 + 1 : Nat) : Int) = 1) by omega)]
          exact hR _ _ rfl
end
end Go.Sc
