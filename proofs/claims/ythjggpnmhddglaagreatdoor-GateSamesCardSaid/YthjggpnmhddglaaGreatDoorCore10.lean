/- PLAIN LAW: TSEITIN: an expression as clauses: what they say, and that what is told of names determines all. THE LAW ExprBack, out of the contracts. THE LAW ExprHangs, out of the contracts. PLAIN LAWS OF TABLES, MORE: states of one block tell the same; the table of blocks tells what its states do; the inputs that are told part states at the last one alone. CONTRACTS: package block: Check, number, rounds, Blocks. CONTRACTS: package block: Blocks, Tell; and the keep's helpers. CONTRACTS: package block: Least. CONTRACTS: package block: Part. CONTRACTS: the reference's tables: TableCheck (under way). THE LAW ExprParses, out of the contracts. CONTRACTS: package expr: an expression is made tidy. THE LAW ExprTidies, out of the contracts. CONTRACTS: package cover: pairs of values that show a name. CONTRACTS: package gate: the solver. CONTRACTS: package gate: search, Check, Solve; the reference's GateCheck. CONTRACTS: bare. (of the seat YthjggpnmhddglaaGreatDoor) -/
import Derived.Test.YthjggpnmhddglaaGreatDoorCore9
namespace Go.Sc
open Go
set_option linter.unusedSimpArgs false
set_option linter.unusedVariables false
/-- variables so far, and clauses -/
structure Bd where
  vars : Nat
  cl : List (List Int)
theorem two_mem {P : Int → Prop} {a b : Int} (h1 : P a) (h2 : P b) : ∀ y ∈ [a, b], P y := fun y hy => by
  simp at hy
  rcases hy with rfl | rfl
  · exact h1
  · exact h2
def negL (l : List Int) : List Int := l.map fun x => -x
def andP (l : List Int) (b : Bd) : Int × Bd :=
  (((b.vars + 1 : Nat) : Int), ⟨b.vars + 1, b.cl ++ (l.map fun x => [-((b.vars + 1 : Nat) : Int), x]) ++ [((b.vars + 1 : Nat) : Int) :: negL l]⟩)
def constP (c : Bool) (b : Bd) : Int × Bd := (((b.vars + 1 : Nat) : Int), ⟨b.vars + 1, b.cl ++ [[if c then ((b.vars + 1 : Nat) : Int) else -((b.vars + 1 : Nat) : Int)]]⟩)
mutual
def litP (nm : Str → Int) : Ex → Bd → Int × Bd
  | .bit s, b => (nm s, b)
  | .rise s, b => andP [nm s, -nm (94 :: s)] b
  | .fall s, b => andP [-nm s, nm (94 :: s)] b
  | .not x, b => (-(litP nm x b).1, (litP nm x b).2)
  | .and l, b => andP (litsP nm l b).1 (litsP nm l b).2
  | .or l, b => (-(andP (negL (litsP nm l b).1) (litsP nm l b).2).1, (andP (negL (litsP nm l b).1) (litsP nm l b).2).2)
  | .k c, b => constP c b
def litsP (nm : Str → Int) : List Ex → Bd → List Int × Bd
  | [], b => ([], b)
  | x :: l, b => ((litP nm x b).1 :: (litsP nm l (litP nm x b).2).1, (litsP nm l (litP nm x b).2).2)
end
theorem negL_len (l : List Int) : (negL l).length = l.length := by simp [negL]
theorem litsP_app (nm : Str → Int) : ∀ (l m : List Ex) (b : Bd), litsP nm (l ++ m) b = ((litsP nm l b).1 ++ (litsP nm m (litsP nm l b).2).1, (litsP nm m (litsP nm l b).2).2)
  | [], m, b => by simp [litsP]
  | x :: l, m, b => by simp only [List.cons_append, litsP, litsP_app nm l m, List.cons_append]
theorem litsP_len (nm : Str → Int) : ∀ (l : List Ex) (b : Bd), (litsP nm l b).1.length = l.length
  | [], b => rfl
  | x :: l, b => by simp only [litsP, List.length_cons, litsP_len nm l]
/-! ### how many -/
theorem andP_vars (l : List Int) (b : Bd) : (andP l b).2.vars = b.vars + 1 := rfl
theorem andP_cl (l : List Int) (b : Bd) : (andP l b).2.cl.length = b.cl.length + l.length + 1 := by simp [andP, negL]; omega
mutual
theorem litP_vars (nm : Str → Int) : ∀ (x : Ex) (b : Bd), b.vars ≤ (litP nm x b).2.vars ∧ (litP nm x b).2.vars ≤ b.vars + x.size
  | .bit s, b => by simp [litP, Ex.size]
  | .rise s, b => by simp [litP, andP, Ex.size]
  | .fall s, b => by simp [litP, andP, Ex.size]
  | .k c, b => by simp [litP, constP, Ex.size]
  | .not x, b => by have := litP_vars nm x b; simp only [litP, Ex.size]; omega
  | .and l, b => by have := litsP_vars nm l b; simp only [litP, Ex.size, andP_vars]; omega
  | .or l, b => by have := litsP_vars nm l b; simp only [litP, Ex.size, andP_vars]; omega
theorem litsP_vars (nm : Str → Int) : ∀ (l : List Ex) (b : Bd), b.vars ≤ (litsP nm l b).2.vars ∧ (litsP nm l b).2.vars ≤ b.vars + Ex.sizeL l
  | [], b => by simp [litsP, Ex.sizeL]
  | x :: l, b => by have h1 := litP_vars nm x b; have h2 := litsP_vars nm l (litP nm x b).2; simp only [litsP, Ex.sizeL]; omega
end
mutual
theorem litP_cl (nm : Str → Int) : ∀ (x : Ex) (b : Bd), b.cl.length ≤ (litP nm x b).2.cl.length ∧ (litP nm x b).2.cl.length + 1 ≤ b.cl.length + 4 * x.size
  | .bit s, b => by simp [litP, Ex.size]
  | .rise s, b => by simp [litP, andP, Ex.size]
  | .fall s, b => by simp [litP, andP, Ex.size]
  | .k c, b => by simp [litP, constP, Ex.size]
  | .not x, b => by have := litP_cl nm x b; simp only [litP, Ex.size]; omega
  | .and l, b => by have := litsP_cl nm l b; have h2 := litsP_len nm l b; simp only [litP, Ex.size, andP_cl]; omega
  | .or l, b => by have := litsP_cl nm l b; have h2 := litsP_len nm l b; simp only [litP, Ex.size, andP_cl, negL_len]; omega
theorem litsP_cl (nm : Str → Int) : ∀ (l : List Ex) (b : Bd), b.cl.length ≤ (litsP nm l b).2.cl.length ∧ (litsP nm l b).2.cl.length + l.length ≤ b.cl.length + 4 * Ex.sizeL l
  | [], b => by simp [litsP]
  | x :: l, b => by
    have h1 := litP_cl nm x b
    have h2 := litsP_cl nm l (litP nm x b).2
    simp only [litsP, Ex.sizeL, List.length_cons]
    omega
end
/-! ### literals are of variables that are there -/
def okB (V : Nat) (c : List Int) : Prop := ∀ x ∈ c, okLit V x
theorem okLit_mono {V W : Nat} {x : Int} (h : okLit V x) (hv : V ≤ W) : okLit W x := by unfold okLit at *; omega
theorem okB_mono {V W : Nat} {c : List Int} (h : okB V c) (hv : V ≤ W) : okB W c := fun x hx => okLit_mono (h x hx) hv
theorem okLit_neg {V : Nat} {x : Int} (h : okLit V x) : okLit V (-x) := by unfold okLit at *; omega
theorem okB_neg {V : Nat} {c : List Int} (h : okB V c) : okB V (negL c) := fun x hx => by
  obtain ⟨y, hy, rfl⟩ := List.mem_map.1 hx
  exact okLit_neg (h y hy)
theorem okLit_new (V : Nat) : okLit (V + 1) ((V + 1 : Nat) : Int) := by unfold okLit; omega
theorem andP_ok {l : List Int} {b : Bd} (hl : okB b.vars l) (hb : ∀ c ∈ b.cl, okB b.vars c) : okLit (andP l b).2.vars (andP l b).1 ∧ ∀ c ∈ (andP l b).2.cl, okB (andP l b).2.vars c := by
  refine ⟨okLit_new _, fun c hc => ?_⟩
  simp only [andP, List.mem_append, List.mem_map, List.mem_singleton] at hc ⊢
  rcases hc with (hc | ⟨x, hx, rfl⟩) | rfl
  · exact okB_mono (hb c hc) (by omega)
  · intro y hy
    simp at hy
    rcases hy with rfl | rfl
    · exact okLit_neg (okLit_new _)
    · exact okLit_mono (hl _ hx) (by omega)
  · intro y hy
    rcases List.mem_cons.1 hy with rfl | hy
    · exact okLit_new _
    · exact okLit_mono (okB_neg hl y hy) (by omega)
theorem constP_ok {k : Bool} {b : Bd} (hb : ∀ c ∈ b.cl, okB b.vars c) : okLit (constP k b).2.vars (constP k b).1 ∧ ∀ c ∈ (constP k b).2.cl, okB (constP k b).2.vars c := by
  refine ⟨okLit_new _, fun c hc => ?_⟩
  simp only [constP, List.mem_append, List.mem_singleton] at hc ⊢
  rcases hc with hc | rfl
  · exact okB_mono (hb c hc) (by omega)
  · intro y hy
    simp at hy; subst hy
    cases k
    · exact okLit_neg (okLit_new _)
    · exact okLit_new _
def nmOk (nm : Str → Int) (V : Nat) (x : Ex) : Prop := x.on (fun s => okLit V (nm s)) (fun s => okLit V (nm (94 :: s)))
def nmOkL (nm : Str → Int) (V : Nat) (l : List Ex) : Prop := Ex.onL (fun s => okLit V (nm s)) (fun s => okLit V (nm (94 :: s))) l
mutual
theorem Ex.on_imp {Q Q' R R' : Str → Prop} (h : ∀ s, Q s → R s) (h' : ∀ s, Q' s → R' s) : ∀ x : Ex, x.on Q Q' → x.on R R'
  | .k _, _ => trivial
  | .bit s, w => h s w
  | .rise s, w => ⟨h s w.1, h' s w.2⟩
  | .fall s, w => ⟨h s w.1, h' s w.2⟩
  | .not x, w => Ex.on_imp h h' x w
  | .and l, w => Ex.onL_imp h h' l w
  | .or l, w => Ex.onL_imp h h' l w
theorem Ex.onL_imp {Q Q' R R' : Str → Prop} (h : ∀ s, Q s → R s) (h' : ∀ s, Q' s → R' s) : ∀ l : List Ex, Ex.onL Q Q' l → Ex.onL R R' l
  | [], _ => trivial
  | x :: l, w => ⟨Ex.on_imp h h' x w.1, Ex.onL_imp h h' l w.2⟩
end
theorem nmOk_mono {nm : Str → Int} {V W : Nat} {x : Ex} (h : nmOk nm V x) (hv : V ≤ W) : nmOk nm W x := Ex.on_imp (fun _ k => okLit_mono k hv) (fun _ k => okLit_mono k hv) x h
theorem nmOkL_mono {nm : Str → Int} {V W : Nat} {l : List Ex} (h : nmOkL nm V l) (hv : V ≤ W) : nmOkL nm W l := Ex.onL_imp (fun _ k => okLit_mono k hv) (fun _ k => okLit_mono k hv) l h
mutual
theorem litP_ok (nm : Str → Int) : ∀ (x : Ex) (b : Bd), nmOk nm b.vars x → (∀ c ∈ b.cl, okB b.vars c) → okLit (litP nm x b).2.vars (litP nm x b).1 ∧ ∀ c ∈ (litP nm x b).2.cl, okB (litP nm x b).2.vars c
  | .bit s, b, h, hb => ⟨h, hb⟩
  | .rise s, b, h, hb => andP_ok (two_mem h.1 (okLit_neg h.2)) hb
  | .fall s, b, h, hb => andP_ok (two_mem (okLit_neg h.1) h.2) hb
  | .k c, b, h, hb => constP_ok hb
  | .not x, b, h, hb => by
    obtain ⟨h1, h2⟩ := litP_ok nm x b h hb
    exact ⟨okLit_neg h1, h2⟩
  | .and l, b, h, hb => by
    obtain ⟨h1, h2⟩ := litsP_ok nm l b h hb
    exact andP_ok h1 h2
  | .or l, b, h, hb => by
    obtain ⟨h1, h2⟩ := litsP_ok nm l b h hb
    obtain ⟨k1, k2⟩ := andP_ok (okB_neg h1) h2
    exact ⟨okLit_neg k1, k2⟩
theorem litsP_ok (nm : Str → Int) : ∀ (l : List Ex) (b : Bd), nmOkL nm b.vars l → (∀ c ∈ b.cl, okB b.vars c) → okB (litsP nm l b).2.vars (litsP nm l b).1 ∧ ∀ c ∈ (litsP nm l b).2.cl, okB (litsP nm l b).2.vars c
  | [], b, h, hb => ⟨by intro x hx; simp [litsP] at hx, hb⟩
  | x :: l, b, h, hb => by
    obtain ⟨h1, h2⟩ := litP_ok nm x b h.1 hb
    have hv := litP_vars nm x b
    obtain ⟨k1, k2⟩ := litsP_ok nm l (litP nm x b).2 (nmOkL_mono h.2 hv.1) h2
    have hw := litsP_vars nm l (litP nm x b).2
    refine ⟨fun y hy => ?_, k2⟩
    simp only [litsP, List.mem_cons] at hy ⊢
    rcases hy with rfl | hy
    · exact okLit_mono h1 hw.1
    · exact k1 y hy
end
/-! ### what the clauses say -/
theorem lh_neg {a : Nat → Bool} {x : Int} (h : x ≠ 0) : lh a (-x) = !lh a x := by
  unfold lh
  by_cases h1 : x < 0
  · rw [if_pos h1, if_neg (by omega)]; simp
  · rw [if_neg h1, if_pos (by omega)]; simp
theorem lh_new {a : Nat → Bool} {v : Nat} : lh a (v : Int) = a v := by
  unfold lh
  rw [if_neg (by omega)]; simp
/-- the new clauses of 'and': a new variable that is true just if all literals are -/
theorem and_says {a : Nat → Bool} {v : Nat} {l : List Int} (hv : v ≠ 0) (hl : ∀ x ∈ l, x ≠ 0) : ((∀ x ∈ l, ∃ y ∈ [-(v : Int), x], lh a y = true) ∧ ∃ y ∈ (v : Int) :: negL l, lh a y = true) ↔ a v = l.all (lh a) := by
  have hvz : ((v : Int)) ≠ 0 := by omega
  have e1 : (∀ x ∈ l, ∃ y ∈ [-(v : Int), x], lh a y = true) ↔ (a v = true → ∀ x ∈ l, lh a x = true) := by
    constructor
    · intro h hav x hx
      obtain ⟨y, hy, hy2⟩ := h x hx
      simp at hy
      rcases hy with rfl | rfl
      · rw [lh_neg hvz, lh_new, hav] at hy2; cases hy2
      · exact hy2
    · intro h x hx
      cases hav : a v with
      | true => exact ⟨x, by simp, h hav x hx⟩
      | false => exact ⟨-(v : Int), by simp, by rw [lh_neg hvz, lh_new, hav]; rfl⟩
  have e2 : (∃ y ∈ (v : Int) :: negL l, lh a y = true) ↔ (a v = false → ∃ x ∈ l, lh a x = false) := by
    constructor
    · rintro ⟨y, hy, hy2⟩ hav
      rcases List.mem_cons.1 hy with rfl | hy
      · rw [lh_new, hav] at hy2; cases hy2
      · obtain ⟨x, hx, rfl⟩ := List.mem_map.1 hy
        rw [lh_neg (hl x hx)] at hy2
        exact ⟨x, hx, by simpa using hy2⟩
    · intro h
      cases hav : a v with
      | true => exact ⟨v, by simp, by rw [lh_new, hav]⟩
      | false =>
        obtain ⟨x, hx, hx2⟩ := h hav
        exact ⟨-x, List.mem_cons_of_mem _ (List.mem_map.2 ⟨x, hx, rfl⟩), by rw [lh_neg (hl x hx), hx2]; rfl⟩
  rw [e1, e2]
  cases hav : a v with
  | true =>
    simp only [forall_const, reduceCtorEq, false_imp_iff, and_true]
    rw [eq_comm, List.all_eq_true]
  | false =>
    simp only [reduceCtorEq, false_imp_iff, true_and, forall_const]
    rw [eq_comm, List.all_eq_false]
    constructor
    · rintro ⟨x, hx, hx2⟩; exact ⟨x, hx, by simp [hx2]⟩
    · rintro ⟨x, hx, hx2⟩; exact ⟨x, hx, by simpa using hx2⟩
theorem Sats_app {a : Nat → Bool} {l m : List (List Int)} : Sats a (l ++ m) ↔ Sats a l ∧ Sats a m := by
  unfold Sats
  simp only [List.mem_append]
  constructor
  · intro h; exact ⟨fun c hc => h c (.inl hc), fun c hc => h c (.inr hc)⟩
  · rintro ⟨h1, h2⟩ c (hc | hc)
    · exact h1 c hc
    · exact h2 c hc
theorem andP_sats {a : Nat → Bool} {l : List Int} {b : Bd} (hl : ∀ x ∈ l, x ≠ 0) : Sats a (andP l b).2.cl ↔ Sats a b.cl ∧ lh a (andP l b).1 = l.all (lh a) := by
  simp only [andP]
  rw [Sats_app, Sats_app, lh_new, ← and_says (v := b.vars + 1) (by omega) hl, and_assoc]
  refine and_congr Iff.rfl (and_congr ?_ ?_)
  · unfold Sats; simp
  · unfold Sats; simp
theorem constP_sats {a : Nat → Bool} {k : Bool} {b : Bd} : Sats a (constP k b).2.cl ↔ Sats a b.cl ∧ lh a (constP k b).1 = k := by
  simp only [constP]
  rw [Sats_app, lh_new]
  refine and_congr Iff.rfl ?_
  unfold Sats
  cases k
  · simp only [Bool.false_eq_true, if_false, List.mem_singleton, forall_eq, exists_eq_left]
    rw [lh_neg (by omega), lh_new]; simp
  · simp only [if_true, List.mem_singleton, forall_eq, exists_eq_left, lh_new]
theorem all_id {α : Type} (f : α → Bool) : ∀ l : List α, l.all f = (l.map f).all id
  | [] => rfl
  | x :: l => by simp only [List.all_cons, List.map_cons, id, all_id f l]
theorem any_id {α : Type} (f : α → Bool) : ∀ l : List α, l.any f = (l.map f).any id
  | [] => rfl
  | x :: l => by simp only [List.any_cons, List.map_cons, id, any_id f l]
theorem not_all_neg {a : Nat → Bool} : ∀ m : List Int, (∀ x ∈ m, x ≠ 0) → (!(negL m).all (lh a)) = m.any (lh a)
  | [], _ => rfl
  | y :: m, h => by
    have := not_all_neg (a := a) m (fun x hx => h x (by simp [hx]))
    simp only [negL, List.map_cons, List.all_cons, List.any_cons] at this ⊢
    rw [lh_neg (h y (by simp)), ← this]
    cases lh a y <;> simp
/-- the values tell of names what is so -/
def tells (nm : Str → Int) (a : Nat → Bool) (p q : Str → Bool) (x : Ex) : Prop := x.on (fun s => lh a (nm s) = p s) (fun s => lh a (nm (94 :: s)) = q s)
def tellsL (nm : Str → Int) (a : Nat → Bool) (p q : Str → Bool) (l : List Ex) : Prop := Ex.onL (fun s => lh a (nm s) = p s) (fun s => lh a (nm (94 :: s)) = q s) l
mutual
theorem litP_says (nm : Str → Int) {a : Nat → Bool} {p q : Str → Bool} : ∀ (x : Ex) (b : Bd), nmOk nm b.vars x → (∀ c ∈ b.cl, okB b.vars c) → tells nm a p q x → Sats a (litP nm x b).2.cl → Sats a b.cl ∧ lh a (litP nm x b).1 = x.says p q
  | .bit s, b, h, hb, ht, hs => ⟨hs, ht⟩
  | .rise s, b, h, hb, ht, hs => by
    have hz := h.2.1
    obtain ⟨h1, h2⟩ := (andP_sats (two_mem (P := fun x => x ≠ 0) h.1.1 (by have := h.2.1; omega))).1 hs
    refine ⟨h1, h2.trans ?_⟩
    simp [Ex.says, lh_neg hz, ht.1, ht.2]
  | .fall s, b, h, hb, ht, hs => by
    have hz := h.1.1
    obtain ⟨h1, h2⟩ := (andP_sats (two_mem (P := fun x => x ≠ 0) (by have := h.1.1; omega) h.2.1)).1 hs
    refine ⟨h1, h2.trans ?_⟩
    simp [Ex.says, lh_neg hz, ht.1, ht.2]
  | .k c, b, h, hb, ht, hs => constP_sats.1 hs
  | .not x, b, h, hb, ht, hs => by
    obtain ⟨h1, h2⟩ := litP_says nm x b h hb ht hs
    have hz := (litP_ok nm x b h hb).1.1
    exact ⟨h1, by simp only [litP, Ex.says]; rw [lh_neg hz, h2]⟩
  | .and l, b, h, hb, ht, hs => by
    obtain ⟨k1, k2⟩ := litsP_ok nm l b h hb
    obtain ⟨h1, h2⟩ := (andP_sats fun x hx => (k1 x hx).1).1 hs
    obtain ⟨h3, h4⟩ := litsP_says nm l b h hb ht h1
    refine ⟨h3, h2.trans ?_⟩
    rw [Ex.says, Ex.allL_eq, all_id, h4, ← all_id]
  | .or l, b, h, hb, ht, hs => by
    obtain ⟨k1, k2⟩ := litsP_ok nm l b h hb
    obtain ⟨h1, h2⟩ := (andP_sats fun x hx => (okB_neg k1 x hx).1).1 hs
    obtain ⟨h3, h4⟩ := litsP_says nm l b h hb ht h1
    refine ⟨h3, ?_⟩
    simp only [litP]
    rw [lh_neg (by simp only [andP]; omega), h2, not_all_neg _ (fun x hx => (k1 x hx).1), Ex.says, Ex.anyL_eq, any_id, h4, ← any_id]
theorem litsP_says (nm : Str → Int) {a : Nat → Bool} {p q : Str → Bool} : ∀ (l : List Ex) (b : Bd), nmOkL nm b.vars l → (∀ c ∈ b.cl, okB b.vars c) → tellsL nm a p q l → Sats a (litsP nm l b).2.cl → Sats a b.cl ∧ (litsP nm l b).1.map (lh a) = l.map fun x => x.says p q
  | [], b, h, hb, ht, hs => ⟨hs, rfl⟩
  | x :: l, b, h, hb, ht, hs => by
    obtain ⟨q1, q2⟩ := litP_ok nm x b h.1 hb
    have hv := litP_vars nm x b
    obtain ⟨h1, h2⟩ := litsP_says nm l (litP nm x b).2 (nmOkL_mono h.2 hv.1) q2 ht.2 hs
    obtain ⟨h3, h4⟩ := litP_says nm x b h.1 hb ht.1 h1
    exact ⟨h3, by simp only [litsP, List.map_cons, h2, h4]⟩
end
/-! ### values for what is new -/
theorem lh_congr {V : Nat} {a a' : Nat → Bool} {x : Int} (hx : okLit V x) (h : ∀ i, 1 ≤ i → i ≤ V → a i = a' i) : lh a x = lh a' x := by
  have hv := vr_lt hx
  unfold lh
  by_cases h1 : x < 0
  · rw [if_pos h1, if_pos h1, show (-x).toNat = vr x by unfold vr; omega, h _ hv.1 hv.2]
  · rw [if_neg h1, if_neg h1, show x.toNat = vr x by unfold vr; omega, h _ hv.1 hv.2]
def upd (a : Nat → Bool) (v : Nat) (t : Bool) : Nat → Bool := fun i => if i = v then t else a i
theorem upd_lt {a : Nat → Bool} {v : Nat} {t : Bool} {i : Nat} (h : i < v) : upd a v t i = a i := by unfold upd; rw [if_neg (by omega)]
theorem andP_ext {a : Nat → Bool} {l : List Int} {b : Bd} (hl : okB b.vars l) (hb : ∀ c ∈ b.cl, okB b.vars c) (hs : Sats a b.cl) : ∃ a', (∀ i ≤ b.vars, a' i = a i) ∧ Sats a' (andP l b).2.cl := by
  refine ⟨upd a (b.vars + 1) (l.all (lh a)), fun i hi => upd_lt (by omega), (andP_sats fun x hx => (hl x hx).1).2 ⟨?_, ?_⟩⟩
  · exact Sats.congr hb (fun i _ hi => (upd_lt (by omega)).symm) hs
  · rw [show (andP l b).1 = ((b.vars + 1 : Nat) : Int) from rfl, lh_new]
    unfold upd
    rw [if_pos rfl]
    rw [Bool.eq_iff_iff, List.all_eq_true, List.all_eq_true]
    exact forall_congr' fun x => forall_congr' fun hx => by rw [lh_congr (hl x hx) (a' := fun i => if i = b.vars + 1 then l.all (lh a) else a i) fun i _ hi => by rw [if_neg (by omega)]]
theorem constP_ext {a : Nat → Bool} {k : Bool} {b : Bd} (hb : ∀ c ∈ b.cl, okB b.vars c) (hs : Sats a b.cl) : ∃ a', (∀ i ≤ b.vars, a' i = a i) ∧ Sats a' (constP k b).2.cl := by
  refine ⟨upd a (b.vars + 1) k, fun i hi => upd_lt (by omega), constP_sats.2 ⟨Sats.congr hb (fun i _ hi => (upd_lt (by omega)).symm) hs, ?_⟩⟩
  rw [show (constP k b).1 = ((b.vars + 1 : Nat) : Int) from rfl, lh_new]
  unfold upd
  rw [if_pos rfl]
mutual
theorem litP_ext (nm : Str → Int) : ∀ (x : Ex) (b : Bd) (a : Nat → Bool), nmOk nm b.vars x → (∀ c ∈ b.cl, okB b.vars c) → Sats a b.cl → ∃ a', (∀ i ≤ b.vars, a' i = a i) ∧ Sats a' (litP nm x b).2.cl
  | .bit s, b, a, h, hb, hs => ⟨a, fun _ _ => rfl, hs⟩
  | .rise s, b, a, h, hb, hs => andP_ext (two_mem h.1 (okLit_neg h.2)) hb hs
  | .fall s, b, a, h, hb, hs => andP_ext (two_mem (okLit_neg h.1) h.2) hb hs
  | .k c, b, a, h, hb, hs => constP_ext hb hs
  | .not x, b, a, h, hb, hs => litP_ext nm x b a h hb hs
  | .and l, b, a, h, hb, hs => by
    obtain ⟨k1, k2⟩ := litsP_ok nm l b h hb
    have hv := litsP_vars nm l b
    obtain ⟨a1, h1, h2⟩ := litsP_ext nm l b a h hb hs
    obtain ⟨a2, h3, h4⟩ := andP_ext k1 k2 h2
    exact ⟨a2, fun i hi => (h3 i (by omega)).trans (h1 i hi), h4⟩
  | .or l, b, a, h, hb, hs => by
    obtain ⟨k1, k2⟩ := litsP_ok nm l b h hb
    have hv := litsP_vars nm l b
    obtain ⟨a1, h1, h2⟩ := litsP_ext nm l b a h hb hs
    obtain ⟨a2, h3, h4⟩ := andP_ext (okB_neg k1) k2 h2
    exact ⟨a2, fun i hi => (h3 i (by omega)).trans (h1 i hi), h4⟩
theorem litsP_ext (nm : Str → Int) : ∀ (l : List Ex) (b : Bd) (a : Nat → Bool), nmOkL nm b.vars l → (∀ c ∈ b.cl, okB b.vars c) → Sats a b.cl → ∃ a', (∀ i ≤ b.vars, a' i = a i) ∧ Sats a' (litsP nm l b).2.cl
  | [], b, a, h, hb, hs => ⟨a, fun _ _ => rfl, hs⟩
  | x :: l, b, a, h, hb, hs => by
    obtain ⟨q1, q2⟩ := litP_ok nm x b h.1 hb
    have hv := litP_vars nm x b
    obtain ⟨a1, h1, h2⟩ := litP_ext nm x b a h.1 hb hs
    obtain ⟨a2, h3, h4⟩ := litsP_ext nm l (litP nm x b).2 a1 (nmOkL_mono h.2 hv.1) q2 h2
    exact ⟨a2, fun i hi => (h3 i (by omega)).trans (h1 i hi), h4⟩
end
/-! ### each new variable is told by those ahead of it -/
def DefAt (v : Nat) (cl : List (List Int)) : Prop := [(v : Int)] ∈ cl ∨ [-(v : Int)] ∈ cl ∨ ∃ l : List Int, (∀ x ∈ l, x ≠ 0 ∧ vr x < v) ∧ (∀ x ∈ l, [-(v : Int), x] ∈ cl) ∧ ((v : Int) :: negL l) ∈ cl
def Defs (N : Nat) (b : Bd) : Prop := ∀ v, N < v → v ≤ b.vars → DefAt v b.cl
theorem DefAt.mono {v : Nat} {cl cl' : List (List Int)} (h : DefAt v cl) (hs : ∀ c ∈ cl, c ∈ cl') : DefAt v cl' := by
  rcases h with h | h | ⟨l, h1, h2, h3⟩
  · exact .inl (hs _ h)
  · exact .inr (.inl (hs _ h))
  · exact .inr (.inr ⟨l, h1, fun x hx => hs _ (h2 x hx), hs _ h3⟩)
theorem andP_defs {N : Nat} {l : List Int} {b : Bd} (hl : okB b.vars l) (h : Defs N b) : Defs N (andP l b).2 := by
  intro v h1 h2
  simp only [andP] at h2 ⊢
  by_cases hv : v ≤ b.vars
  · exact (h v h1 hv).mono fun c hc => by simp [hc]
  · have : v = b.vars + 1 := by omega
    subst this
    refine .inr (.inr ⟨l, fun x hx => ⟨(hl x hx).1, by have := vr_lt (hl x hx); omega⟩, fun x hx => ?_, by simp⟩)
    simp only [List.mem_append, List.mem_map]
    exact .inl (.inr ⟨x, hx, rfl⟩)
theorem constP_defs {N : Nat} {k : Bool} {b : Bd} (h : Defs N b) : Defs N (constP k b).2 := by
  intro v h1 h2
  simp only [constP] at h2 ⊢
  by_cases hv : v ≤ b.vars
  · exact (h v h1 hv).mono fun c hc => by simp [hc]
  · have : v = b.vars + 1 := by omega
    subst this
    cases k
    · exact .inr (.inl (by simp))
    · exact .inl (by simp)
mutual
theorem litP_defs (nm : Str → Int) {N : Nat} : ∀ (x : Ex) (b : Bd), nmOk nm b.vars x → (∀ c ∈ b.cl, okB b.vars c) → Defs N b → Defs N (litP nm x b).2
  | .bit s, b, h, hb, hd => hd
  | .rise s, b, h, hb, hd => andP_defs (two_mem h.1 (okLit_neg h.2)) hd
  | .fall s, b, h, hb, hd => andP_defs (two_mem (okLit_neg h.1) h.2) hd
  | .k c, b, h, hb, hd => constP_defs hd
  | .not x, b, h, hb, hd => litP_defs nm x b h hb hd
  | .and l, b, h, hb, hd => andP_defs (litsP_ok nm l b h hb).1 (litsP_defs nm l b h hb hd)
  | .or l, b, h, hb, hd => andP_defs (okB_neg (litsP_ok nm l b h hb).1) (litsP_defs nm l b h hb hd)
theorem litsP_defs (nm : Str → Int) {N : Nat} : ∀ (l : List Ex) (b : Bd), nmOkL nm b.vars l → (∀ c ∈ b.cl, okB b.vars c) → Defs N b → Defs N (litsP nm l b).2
  | [], b, h, hb, hd => hd
  | x :: l, b, h, hb, hd => litsP_defs nm l (litP nm x b).2 (nmOkL_mono h.2 (litP_vars nm x b).1) (litP_ok nm x b h.1 hb).2 (litP_defs nm x b h.1 hb hd)
end
theorem lv_neg {o : List Int} {x : Int} (hx : x ≠ 0) : lv o (-x) = - lv o x := by
  unfold lv
  by_cases h1 : x < 0
  · rw [if_pos h1, if_neg (by omega)]; simp
  · rw [if_neg h1, if_pos (by omega)]; simp
theorem lv_new {o : List Int} {v : Nat} : lv o (v : Int) = cell o v := by
  unfold lv
  rw [if_neg (by omega)]; simp
/-- where nothing more follows, and all of the first are told, all are told -/
theorem all_told {N V : Nat} {all : List (List Int)} {of o : List Int} (hs : Sol V o) (hsp : SpreadOk V all of o true) (hd : ∀ v, N < v → v ≤ V → DefAt v all) (h : ∀ i, 1 ≤ i → i ≤ N → cell o i ≠ 0) : ∀ v, 1 ≤ v → v ≤ V → cell o v ≠ 0 := by
  intro v
  induction v using Nat.strongRecOn with
  | ind v ih =>
  intro h1 h2 h0
  by_cases hN : v ≤ N
  · exact h v h1 hN h0
  have hvz : (v : Int) ≠ 0 := by omega
  have lv0 : lv o (v : Int) = 0 := by rw [lv_new]; exact h0
  have lv0n : lv o (-(v : Int)) = 0 := by rw [lv_neg hvz, lv0]; rfl
  rcases hd v (by omega) h2 with hc | hc | ⟨l, hl, hc1, hc2⟩
  · rcases hsp.2.2 rfl _ hc with ⟨x, hx, hx1⟩ | ⟨x, hx, hx0, y, hy, hy0, hxy⟩
    · simp at hx; subst hx; omega
    · simp at hx hy; omega
  · rcases hsp.2.2 rfl _ hc with ⟨x, hx, hx1⟩ | ⟨x, hx, hx0, y, hy, hy0, hxy⟩
    · simp at hx; subst hx; omega
    · simp at hx hy; omega
  · have told : ∀ x ∈ l, lv o x ≠ 0 := fun x hx => by
      obtain ⟨q1, q2⟩ := hl x hx
      rw [Ne, lv_vr q1]
      refine ih (vr x) q2 (by unfold vr; omega) (by omega)
    rcases hsp.2.2 rfl _ hc2 with ⟨x, hx, hx1⟩ | ⟨x, hx, hx0, y, hy, hy0, hxy⟩
    · rcases List.mem_cons.1 hx with rfl | hx
      · omega
      · obtain ⟨y, hy, rfl⟩ := List.mem_map.1 hx
        rw [lv_neg (hl y hy).1] at hx1
        rcases hsp.2.2 rfl _ (hc1 y hy) with ⟨z, hz, hz1⟩ | ⟨z, hz, hz0, w, hw, hw0, hzw⟩
        · simp at hz
          rcases hz with rfl | rfl <;> omega
        · simp at hz hw
          have hy0 := told y hy
          rcases hz with rfl | rfl
          · rcases hw with rfl | rfl
            · exact hzw rfl
            · exact hy0 hw0
          · exact hy0 hz0
    · have ex : ∀ z ∈ (v : Int) :: negL l, lv o z = 0 → z = v := fun z hz hz0 => by
        rcases List.mem_cons.1 hz with rfl | hz
        · rfl
        · obtain ⟨w, hw, rfl⟩ := List.mem_map.1 hz
          rw [lv_neg (hl w hw).1] at hz0
          exact absurd (by omega) (told w hw)
      exact hxy ((ex x hx hx0).trans (ex y hy hy0).symm)
theorem opensN_grow {N V : Nat} {of tr of' tr' : List Int} (hg : Grow V of tr of' tr') : opens N of' ≤ opens N of := by
  obtain ⟨n, _, h2, h3⟩ := hg
  unfold opens
  refine List.countP_mono_left fun i hi hp => ?_
  simp only [decide_eq_true_eq] at hp ⊢
  by_cases hm : ((i + 1 : Nat) : Int) ∈ n
  · have := (h2 _ hm).2.2.2
    rw [Int.toNat_natCast] at this
    exact absurd hp this
  · rw [← h3 _ hm]; exact hp
theorem opensN_lt {N V : Nat} {of : List Int} {x : Int} (hs : Sol V of) (hx : okLit V x) (h0 : cell of (vr x) = 0) (hN : vr x ≤ N) : opens N (litSet of x) < opens N of := by
  have hl := hs.len
  have hv := vr_lt hx
  unfold opens
  refine countP_lt (fun i hi hp => ?_) ⟨vr x - 1, by rw [List.mem_range]; omega, ?_, ?_⟩
  · simp only [decide_eq_true_eq] at hp ⊢
    unfold litSet at hp
    rw [cell_set (by omega)] at hp
    split at hp
    · split at hp <;> simp at hp
    · exact hp
  · simp only [decide_eq_true_eq]
    rw [show vr x - 1 + 1 = vr x by omega]
    exact h0
  · simp only [decide_eq_false_iff_not]
    rw [show vr x - 1 + 1 = vr x by omega]
    unfold litSet
    rw [cell_set (by omega), if_pos rfl]
    split <;> simp
/-- the measure of the search: how many of the first are open -/
theorem det_lt {N V : Nat} {all : List (List Int)} (hd : ∀ v, N < v → v ≤ V → DefAt v all) {of o : List Int} (x : Int) (hs : Sol V o) (hsp : SpreadOk V all of o true) (hx : okLit V x) (h0 : cell o (vr x) = 0) (hf : ∀ i, 1 ≤ i → i < vr x → cell o i ≠ 0) : opens N (litSet o x) < opens N o := by
  have hv := vr_lt hx
  refine opensN_lt hs hx h0 ?_
  rcases Nat.lt_or_ge N (vr x) with h | h
  · exact absurd h0 (all_told hs hsp hd (fun i h1 h2 => hf i h1 (by omega)) _ hv.1 hv.2)
  · exact h
end Go.Sc
namespace Go.Sc
open Go
set_option linter.unusedSimpArgs false
set_option linter.unusedVariables false
set_option linter.unnecessarySimpa false
section
variable {p p' q q' : Str → Bool}
theorem fine_ne {s : Str} (h : nameOk s = true) : s ≠ [] := by rintro rfl; simp [nameOk] at h
mutual
theorem Ex.says_hang : ∀ x : Ex, x.fine → (∀ s ∈ x.raw nf1, p s = p' s) → (∀ s ∈ x.raw nf2, q s = q' s) → x.says p q = x.says p' q'
  | .k _, _, _, _ => rfl
  | .bit s, hf, h1, _ => by
    have := h1 s (by simp [Ex.raw, nmL, nf1, fine_ne hf])
    simp [Ex.says, this]
  | .rise s, hf, h1, h2 => by
    have a := h1 s (by simp [Ex.raw, nmL, nf1, fine_ne hf])
    have b := h2 s (by simp [Ex.raw, nmL, nf2, fine_ne hf])
    simp [Ex.says, a, b]
  | .fall s, hf, h1, h2 => by
    have a := h1 s (by simp [Ex.raw, nmL, nf1, fine_ne hf])
    have b := h2 s (by simp [Ex.raw, nmL, nf2, fine_ne hf])
    simp [Ex.says, a, b]
  | .not y, hf, h1, h2 => by
    simp only [Ex.says]
    rw [Ex.says_hang y hf (fun s hs => h1 s (by simp [Ex.raw, hs])) (fun s hs => h2 s (by simp [Ex.raw, hs]))]
  | .and l, hf, h1, h2 => by
    simp only [Ex.says]
    exact (Ex.saysL_hang l hf.2 (fun s hs => h1 s (by simp [Ex.raw, hs])) (fun s hs => h2 s (by simp [Ex.raw, hs]))).1
  | .or l, hf, h1, h2 => by
    simp only [Ex.says]
    exact (Ex.saysL_hang l hf.2 (fun s hs => h1 s (by simp [Ex.raw, hs])) (fun s hs => h2 s (by simp [Ex.raw, hs]))).2
theorem Ex.saysL_hang : ∀ l : List Ex, Ex.fineL l → (∀ s ∈ Ex.rawL nf1 l, p s = p' s) → (∀ s ∈ Ex.rawL nf2 l, q s = q' s) → Ex.allL p q l = Ex.allL p' q' l ∧ Ex.anyL p q l = Ex.anyL p' q' l
  | [], _, _, _ => ⟨rfl, rfl⟩
  | x :: l, hf, h1, h2 => by
    have a := Ex.says_hang x hf.1 (fun s hs => h1 s (by simp [Ex.rawL, hs])) (fun s hs => h2 s (by simp [Ex.rawL, hs]))
    have b := Ex.saysL_hang l hf.2 (fun s hs => h1 s (by simp [Ex.rawL, hs])) (fun s hs => h2 s (by simp [Ex.rawL, hs]))
    simp only [Ex.allL, Ex.anyL, a, b.1, b.2, and_self]
end
end
theorem nm12 (x : Ex) (s : Str) (h : s ∈ nmL nf2 x) : s ∈ nmL nf1 x := by
  cases x <;> first | exact h | (simp [nmL, nf2] at h)
mutual
theorem Ex.edge_name : ∀ (x : Ex) (s : Str), s ∈ x.raw nf2 → s ∈ x.raw nf1
  | .k _, s, h => nm12 _ s h
  | .bit _, s, h => nm12 _ s h
  | .rise _, s, h => nm12 _ s h
  | .fall _, s, h => nm12 _ s h
  | .not y, s, h => by
    simp only [Ex.raw, List.mem_append] at h ⊢
    exact h.imp (nm12 _ s) (Ex.edge_name y s)
  | .and l, s, h => by
    simp only [Ex.raw, List.mem_append] at h ⊢
    exact h.imp (nm12 _ s) (Ex.edgeL_name l s)
  | .or l, s, h => by
    simp only [Ex.raw, List.mem_append] at h ⊢
    exact h.imp (nm12 _ s) (Ex.edgeL_name l s)
theorem Ex.edgeL_name : ∀ (l : List Ex) (s : Str), s ∈ Ex.rawL nf2 l → s ∈ Ex.rawL nf1 l
  | [], s, h => h
  | x :: l, s, h => by
    simp only [Ex.rawL, List.mem_append] at h ⊢
    exact h.imp (Ex.edge_name x s) (Ex.edgeL_name l s)
end
section
variable {E : Env} {P : Program}
/-- those of a list that are not among others -/
def out (r l : List Str) : List Str := r.filter fun s => !decide (s ∈ l)
end
end Go.Sc
namespace Go.Sc
open Go
set_option linter.unusedSimpArgs false
set_option linter.unnecessarySimpa false
/-- rounds part more and more -/
theorem iter_apart {t : Table} {s s' : Nat} (hs : s < t.next.length) (hs' : s' < t.next.length) : ∀ {j k : Nat}, j ≤ k → cell (iter t k) s = cell (iter t k) s' → cell (iter t j) s = cell (iter t j) s' := by
  intro j k hjk
  induction k with
  | zero => intro h; have : j = 0 := by omega
            subst this; exact h
  | succ k ih =>
    intro h
    by_cases hj : j = k + 1
    · subst hj; exact h
    · refine ih (by omega) ?_
      have := (stepR_same (now := iter t k) hs hs').1 h
      simp only [line, lineTo] at this
      injection this

end Go.Sc
namespace Go.Sc
open Go
set_option linter.unusedSimpArgs false
set_option linter.unusedVariables false
set_option linter.unnecessarySimpa false
def errA : Err → AV
  | none => nilE
  | some (k, none) => .ifc 1 (Z k)
  | some (k, some s) => .ifc 2 (.ptrF [Z k, Z s] 0)
theorem errA_closed (e : Err) : (errA e).closed := by
  rcases e with _ | ⟨k, _ | s⟩ <;> simp [errA, AV.closed, AV.closedL]
theorem getD_row (l : List (List Int)) (i : Nat) : l.getD i [] = row l i := by simp [row, List.getD]
theorem getD_cell (l : List Int) (i : Nat) : l.getD i 0 = cell l i := by simp [cell, List.getD]

theorem lenA_LI (l : List Int) : lenA (LI l) = some (Z l.length) := rfl
theorem lenA_LLI (l : List (List Int)) : lenA (LLI l) = some (Z l.length) := rfl
theorem iaddr_LI {l : List Int} {k : IntKind} {i : Nat} (h : i < l.length) : iaddr 1 (LI l) (.val (.int k i)) = some (.ptrF (l.map fun z => Z z) i) := iaddr_Nn h
theorem iaddr_LLI {l : List (List Int)} {k : IntKind} {i : Nat} (h : i < l.length) : iaddr 1 (LLI l) (.val (.int k i)) = some (.ptrF (l.map LI) i) := iaddr_Nn h
theorem row_get {l : List (List Int)} {i : Nat} (h : i < l.length) : (l.map LI)[i]? = some (LI (row l i)) := by rw [mapL_get h, getD_row]
theorem cell_at {l : List Int} {i : Nat} (h : i < l.length) : (l.map fun z => Z z)[i]? = some (Z (cell l i)) := by rw [mapZ_get h, getD_cell]

section
variable {E : Env} {P : Program}
end
end Go.Sc
namespace Go.Sc
open Go
set_option linter.unusedSimpArgs false
set_option linter.unusedVariables false
set_option linter.unnecessarySimpa false
section
variable {E : Env} {P : Program}
theorem Ex.enc_nil (x : Ex) : eqA .iface x.enc nilE = some false := by cases x <;> rfl
end
end Go.Sc
namespace Go.Sc
open Go
set_option linter.unusedSimpArgs false
set_option linter.unusedVariables false
set_option linter.unnecessarySimpa false
section
variable {E : Env} {P : Program}
end
/-- what 'read' answers -/
def readA (s : Str) : AV := if 1000 < s.length then .tup [nilE, nilP, Bo false] else match parseR s with
  | .ok x _ => .tup [x.enc, x.ref, Bo true]
  | .no _ _ => .tup [nilE, nilP, Bo false]
theorem readA_closed (s : Str) : (readA s).closed := by
  unfold readA
  split
  · exact ⟨trivial, trivial, trivial, trivial⟩
  split
  · exact ⟨Ex.enc_closed _, Ex.ref_closed _, trivial, trivial⟩
  · exact ⟨trivial, trivial, trivial, trivial⟩
section
variable {E : Env} {P : Program}
theorem read_spec0 (er : RefReadBodies E P) (ep : ParseBodies E P) (hB : Body1 E P 169 F.law_read) (s : Str) : FX E P 169 [S s] (readA s) := by
  refine FX.of' ⟨trivial, trivial⟩ (readA_closed s) fun n R hR => hB _ _ _ ?_
  unfold F.law_read
  unfold readA at hR
  simp only [nd0, Y1n, Y1o, Y1p, Y1q, Y1w, Y1x, Y1y, Y1z, Y20, Y21, Y28, Y2a, AV.cells?, Nat.reduceAdd, Nat.reduceMul]
  by_cases hl : 1000 < s.length
  · rw [if_pos hl] at hR
    simp only [nd0, Y1n, Y1o, Y1p, Y1q, Y1w, Y1x, Y1y, Y1z, Y20, Y21, Y28, Y2a, AV.cells?, Nat.reduceAdd, Nat.reduceMul, decide_eq_true (show (1000 : Int) < (s.length : Int) by omega)]
    exact hR _ _ rfl
  rw [if_neg hl] at hR
  simp only [nd0, Y1n, Y1o, Y1p, Y1q, Y1w, Y1x, Y1y, Y1z, Y20, Y21, Y28, Y2a, AV.cells?, Nat.reduceAdd, Nat.reduceMul, decide_eq_false (show ¬ (1000 : Int) < (s.length : Int) by omega)]
  refine wCall.fx (ExprParse_spec er s) fun n => ?_
  have hpar := Parse_spec ep s
  unfold parseA at hpar
  unfold refParseA
  rw [if_neg (by omega)] at hpar
  rw [if_neg (by omega)]
  cases hp : parseR s with
  | no e p =>
    have he := parseR_err hp
    rw [hp] at hR
    simp only [nd0, Y1n, Y1o, Y1p, Y1q, Y1w, Y1x, Y1y, Y1z, Y20, Y21, Y28, Y2a, AV.cells?, Nat.reduceAdd, Nat.reduceMul]
    refine wNew.L (l := [Z 0, Z 0]) rfl ?_
    simp only [nd0, Y1n, Y1o, Y1p, Y1q, Y1w, Y1x, Y1y, Y1z, Y20, Y21, Y28, Y2a, AV.cells?, Nat.reduceAdd, Nat.reduceMul]
    rw [storeN_L (n := 2) (xs := [Z e, Z p]) rfl rfl]
    simp only [nd0, Y1n, Y1o, Y1p, Y1q, Y1w, Y1x, Y1y, Y1z, Y20, Y21, Y28, Y2a, AV.cells?, Nat.reduceAdd, Nat.reduceMul, put_two, decide_eq_false (show ¬ (e : Int) = 0 by omega)]
    exact hR _ _ rfl
  | ok x j =>
    rw [hp] at hpar hR
    simp only [nd0, Y1n, Y1o, Y1p, Y1q, Y1w, Y1x, Y1y, Y1z, Y20, Y21, Y28, Y2a, AV.cells?, Nat.reduceAdd, Nat.reduceMul]
    refine wNew.L (l := [Z 0, Z 0]) rfl ?_
    simp only [nd0, Y1n, Y1o, Y1p, Y1q, Y1w, Y1x, Y1y, Y1z, Y20, Y21, Y28, Y2a, AV.cells?, Nat.reduceAdd, Nat.reduceMul]
    rw [storeN_L (n := 2) (xs := [Z 0, Z (-1)]) rfl rfl]
    simp only [nd0, Y1n, Y1o, Y1p, Y1q, Y1w, Y1x, Y1y, Y1z, Y20, Y21, Y28, Y2a, AV.cells?, Nat.reduceAdd, Nat.reduceMul, put_two, show decide ((0 : Int) = 0) = true from rfl]
    refine wCall.fx hpar fun n => ?_
    simp only [nd0, Y1n, Y1o, Y1p, Y1q, Y1w, Y1x, Y1y, Y1z, Y20, Y21, Y28, Y2a, AV.cells?, Nat.reduceAdd, Nat.reduceMul]
    exact hR _ _ rfl
end
end Go.Sc
namespace Go.Sc
open Go
set_option linter.unusedSimpArgs false
set_option linter.unusedVariables false
set_option linter.unnecessarySimpa false
/-! ### bits -/
def ixN (L : List Str) (s : Str) : Nat := (idx L s).toNat
theorem mem_split {L : List Str} {s : Str} (h : s ∈ L) : ∃ pre rest, L = pre ++ s :: rest ∧ s ∉ pre := by
  induction L with
  | nil => simp at h
  | cons a l ih =>
    by_cases e : s = a
    · subst e; exact ⟨[], l, rfl, by simp⟩
    · obtain ⟨pre, rest, h1, h2⟩ := ih (by simpa [e] using h)
      exact ⟨a :: pre, rest, by rw [h1]; rfl, by simp [e, h2]⟩
theorem ixN_of {L : List Str} {s : Str} (h : s ∈ L) : idx L s = (ixN L s : Nat) := by
  obtain ⟨pre, rest, rfl, hn⟩ := mem_split h
  unfold ixN
  rw [idx_app hn]; simp
theorem ixN_app {pre rest : List Str} {s : Str} (hn : s ∉ pre) : ixN (pre ++ s :: rest) s = pre.length := by unfold ixN; rw [idx_app hn]; simp
theorem ixN_lt {L : List Str} {s : Str} (h : s ∈ L) : ixN L s < L.length := by
  obtain ⟨pre, rest, rfl, hn⟩ := mem_split h
  rw [ixN_app hn]; simp
theorem ixN_get {L : List Str} {s : Str} (h : s ∈ L) : L[ixN L s]? = some s := by
  obtain ⟨pre, rest, rfl, hn⟩ := mem_split h
  rw [ixN_app hn]; simp
/-- what an expression says of values of some names -/
def sv (x : Ex) (L : List Str) (v : Nat) : Bool := x.says (fun s => v.testBit (ixN L s)) (fun s => v.testBit (ixN L s))
section
variable {E : Env} {P : Program}
def cond (x : Ex) (k v : Nat) : Bool := !v.testBit k && (sv x x.names v != sv x x.names (v ||| 2 ^ k))
end
end Go.Sc
namespace Go.Sc.F
open Go Go.Sc
set_option linter.unusedVariables false
/-- signalbox/gate.Same -/
def gate_Same (E : Env) (P : Program) (a0 a1 : AV) (H : AH) (R : Kt) : Prop :=
  wBool (eqA .iface a0 (.val (.nilIface))) H false fun t11 H =>
  wGuard t11 false H (fun k => k a1 H) fun t13 H =>
  wGuard t11 false H (fun k => wBool (eqA .iface t13 (.val (.nilIface))) H false k) fun t14 H =>
  wGet (pickA t11 (.val (.bool true)) t14) H fun t15 H =>
  wIf t15 (
    R (.tup [(.val (.bool false)), (.ifc 1 (.val (.int .i64 7)))]) H) (
    wAgg (fillA [(.val (.nilIface))] [(0, 1, a1)]) H fun t19 H =>
    wNewS 1 2 (fillA (List.replicate 2 [(.val (.nilIface))]).flatten [(0, 1, a0), (1, 1, (.ifc 10 t19))]) H fun t21 H =>
    wAgg (fillA [(.val (.nilIface))] [(0, 1, a0)]) H fun t24 H =>
    wNewS 1 2 (fillA (List.replicate 2 [(.val (.nilIface))]).flatten [(0, 1, (.ifc 10 t24)), (1, 1, a1)]) H fun t27 H =>
    wNewS 1 2 (fillA (List.replicate 2 [(.val (.nilIface))]).flatten [(0, 1, (.ifc 9 t21)), (1, 1, (.ifc 9 t27))]) H fun t29 H =>
    wCall E P 233 [(.ifc 8 t29)] H fun t33 H =>
    wGet (extractA t33 0) H fun t34 H =>
    wGet (extractA t33 1) H fun t35 H =>
    wGet (extractA t33 2) H fun t36 H =>
    wNew 2 (some [(.val (.int .i64 0)), (.val (.slice none 0 0))]) H fun t7 H =>
    wPut (storeN 2 t7 t34 H) fun _u H =>
    wBool (eqA .iface t36 (.val (.nilIface))) H true fun t38 H =>
    wIf t38 (
      R (.tup [(.val (.bool false)), t36]) H) (
      wGet (faddr 1 t7) H fun t40 H =>
      wGet (load1 t40 H) H fun t41 H =>
      wNewS 1 1 (fillA (List.replicate 1 [(.val (.int .i64 0))]).flatten [(0, 1, t35)]) H fun t43 H =>
      wNewS 1 1 (fillA (List.replicate 1 [(.val (.slice none 0 0))]).flatten [(0, 1, t43)]) H fun t44 H =>
      wApp 1 24 t41 t44 H fun t45 H =>
      wGet (faddr 1 t7) H fun t46 H =>
      wPut (store1 t46 t45 H) fun _u H =>
      wGet (loadN 2 t7 H) H fun t48 H =>
      wCall E P 100 [t48] H fun t49 H =>
      wGet (extractA t49 0) H fun t50 H =>
      wGet (extractA t49 1) H fun t51 H =>
      wCall E P 53 [t51] H fun t53 H =>
      wGet (binA .eql t53 (.val (.int .i64 0))) H fun t55 H =>
      wIf t55 (
        R (.tup [(.val (.bool false)), (.val (.nilIface))]) H) (
        wGet (binA .eql t53 (.val (.int .i64 8))) H fun t57 H =>
        wIf t57 (
          R (.tup [(.val (.bool true)), (.val (.nilIface))]) H) (
          R (.tup [(.val (.bool false)), t51]) H))))

/-- signalbox/gate.Of -/
def gate_Of (E : Env) (P : Program) (a0 : AV) (H : AH) (R : Kt) : Prop :=
  wNew 2 (some [(.val (.int .i64 0)), (.val (.slice none 0 0))]) H fun t2 H =>
  wBool (eqA .iface a0 (.val (.nilIface))) H false fun t12 H =>
  wIf t12 (
    wAgg (fillA [(.val (.int .i64 0)), (.val (.slice none 0 0))] []) H fun t13 H =>
    wPut (storeN 2 t2 t13 H) fun _u H =>
    wGet (retPack [loadN 2 t2 H, some (.val (.int .i64 0)), some (.ifc 1 (.val (.int .i64 7)))]) H R) (
    wCall E P 156 [a0] H fun t16 H =>
    wGet (binA .gtr t16 (.val (.int .i64 300))) H fun t17 H =>
    wIf t17 (
      wAgg (fillA [(.val (.int .i64 0)), (.val (.slice none 0 0))] []) H fun t18 H =>
      wPut (storeN 2 t2 t18 H) fun _u H =>
      wGet (retPack [loadN 2 t2 H, some (.val (.int .i64 0)), some (.ifc 1 (.val (.int .i64 4)))]) H R) (
      wMapN H fun t20 H =>
      wAgg (fillA [(.val (.int .i64 0)), (.val (.slice none 0 0)), (.val (.map none))] [(2, 1, t20)]) H fun t21 H =>
      wNew 3 (AV.cells? t21) H fun t22 H =>
      wCall E P 181 [a0] H fun t24 H =>
      wGet (lenA t24) H fun t25 H =>
      wLoop 1 (fun I1 => I1 (.val (.int .i64 0)) H) fun I1 t26 H =>
        wGet (binA .lss t26 t25) H fun t27 H =>
        wIf t27 (
          wGet (iaddr 1 t24 t26) H fun t28 H =>
          wGet (load1 t28 H) H fun t29 H =>
          wGet (nilA t22) H fun t31 H =>
          wGet (faddr 2 t31) H fun t32 H =>
          wGet (load1 t32 H) H fun t33 H =>
          wCall E P 234 [t22] H fun t36 H =>
          (wGet (load1 t32 H) H (fun y H2 => y = t33 ∧ H2 = H)) ∧
          wPut (insertA .string t33 t29 t36 H) fun _u H =>
          wGet (binA .add t26 (.val (.int .i64 1))) H fun t37 H =>
          I1 t37 H) (
          wCall E P 184 [a0] H fun t39 H =>
          wGet (lenA t39) H fun t40 H =>
          wLoop 1 (fun I2 => I2 (.val (.int .i64 0)) H) fun I2 t41 H =>
            wGet (binA .lss t41 t40) H fun t42 H =>
            wIf t42 (
              wGet (iaddr 1 t39 t41) H fun t43 H =>
              wGet (load1 t43 H) H fun t44 H =>
              wGet (nilA t22) H fun t46 H =>
              wGet (faddr 2 t46) H fun t47 H =>
              wGet (load1 t47 H) H fun t48 H =>
              wGet (binA .add (.val (.string ⟨#[94]⟩)) t44) H fun t50 H =>
              wCall E P 234 [t22] H fun t52 H =>
              (wGet (load1 t47 H) H (fun y H2 => y = t48 ∧ H2 = H)) ∧
              wPut (insertA .string t48 t50 t52 H) fun _u H =>
              wGet (binA .add t41 (.val (.int .i64 1))) H fun t53 H =>
              I2 t53 H) (
              wCall E P 235 [t22, a0] H fun t56 H =>
              wGet (nilA t22) H fun t58 H =>
              wGet (faddr 0 t58) H fun t59 H =>
              wGet (loadN 2 t59 H) H fun t60 H =>
              wPut (storeN 2 t2 t60 H) fun _u H =>
              wGet (retPack [loadN 2 t2 H, some t56, some (.val (.nilIface))]) H R))))

/-- (*signalbox/gate.builder).fresh -/
def pgate_builder_fresh (E : Env) (P : Program) (a0 : AV) (H : AH) (R : Kt) : Prop :=
  wGet (nilA a0) H fun t4 H =>
  wGet (faddr 0 t4) H fun t5 H =>
  wGet (faddr 0 t5) H fun t6 H =>
  wGet (load1 t6 H) H fun t7 H =>
  wGet (binA .add t7 (.val (.int .i64 1))) H fun t8 H =>
  wGet (nilA a0) H fun t9 H =>
  wGet (faddr 0 t9) H fun t10 H =>
  wGet (faddr 0 t10) H fun t11 H =>
  wPut (store1 t11 t8 H) fun _u H =>
  wGet (nilA a0) H fun t13 H =>
  wGet (faddr 0 t13) H fun t14 H =>
  wGet (faddr 0 t14) H fun t15 H =>
  wGet (load1 t15 H) H fun t16 H =>
  R t16 H

/-- (*signalbox/gate.builder).lit -/
def pgate_builder_lit (E : Env) (P : Program) (a0 a1 : AV) (H : AH) (R : Kt) : Prop :=
  wGet (assertA 14 (.val (.string ⟨#[]⟩)) a1) H fun t21 H =>
  wGet (extractA t21 1) H fun t22 H =>
  wGet (extractA t21 0) H fun t23 H =>
  wIf t22 (
    wGet (nilA a0) H fun t25 H =>
    wGet (faddr 2 t25) H fun t26 H =>
    wGet (load1 t26 H) H fun t27 H =>
    wGet (lookupA .string (.val (.int .i64 0)) false t27 t23 H) H fun t29 H =>
    R t29 H) (
    wGet (assertA 12 (.val (.string ⟨#[]⟩)) a1) H fun t30 H =>
    wGet (extractA t30 1) H fun t31 H =>
    wGet (extractA t30 0) H fun t32 H =>
    wIf t31 (
      wGet (nilA a0) H fun t35 H =>
      wGet (faddr 2 t35) H fun t36 H =>
      wGet (load1 t36 H) H fun t37 H =>
      wGet (nilA a0) H fun t41 H =>
      wGet (faddr 2 t41) H fun t42 H =>
      wGet (load1 t42 H) H fun t43 H =>
      wGet (binA .add (.val (.string ⟨#[94]⟩)) t32) H fun t45 H =>
      (
        wGet (lookupA .string (.val (.int .i64 0)) false t37 t32 H) H fun t39 H =>
        (wGet (load1 t42 H) H (fun y H2 => y = t43 ∧ H2 = H)) ∧
        wGet (lookupA .string (.val (.int .i64 0)) false t43 t45 H) H fun t46 H =>
        (wGet (load1 t36 H) H (fun y H2 => y = t37 ∧ H2 = H)) ∧
        wGet (unA .neg t46) H fun t47 H =>
        wNewS 1 2 (fillA (List.replicate 2 [(.val (.int .i64 0))]).flatten [(0, 1, t39), (1, 1, t47)]) H fun t48 H =>
        wCall E P 236 [a0, t48] H fun t49 H =>
        R t49 H) ∧
      (
        wGet (lookupA .string (.val (.int .i64 0)) false t43 t45 H) H fun t46_1 H =>
        (wGet (load1 t36 H) H (fun y H2 => y = t37 ∧ H2 = H)) ∧
        wGet (unA .neg t46_1) H fun t47_1 H =>
        wGet (lookupA .string (.val (.int .i64 0)) false t37 t32 H) H fun t39_1 H =>
        (wGet (load1 t42 H) H (fun y H2 => y = t43 ∧ H2 = H)) ∧
        wNewS 1 2 (fillA (List.replicate 2 [(.val (.int .i64 0))]).flatten [(0, 1, t39_1), (1, 1, t47_1)]) H fun t48_1 H =>
        wCall E P 236 [a0, t48_1] H fun t49_1 H =>
        R t49_1 H)) (
      wGet (assertA 13 (.val (.string ⟨#[]⟩)) a1) H fun t50 H =>
      wGet (extractA t50 1) H fun t51 H =>
      wGet (extractA t50 0) H fun t52 H =>
      wIf t51 (
        wGet (nilA a0) H fun t55 H =>
        wGet (faddr 2 t55) H fun t56 H =>
        wGet (load1 t56 H) H fun t57 H =>
        wGet (nilA a0) H fun t62 H =>
        wGet (faddr 2 t62) H fun t63 H =>
        wGet (load1 t63 H) H fun t64 H =>
        wGet (binA .add (.val (.string ⟨#[94]⟩)) t52) H fun t66 H =>
        (
          wGet (lookupA .string (.val (.int .i64 0)) false t57 t52 H) H fun t59 H =>
          (wGet (load1 t63 H) H (fun y H2 => y = t64 ∧ H2 = H)) ∧
          wGet (unA .neg t59) H fun t60 H =>
          wGet (lookupA .string (.val (.int .i64 0)) false t64 t66 H) H fun t67 H =>
          (wGet (load1 t56 H) H (fun y H2 => y = t57 ∧ H2 = H)) ∧
          wNewS 1 2 (fillA (List.replicate 2 [(.val (.int .i64 0))]).flatten [(0, 1, t60), (1, 1, t67)]) H fun t68 H =>
          wCall E P 236 [a0, t68] H fun t69 H =>
          R t69 H) ∧
        (
          wGet (lookupA .string (.val (.int .i64 0)) false t64 t66 H) H fun t67_1 H =>
          (wGet (load1 t56 H) H (fun y H2 => y = t57 ∧ H2 = H)) ∧
          wGet (lookupA .string (.val (.int .i64 0)) false t57 t52 H) H fun t59_1 H =>
          (wGet (load1 t63 H) H (fun y H2 => y = t64 ∧ H2 = H)) ∧
          wGet (unA .neg t59_1) H fun t60_1 H =>
          wNewS 1 2 (fillA (List.replicate 2 [(.val (.int .i64 0))]).flatten [(0, 1, t60_1), (1, 1, t67_1)]) H fun t68_1 H =>
          wCall E P 236 [a0, t68_1] H fun t69_1 H =>
          R t69_1 H)) (
        wGet (assertA 10 (.agg [(.val (.nilIface))]) a1) H fun t70 H =>
        wGet (extractA t70 1) H fun t71 H =>
        wGet (extractA t70 0) H fun t72 H =>
        wIf t71 (
          wNew 1 (some [(.val (.nilIface))]) H fun t8 H =>
          wPut (storeN 1 t8 t72 H) fun _u H =>
          wGet (faddr 0 t8) H fun t74 H =>
          wGet (load1 t74 H) H fun t75 H =>
          wCall E P 235 [a0, t75] H fun t76 H =>
          wGet (unA .neg t76) H fun t77 H =>
          R t77 H) (
          wGet (assertA 9 (.val (.slice none 0 0)) a1) H fun t78 H =>
          wGet (extractA t78 1) H fun t79 H =>
          wGet (extractA t78 0) H fun t80 H =>
          wIf t79 (
            wGet (lenA t80) H fun t82 H =>
            wLoop 2 (fun I1 => I1 (.val (.slice none 0 0)) (.val (.int .i64 0)) H) fun I1 t10 t83 H =>
              wGet (binA .lss t83 t82) H fun t84 H =>
              wIf t84 (
                wGet (iaddr 1 t80 t83) H fun t85 H =>
                wGet (load1 t85 H) H fun t86 H =>
                wCall E P 235 [a0, t86] H fun t90 H =>
                wNewS 1 1 (fillA (List.replicate 1 [(.val (.int .i64 0))]).flatten [(0, 1, t90)]) H fun t91 H =>
                wApp 1 8 t10 t91 H fun t92 H =>
                wGet (binA .add t83 (.val (.int .i64 1))) H fun t93 H =>
                I1 t92 t93 H) (
                wCall E P 236 [a0, t10] H fun t96 H =>
                R t96 H)) (
            wGet (assertA 8 (.val (.slice none 0 0)) a1) H fun t97 H =>
            wGet (extractA t97 1) H fun t98 H =>
            wGet (extractA t97 0) H fun t99 H =>
            wIf t98 (
              wGet (lenA t99) H fun t101 H =>
              wLoop 2 (fun I2 => I2 (.val (.slice none 0 0)) (.val (.int .i64 0)) H) fun I2 t14 t102 H =>
                wGet (binA .lss t102 t101) H fun t103 H =>
                wIf t103 (
                  wGet (iaddr 1 t99 t102) H fun t104 H =>
                  wGet (load1 t104 H) H fun t105 H =>
                  wCall E P 235 [a0, t105] H fun t109 H =>
                  wGet (unA .neg t109) H fun t110 H =>
                  wNewS 1 1 (fillA (List.replicate 1 [(.val (.int .i64 0))]).flatten [(0, 1, t110)]) H fun t111 H =>
                  wApp 1 8 t14 t111 H fun t112 H =>
                  wGet (binA .add t102 (.val (.int .i64 1))) H fun t113 H =>
                  I2 t112 t113 H) (
                  wCall E P 236 [a0, t14] H fun t116 H =>
                  wGet (unA .neg t116) H fun t117 H =>
                  R t117 H)) (
              wCall E P 234 [a0] H fun t119 H =>
              wJoin 0 (fun J3 =>
                wGet (assertA 11 (.val (.bool false)) a1) H fun t122 H =>
                wGet (extractA t122 0) H fun t123 H =>
                wGet (extractA t122 1) H fun t124 H =>
                wGuard t124 true H (fun k => k t123 H) fun t127 H =>
                wGet (pickA t124 t127 (.val (.bool false))) H fun t128 H =>
                wIf t128 (
                  wNewS 1 1 (fillA (List.replicate 1 [(.val (.int .i64 0))]).flatten [(0, 1, t119)]) H fun t131 H =>
                  wCall E P 237 [a0, t131] H fun t132 H =>
                  J3 H) (
                  wGet (unA .neg t119) H fun t135 H =>
                  wNewS 1 1 (fillA (List.replicate 1 [(.val (.int .i64 0))]).flatten [(0, 1, t135)]) H fun t136 H =>
                  wCall E P 237 [a0, t136] H fun t137 H =>
                  J3 H)) fun H =>
                R t119 H))))))

/-- (*signalbox/gate.builder).and -/
def pgate_builder_and (E : Env) (P : Program) (a0 a1 : AV) (H : AH) (R : Kt) : Prop :=
  wCall E P 234 [a0] H fun t10 H =>
  wNewS 1 1 (fillA (List.replicate 1 [(.val (.int .i64 0))]).flatten [(0, 1, t10)]) H fun t12 H =>
  wGet (lenA a1) H fun t14 H =>
  wLoop 2 (fun I1 => I1 t12 (.val (.int .i64 0)) H) fun I1 t6 t15 H =>
    wGet (binA .lss t15 t14) H fun t16 H =>
    wIf t16 (
      wGet (iaddr 1 a1 t15) H fun t17 H =>
      wGet (load1 t17 H) H fun t18 H =>
      wGet (unA .neg t10) H fun t21 H =>
      wNewS 1 2 (fillA (List.replicate 2 [(.val (.int .i64 0))]).flatten [(0, 1, t21), (1, 1, t18)]) H fun t23 H =>
      wCall E P 237 [a0, t23] H fun t24 H =>
      wGet (unA .neg t18) H fun t27 H =>
      wNewS 1 1 (fillA (List.replicate 1 [(.val (.int .i64 0))]).flatten [(0, 1, t27)]) H fun t28 H =>
      wApp 1 8 t6 t28 H fun t29 H =>
      wGet (binA .add t15 (.val (.int .i64 1))) H fun t30 H =>
      I1 t29 t30 H) (
      wCall E P 237 [a0, t6] H fun t33 H =>
      R t10 H)

/-- (*signalbox/gate.builder).add -/
def pgate_builder_add (E : Env) (P : Program) (a0 a1 : AV) (H : AH) (R : Kt) : Prop :=
  wGet (nilA a0) H fun t6 H =>
  wGet (faddr 0 t6) H fun t7 H =>
  wGet (faddr 1 t7) H fun t8 H =>
  wGet (load1 t8 H) H fun t9 H =>
  wNewS 1 1 (fillA (List.replicate 1 [(.val (.slice none 0 0))]).flatten [(0, 1, a1)]) H fun t11 H =>
  wApp 1 24 t9 t11 H fun t12 H =>
  wGet (nilA a0) H fun t13 H =>
  wGet (faddr 0 t13) H fun t14 H =>
  wGet (faddr 1 t14) H fun t15 H =>
  wPut (store1 t15 t12 H) fun _u H =>
  R (.tup []) H

end Go.Sc.F
namespace Go.Sc.F
open Go Go.Sc
set_option linter.unusedVariables false
/-- signalbox/gate.Solve -/
def gate_Solve (E : Env) (P : Program) (a0 : AV) (H : AH) (R : Kt) : Prop :=
  wNew 2 (AV.cells? a0) H fun t1 H =>
  wGet (loadN 2 t1 H) H fun t11 H =>
  wCall E P 101 [t11] H fun t12 H =>
  wBool (eqA .iface t12 (.val (.nilIface))) H true fun t14 H =>
  wIf t14 (
    R (.tup [(.val (.slice none 0 0)), t12]) H) (
    wGet (loadN 2 t1 H) H fun t16 H =>
    wGet (faddr 0 t1) H fun t17 H =>
    wGet (load1 t17 H) H fun t18 H =>
    wGet (binA .add t18 (.val (.int .i64 1))) H fun t19 H =>
    wMake 1 8 [(.val (.int .i64 0))] t19 t19 H fun t20 H =>
    (wGet (loadN 2 t1 H) H (fun y H2 => y = t16 ∧ H2 = H)) ∧
    wAgg (fillA [(.val (.int .i64 0)), (.val (.slice none 0 0)), (.val (.slice none 0 0)), (.val (.slice none 0 0)), (.val (.int .i64 0))] [(0, 2, t16), (2, 1, t20)]) H fun t21 H =>
    wNew 5 (AV.cells? t21) H fun t22 H =>
    wCall E P 105 [t22] H fun t25 H =>
    wGet (extractA t25 0) H fun t26 H =>
    wGet (extractA t25 1) H fun t27 H =>
    wBool (eqA .iface t27 (.val (.nilIface))) H true fun t30 H =>
    wIf t30 (
      R (.tup [(.val (.slice none 0 0)), t27]) H) (
      wGet (unA .not t26) H fun t34 H =>
      wIf t34 (
        R (.tup [(.val (.slice none 0 0)), (.ifc 1 (.val (.int .i64 8)))]) H) (
        wGet (nilA t22) H fun t37 H =>
        wGet (faddr 2 t37) H fun t38 H =>
        wGet (load1 t38 H) H fun t39 H =>
        wGet (sliceA 1 t39 (some (.val (.int .i64 1))) none H) H fun t40 H =>
        wGet (lenA t40) H fun t41 H =>
        wLoop 2 (fun I1 => I1 (.val (.slice none 0 0)) (.val (.int .i64 0)) H) fun I1 t8 t42 H =>
          wGet (binA .lss t42 t41) H fun t43 H =>
          wIf t43 (
            wGet (iaddr 1 t40 t42) H fun t44 H =>
            wGet (load1 t44 H) H fun t45 H =>
            wGet (binA .eql t45 (.val (.int .i64 1))) H fun t48 H =>
            wNewS 1 1 (fillA (List.replicate 1 [(.val (.bool false))]).flatten [(0, 1, t48)]) H fun t49 H =>
            wApp 1 1 t8 t49 H fun t50 H =>
            wGet (binA .add t42 (.val (.int .i64 1))) H fun t51 H =>
            I1 t50 t51 H) (
            R (.tup [t8, (.val (.nilIface))]) H))))

/-- signalbox/gate.Check -/
def gate_Check (E : Env) (P : Program) (a0 : AV) (H : AH) (R : Kt) : Prop :=
  wNew 2 (AV.cells? a0) H fun t1 H =>
  wGet (faddr 0 t1) H fun t5 H =>
  wGet (load1 t5 H) H fun t6 H =>
  wGet (binA .lss t6 (.val (.int .i64 0))) H fun t7 H =>
  wGuard t7 false H (fun k => wGet (faddr 0 t1) H k) fun t9 H =>
  wGuard t7 false H (fun k => wGet (load1 t9 H) H k) fun t10 H =>
  wGuard t7 false H (fun k => wGet (binA .gtr t10 (.val (.int .i64 1000))) H k) fun t11 H =>
  wGet (pickA t7 (.val (.bool true)) t11) H fun t12 H =>
  wGuard t12 false H (fun k => wGet (faddr 1 t1) H k) fun t14 H =>
  wGuard t12 false H (fun k => wGet (load1 t14 H) H k) fun t15 H =>
  wGuard t12 false H (fun k => wGet (lenA t15) H k) fun t16 H =>
  wGuard t12 false H (fun k => wGet (binA .gtr t16 (.val (.int .i64 3000))) H k) fun t17 H =>
  wGet (pickA t12 (.val (.bool true)) t17) H fun t18 H =>
  wIf t18 (
    R (.ifc 1 (.val (.int .i64 4))) H) (
    wGet (faddr 1 t1) H fun t20 H =>
    wGet (load1 t20 H) H fun t21 H =>
    wGet (lenA t21) H fun t22 H =>
    wLoop 1 (fun I1 => I1 (.val (.int .i64 0)) H) fun I1 t23 H =>
      wGet (binA .lss t23 t22) H fun t24 H =>
      wIf t24 (
        wGet (iaddr 1 t21 t23) H fun t26 H =>
        wGet (load1 t26 H) H fun t27 H =>
        wCall E P 59 [t27, (.fn 106 [] [t1])] H fun t30 H =>
        wIf t30 (
          wAgg (fillA [(.val (.int .i64 0)), (.val (.int .i64 0))] [(0, 1, (.val (.int .i64 2))), (1, 1, t23)]) H fun t32 H =>
          wNew 2 (AV.cells? t32) H fun t33 H =>
          R (.ifc 2 t33) H) (
          wGet (binA .add t23 (.val (.int .i64 1))) H fun t35 H =>
          I1 t35 H)) (
        R (.val (.nilIface)) H))

/-- (*signalbox/gate.solver).search -/
def pgate_solver_search (E : Env) (P : Program) (a0 : AV) (H : AH) (R : Kt) : Prop :=
  wGet (nilA a0) H fun t12 H =>
  wGet (faddr 4 t12) H fun t13 H =>
  wGet (load1 t13 H) H fun t14 H =>
  wGet (binA .add t14 (.val (.int .i64 1))) H fun t15 H =>
  wGet (nilA a0) H fun t16 H =>
  wGet (faddr 4 t16) H fun t17 H =>
  wPut (store1 t17 t15 H) fun _u H =>
  wGet (nilA a0) H fun t19 H =>
  wGet (faddr 4 t19) H fun t20 H =>
  wGet (load1 t20 H) H fun t21 H =>
  wGet (binA .gtr t21 (.val (.int .i64 20000))) H fun t22 H =>
  wIf t22 (
    R (.tup [(.val (.bool false)), (.ifc 1 (.val (.int .i64 4)))]) H) (
    wGet (nilA a0) H fun t25 H =>
    wGet (faddr 3 t25) H fun t26 H =>
    wGet (load1 t26 H) H fun t27 H =>
    wGet (lenA t27) H fun t28 H =>
    wCall E P 108 [a0] H fun t30 H =>
    wGet (unA .not t30) H fun t31 H =>
    wIf t31 (
      wCall E P 109 [a0, t28] H fun t34 H =>
      R (.tup [(.val (.bool false)), (.val (.nilIface))]) H) (
      wGet (nilA a0) H fun t36 H =>
      wGet (faddr 2 t36) H fun t37 H =>
      wGet (load1 t37 H) H fun t38 H =>
      wGet (sliceA 1 t38 (some (.val (.int .i64 1))) none H) H fun t39 H =>
      wCall E P 110 [t39, (.val (.int .i64 0))] H fun t40 H =>
      wGet (binA .add t40 (.val (.int .i64 1))) H fun t41 H =>
      wGet (binA .eql t41 (.val (.int .i64 0))) H fun t43 H =>
      wIf t43 (
        R (.tup [(.val (.bool true)), (.val (.nilIface))]) H) (
        wGet (unA .neg t41) H fun t46 H =>
        wNewS 1 2 (fillA (List.replicate 2 [(.val (.int .i64 0))]).flatten [(0, 1, t41), (1, 1, t46)]) H fun t47 H =>
        wGet (lenA t47) H fun t48 H =>
        wLoop 1 (fun I1 => I1 (.val (.int .i64 0)) H) fun I1 t49 H =>
          wGet (binA .lss t49 t48) H fun t50 H =>
          wIf t50 (
            wGet (iaddr 1 t47 t49) H fun t51 H =>
            wGet (load1 t51 H) H fun t52 H =>
            wGet (nilA a0) H fun t54 H =>
            wGet (faddr 3 t54) H fun t55 H =>
            wGet (load1 t55 H) H fun t56 H =>
            wGet (lenA t56) H fun t57 H =>
            wCall E P 111 [a0, t52] H fun t60 H =>
            wCall E P 105 [a0] H fun t63 H =>
            wGet (extractA t63 0) H fun t64 H =>
            wGet (extractA t63 1) H fun t65 H =>
            wGuard t64 false H (fun k => k t65 H) fun t68 H =>
            wGuard t64 false H (fun k => wBool (eqA .iface t68 (.val (.nilIface))) H true k) fun t69 H =>
            wGet (pickA t64 (.val (.bool true)) t69) H fun t70 H =>
            wIf t70 (
              R (.tup [t64, t65]) H) (
              wCall E P 109 [a0, t57] H fun t75 H =>
              wGet (binA .add t49 (.val (.int .i64 1))) H fun t76 H =>
              I1 t76 H)) (
            wCall E P 109 [a0, t28] H fun t79 H =>
            R (.tup [(.val (.bool false)), (.val (.nilIface))]) H))))

/-- signalbox/gate.Check$1 -/
def gate_Check_c1 (E : Env) (P : Program) (a0 a1 : AV) (H : AH) (R : Kt) : Prop :=
  wGet (binA .eql a0 (.val (.int .i64 0))) H fun t5 H =>
  wGuard t5 false H (fun k => k a0 H) fun t7 H =>
  wGuard t5 false H (fun k => wGet (faddr 0 a1) H k) fun t8 H =>
  wGuard t5 false H (fun k => wGet (load1 t8 H) H k) fun t9 H =>
  wGuard t5 false H (fun k => wGet (binA .gtr t7 t9) H k) fun t10 H =>
  wGet (pickA t5 (.val (.bool true)) t10) H fun t11 H =>
  wGuard t11 false H (fun k => k a0 H) fun t13 H =>
  wGuard t11 false H (fun k => wGet (faddr 0 a1) H k) fun t14 H =>
  wGuard t11 false H (fun k => wGet (load1 t14 H) H k) fun t15 H =>
  wGuard t11 false H (fun k => wGet (unA .neg t15) H k) fun t16 H =>
  wGuard t11 false H (fun k => wGet (binA .lss t13 t16) H k) fun t17 H =>
  wGet (pickA t11 (.val (.bool true)) t17) H fun t18 H =>
  R t18 H

/-- (*signalbox/gate.solver).spread -/
def pgate_solver_spread (E : Env) (P : Program) (a0 : AV) (H : AH) (R : Kt) : Prop :=
  wLoop 1 (fun I1 => I1 (.val (.bool true)) H) fun I1 t3 H =>
    wIf t3 (
      wGet (nilA a0) H fun t13 H =>
      wGet (faddr 0 t13) H fun t14 H =>
      wGet (faddr 1 t14) H fun t15 H =>
      wGet (load1 t15 H) H fun t16 H =>
      wGet (lenA t16) H fun t17 H =>
      wLoop 2 (fun I2 => I2 (.val (.bool false)) (.val (.int .i64 0)) H) fun I2 t3_1 t18 H =>
        wGet (binA .lss t18 t17) H fun t19 H =>
        wIf t19 (
          wJoin 1 (fun J3 =>
            wGet (iaddr 1 t16 t18) H fun t20 H =>
            wGet (load1 t20 H) H fun t21 H =>
            wGet (lenA t21) H fun t23 H =>
            wLoop 4 (fun I4 => I4 (.val (.int .i64 0)) (.val (.int .i64 0)) (.val (.bool false)) (.val (.int .i64 0)) H) fun I4 t6 t7 t8 t24 H =>
              wGet (binA .lss t24 t23) H fun t25 H =>
              wIf t25 (
                wJoin 3 (fun J5 =>
                  wGet (iaddr 1 t21 t24) H fun t26 H =>
                  wGet (load1 t26 H) H fun t27 H =>
                  wCall E P 112 [a0, t27] H fun t30 H =>
                  wGet (binA .eql t30 (.val (.int .i64 1))) H fun t32 H =>
                  wIf t32 (
                    J5 t6 t7 (.val (.bool true)) H) (
                    wGet (binA .eql t30 (.val (.int .i64 0))) H fun t34 H =>
                    wIf t34 (
                      wJoin 1 (fun J6 =>
                        wGet (binA .neq t27 t6) H fun t37 H =>
                        wIf t37 (
                          wGet (binA .add t7 (.val (.int .i64 1))) H fun t39 H =>
                          J6 t39 H) (
                          J6 t7 H)) fun t7_1 H =>
                        J5 t27 t7_1 t8 H) (
                      J5 t6 t7 t8 H))) fun t6_1 t7_2 t8_1 H =>
                  wGet (binA .add t24 (.val (.int .i64 1))) H fun t41 H =>
                  I4 t6_1 t7_2 t8_1 t41 H) (
                wGuard t8 false H (fun k => k t7 H) fun t48 H =>
                wGuard t8 false H (fun k => wGet (binA .gtr t48 (.val (.int .i64 1))) H k) fun t49 H =>
                wGet (pickA t8 (.val (.bool true)) t49) H fun t50 H =>
                wIf t50 (
                  J3 t3_1 H) (
                  wGet (binA .eql t7 (.val (.int .i64 0))) H fun t53 H =>
                  wIf t53 (
                    R (.val (.bool false)) H) (
                    wCall E P 111 [a0, t6] H fun t44 H =>
                    J3 (.val (.bool true)) H)))) fun t3_2 H =>
            wGet (binA .add t18 (.val (.int .i64 1))) H fun t54 H =>
            I2 t3_2 t54 H) (
          I1 t3_1 H)) (
      R (.val (.bool true)) H)

/-- (*signalbox/gate.solver).back -/
def pgate_solver_back (E : Env) (P : Program) (a0 a1 : AV) (H : AH) (R : Kt) : Prop :=
  wGet (nilA a0) H fun t7 H =>
  wGet (faddr 3 t7) H fun t8 H =>
  wGet (load1 t8 H) H fun t9 H =>
  wGet (sliceA 1 t9 (some a1) none H) H fun t11 H =>
  wGet (lenA t11) H fun t12 H =>
  wLoop 1 (fun I1 => I1 (.val (.int .i64 0)) H) fun I1 t13 H =>
    wGet (binA .lss t13 t12) H fun t14 H =>
    wIf t14 (
      wGet (iaddr 1 t11 t13) H fun t15 H =>
      wGet (load1 t15 H) H fun t16 H =>
      wGet (nilA a0) H fun t18 H =>
      wGet (faddr 2 t18) H fun t19 H =>
      wGet (load1 t19 H) H fun t20 H =>
      wGet (iaddr 1 t20 t16) H fun t22 H =>
      wPut (store1 t22 (.val (.int .i64 0)) H) fun _u H =>
      wGet (binA .add t13 (.val (.int .i64 1))) H fun t23 H =>
      I1 t23 H) (
      wGet (nilA a0) H fun t26 H =>
      wGet (faddr 3 t26) H fun t27 H =>
      wGet (load1 t27 H) H fun t28 H =>
      wGet (sliceA 1 t28 none (some a1) H) H fun t30 H =>
      wGet (nilA a0) H fun t31 H =>
      wGet (faddr 3 t31) H fun t32 H =>
      wPut (store1 t32 t30 H) fun _u H =>
      R (.tup []) H)

/-- slices.Index[[]int,int] -/
def slices_Index_Lint_int (E : Env) (P : Program) (a0 a1 : AV) (H : AH) (R : Kt) : Prop :=
  wGet (lenA a0) H fun t7 H =>
  wLoop 1 (fun I1 => I1 (.val (.int .i64 0)) H) fun I1 t8 H =>
    wGet (binA .lss t8 t7) H fun t9 H =>
    wIf t9 (
      wGet (iaddr 1 a0 t8) H fun t14 H =>
      wGet (load1 t14 H) H fun t15 H =>
      wGet (binA .eql a1 t15) H fun t16 H =>
      wIf t16 (
        R t8 H) (
        wGet (binA .add t8 (.val (.int .i64 1))) H fun t18 H =>
        I1 t18 H)) (
      R (.val (.int .i64 (-1))) H)

/-- (*signalbox/gate.solver).set -/
def pgate_solver_set (E : Env) (P : Program) (a0 a1 : AV) (H : AH) (R : Kt) : Prop :=
  wJoin 0 (fun J1 =>
    wGet (binA .lss a1 (.val (.int .i64 0))) H fun t5 H =>
    wIf t5 (
      wGet (nilA a0) H fun t7 H =>
      wGet (faddr 2 t7) H fun t8 H =>
      wGet (load1 t8 H) H fun t9 H =>
      wGet (unA .neg a1) H fun t11 H =>
      wGet (iaddr 1 t9 t11) H fun t12 H =>
      wPut (store1 t12 (.val (.int .i64 (-1))) H) fun _u H =>
      J1 H) (
      wGet (nilA a0) H fun t14 H =>
      wGet (faddr 2 t14) H fun t15 H =>
      wGet (load1 t15 H) H fun t16 H =>
      wGet (iaddr 1 t16 a1) H fun t18 H =>
      wPut (store1 t18 (.val (.int .i64 1)) H) fun _u H =>
      J1 H)) fun H =>
    wGet (nilA a0) H fun t21 H =>
    wGet (faddr 3 t21) H fun t22 H =>
    wGet (load1 t22 H) H fun t23 H =>
    wGet (unA .neg a1) H fun t26 H =>
    wGet (minA true a1 t26) H fun t27 H =>
    wNewS 1 1 (fillA (List.replicate 1 [(.val (.int .i64 0))]).flatten [(0, 1, t27)]) H fun t28 H =>
    wApp 1 8 t23 t28 H fun t29 H =>
    wGet (nilA a0) H fun t30 H =>
    wGet (faddr 3 t30) H fun t31 H =>
    wPut (store1 t31 t29 H) fun _u H =>
    R (.tup []) H

/-- (*signalbox/gate.solver).is -/
def pgate_solver_is (E : Env) (P : Program) (a0 a1 : AV) (H : AH) (R : Kt) : Prop :=
  wGet (binA .lss a1 (.val (.int .i64 0))) H fun t6 H =>
  wIf t6 (
    wGet (nilA a0) H fun t8 H =>
    wGet (faddr 2 t8) H fun t9 H =>
    wGet (load1 t9 H) H fun t10 H =>
    wGet (unA .neg a1) H fun t12 H =>
    wGet (iaddr 1 t10 t12) H fun t13 H =>
    wGet (load1 t13 H) H fun t14 H =>
    wGet (unA .neg t14) H fun t15 H =>
    R t15 H) (
    wGet (nilA a0) H fun t17 H =>
    wGet (faddr 2 t17) H fun t18 H =>
    wGet (load1 t18 H) H fun t19 H =>
    wGet (iaddr 1 t19 a1) H fun t21 H =>
    wGet (load1 t21 H) H fun t22 H =>
    R t22 H)

end Go.Sc.F
namespace Go.Sc
open Go
set_option linter.unusedSimpArgs false
set_option linter.unusedVariables false
set_option linter.unnecessarySimpa false
def TR (tr : List Int) (x : AV) (tb : List Blk) : Prop := (x = nilS ∧ tr = [] ∧ tb = []) ∨ ∃ g2, x = .slL 2 0 tr.length g2 ∧ tb = [.cells g2 1 (tr.map fun z => Z z)]
def gH (ga gs V : Nat) (all : List (List Int)) (of : List Int) (x : AV) (st : Int) (tb : List Blk) (c : Nat) : AH := ⟨.cells ga 1 (of.map fun z => Z z) :: .cells gs 5 [Z V, LLI all, .slL 0 0 (V + 1) ga, x, Z st] :: tb, c⟩
def GH (ga gs V : Nat) (all : List (List Int)) (of tr : List Int) (st : Int) (H : AH) : Prop := ∃ x tb c, H = gH ga gs V all of x st tb c ∧ TR tr x tb
theorem TR.scalar {tr : List Int} {x : AV} {tb : List Blk} (h : TR tr x tb) : x.scalar = true := by
  rcases h with ⟨rfl, _, _⟩ | ⟨g, rfl, _⟩ <;> rfl
theorem TR.len {tr : List Int} {x : AV} {tb : List Blk} (h : TR tr x tb) : lenA x = some (Z tr.length) := by
  rcases h with ⟨rfl, rfl, _⟩ | ⟨g, rfl, _⟩ <;> rfl
structure SolverBodies (E : Env) (P : Program) : Prop where
  search : Body1 E P 105 F.pgate_solver_search
  spread : Body1 E P 108 F.pgate_solver_spread
  back : Body2 E P 109 F.pgate_solver_back
  index : Body2 E P 110 F.slices_Index_Lint_int
  set : Body2 E P 111 F.pgate_solver_set
  is : Body2 E P 112 F.pgate_solver_is
section
variable {E : Env} {P : Program} {ga gs V : Nat} {all : List (List Int)}
theorem neg_Z {x : Int} (h : -1000000 ≤ x ∧ x ≤ 1000000) : unA .neg (Z x) = some (Z (-x)) := by
  rw [unA_neg', wrap_i64 (by omega)]
  congr 3; omega
theorem is_spec (B : SolverBodies E P) {of : List Int} (hs : Sol V of) (hV : V ≤ 1000) {x : Int} (hx : okLit V x) (xx : AV) (st : Int) (tb : List Blk) (c : Nat) : ACalls E P 112 [.ptrL 1 0 gs, Z x] (gH ga gs V all of xx st tb c) fun r H' => r = Z (lv of x) ∧ H' = gH ga gs V all of xx st tb c := by
  refine B.is _ _ _ _ ?_
  unfold F.pgate_solver_is gH
  have hl := hs.len
  obtain ⟨h0, h1, h2⟩ := hx
  simp only [nd0, Y1n, Y1o, Y1p, Y1q, Y1w, Y1x, Y1y, Y1z, Y20, Y21, Y28, Y2a, AV.cells?, Nat.reduceAdd, Nat.reduceMul]
  by_cases hn : x < 0
  · simp only [nd0, Y1n, Y1o, Y1p, Y1q, Y1w, Y1x, Y1y, Y1z, Y20, Y21, Y28, Y2a, AV.cells?, Nat.reduceAdd, Nat.reduceMul, decide_eq_true hn]
    rw [neg_Z (by omega), show (-x) = (((-x).toNat : Nat) : Int) by omega]
    simp only [nd0, Y1n, Y1o, Y1p, Y1q, Y1w, Y1x, Y1y, Y1z, Y20, Y21, Y28, Y2a, AV.cells?, Nat.reduceAdd, Nat.reduceMul]
    rw [iaddr_Ln (by omega)]
    simp only [nd0, Y1n, Y1o, Y1p, Y1q, Y1w, Y1x, Y1y, Y1z, Y20, Y21, Y28, Y2a, AV.cells?, Nat.reduceAdd, Nat.reduceMul, cell_at (show (-x).toNat < of.length by omega)]
    have hv := hs.val (-x).toNat
    rw [neg_Z (by omega)]
    simp only [nd0, Y1n, Y1o, Y1p, Y1q, Y1w, Y1x, Y1y, Y1z, Y20, Y21, Y28, Y2a, AV.cells?, Nat.reduceAdd, Nat.reduceMul]
    exact ⟨by rw [lv, if_pos hn], trivial⟩
  · simp only [nd0, Y1n, Y1o, Y1p, Y1q, Y1w, Y1x, Y1y, Y1z, Y20, Y21, Y28, Y2a, AV.cells?, Nat.reduceAdd, Nat.reduceMul, decide_eq_false hn]
    obtain ⟨y, rfl⟩ : ∃ y : Nat, x = y := ⟨x.toNat, by omega⟩
    rw [iaddr_Ln (by omega)]
    simp only [nd0, Y1n, Y1o, Y1p, Y1q, Y1w, Y1x, Y1y, Y1z, Y20, Y21, Y28, Y2a, AV.cells?, Nat.reduceAdd, Nat.reduceMul, cell_at (show y < of.length by omega)]
    exact ⟨by rw [lv, if_neg (by omega)]; simp, trivial⟩
theorem set_spec (B : SolverBodies E P) {of tr : List Int} (hs : Sol V of) (hV : V ≤ 1000) {x : Int} (hx : okLit V x) (htr : tr.length < 100000) {st : Int} {H : AH} (hH : GH ga gs V all of tr st H) : ACalls E P 111 [.ptrL 1 0 gs, Z x] H fun r H' => r = .tup [] ∧ GH ga gs V all (litSet of x) (tr ++ [(vr x : Int)]) st H' := by
  obtain ⟨xx, tb, c, rfl, ht⟩ := hH
  refine B.set _ _ _ _ ?_
  unfold F.pgate_solver_set gH
  have hl := hs.len
  obtain ⟨h0, h1, h2⟩ := hx
  have hset : ∀ (v : Int) (i : Nat), (of.map fun z => Z z).set i (Z v) = (of.set i v).map fun z => Z z := fun v i => by rw [List.map_set]
  refine wJoin.zero (fun H => H = gH ga gs V all (litSet of x) xx st tb c) ?_ ?_
  · simp only [nd0, Y1n, Y1o, Y1p, Y1q, Y1w, Y1x, Y1y, Y1z, Y20, Y21, Y28, Y2a, AV.cells?, Nat.reduceAdd, Nat.reduceMul]
    by_cases hn : x < 0
    · simp only [nd0, Y1n, Y1o, Y1p, Y1q, Y1w, Y1x, Y1y, Y1z, Y20, Y21, Y28, Y2a, AV.cells?, Nat.reduceAdd, Nat.reduceMul, decide_eq_true hn]
      rw [neg_Z (by omega), show (-x) = (((-x).toNat : Nat) : Int) by omega]
      simp only [nd0, Y1n, Y1o, Y1p, Y1q, Y1w, Y1x, Y1y, Y1z, Y20, Y21, Y28, Y2a, AV.cells?, Nat.reduceAdd, Nat.reduceMul]
      rw [iaddr_Ln (by omega)]
      simp only [nd0, Y1n, Y1o, Y1p, Y1q, Y1w, Y1x, Y1y, Y1z, Y20, Y21, Y28, Y2a, AV.cells?, Nat.reduceAdd, Nat.reduceMul]
      rw [store1_L rfl]
      simp only [nd0, Y1n, Y1o, Y1p, Y1q, Y1w, Y1x, Y1y, Y1z, Y20, Y21, Y28, Y2a, AV.cells?, Nat.reduceAdd, Nat.reduceMul, List.length_map, show (-x).toNat < of.length by omega, hset]
      refine gh0.mk ?_
      unfold gH litSet
      rw [if_pos hn, show vr x = (-x).toNat by unfold vr; omega]
    · simp only [nd0, Y1n, Y1o, Y1p, Y1q, Y1w, Y1x, Y1y, Y1z, Y20, Y21, Y28, Y2a, AV.cells?, Nat.reduceAdd, Nat.reduceMul, decide_eq_false hn]
      rw [show x = ((x.toNat : Nat) : Int) by omega]
      rw [iaddr_Ln (by omega)]
      simp only [nd0, Y1n, Y1o, Y1p, Y1q, Y1w, Y1x, Y1y, Y1z, Y20, Y21, Y28, Y2a, AV.cells?, Nat.reduceAdd, Nat.reduceMul]
      rw [store1_L rfl]
      simp only [nd0, Y1n, Y1o, Y1p, Y1q, Y1w, Y1x, Y1y, Y1z, Y20, Y21, Y28, Y2a, AV.cells?, Nat.reduceAdd, Nat.reduceMul, List.length_map, show x.toNat < of.length by omega, hset]
      refine gh0.mk ?_
      unfold gH litSet
      rw [if_neg (by omega), show vr ((x.toNat : Nat) : Int) = x.toNat by unfold vr; omega]
  · rintro H rfl
    unfold gH
    simp only [nd0, Y1n, Y1o, Y1p, Y1q, Y1w, Y1x, Y1y, Y1z, Y20, Y21, Y28, Y2a, AV.cells?, Nat.reduceAdd, Nat.reduceMul]
    rw [neg_Z (by omega)]
    simp only [nd0, Y1n, Y1o, Y1p, Y1q, Y1w, Y1x, Y1y, Y1z, Y20, Y21, Y28, Y2a, AV.cells?, Nat.reduceAdd, Nat.reduceMul]
    have hmx : minA true (Z x) (Z (-x)) = some (Z (vr x : Int)) := by
      simp only [minA, if_true]
      unfold vr
      by_cases h : (-x : Int) > x
      · rw [if_pos h]; congr 3; omega
      · rw [if_neg h]; congr 3; omega
    rw [hmx]
    simp only [nd0, Y1n, Y1o, Y1p, Y1q, Y1w, Y1x, Y1y, Y1z, Y20, Y21, Y28, Y2a, AV.cells?, Nat.reduceAdd, Nat.reduceMul]
    refine wNewS.F' (l := [Z (vr x : Int)]) rfl rfl ?_
    rcases ht with ⟨rfl, rfl, rfl⟩ | ⟨g2, rfl, rfl⟩
    · refine ⟨_, _, .old (r := .slL 2 0 1 c) (H' := ⟨[.cells ga 1 ((litSet of x).map fun z => Z z), .cells gs 5 [Z V, LLI all, .slL 0 0 (V + 1) ga, nilS, Z st], .cells c 1 [Z (vr x : Int)]], c + 1⟩) rfl, ?_⟩
      simp only [nd0, Y1n, Y1o, Y1p, Y1q, Y1w, Y1x, Y1y, Y1z, Y20, Y21, Y28, Y2a, AV.cells?, Nat.reduceAdd, Nat.reduceMul]
      rw [store1_L rfl]
      simp only [nd0, Y1n, Y1o, Y1p, Y1q, Y1w, Y1x, Y1y, Y1z, Y20, Y21, Y28, Y2a, AV.cells?, Nat.reduceAdd, Nat.reduceMul, Nat.reduceLT]
      exact ⟨trivial, .slL 2 0 1 c, _, _, rfl, .inr ⟨c, rfl, rfl⟩⟩
    · have happ : appendA 1 8 (.slL 2 0 tr.length g2) (.slN [Z (vr x : Int)] 1) ⟨[.cells ga 1 ((litSet of x).map fun z => Z z), .cells gs 5 [Z V, LLI all, .slL 0 0 (V + 1) ga, .slL 2 0 tr.length g2, Z st], .cells g2 1 (tr.map fun z => Z z)], c⟩
          = some (.slL 2 0 (tr.length + 1) c, ⟨[.cells ga 1 ((litSet of x).map fun z => Z z), .cells gs 5 [Z V, LLI all, .slL 0 0 (V + 1) ga, .slL 2 0 tr.length g2, Z st], .cells c 1 ((tr ++ [(vr x : Int)]).map fun z => Z z)], c + 1⟩) := by
        have hb : (tr.length + 1) * 8 ≤ mostBytes ∧ tr.length + 1 ≤ mostBytes := by simp [mostBytes]; omega
        simp [appendA, cellsOfA, subL, AH.cells, AH.esz, hb, AV.scalar]
      refine ⟨_, _, .old happ, ?_⟩
      rw [store1_L rfl]
      simp only [nd0, Y1n, Y1o, Y1p, Y1q, Y1w, Y1x, Y1y, Y1z, Y20, Y21, Y28, Y2a, AV.cells?, Nat.reduceAdd, Nat.reduceMul, Nat.reduceLT]
      exact ⟨trivial, .slL 2 0 (tr.length + 1) c, _, _, rfl, .inr ⟨c, by simp, rfl⟩⟩
theorem back_spec (B : SolverBodies E P) {of tr : List Int} (hs : of.length = V + 1) (hV : V ≤ 1000) (htr : ∀ t ∈ tr, 1 ≤ t ∧ t ≤ V) (hlen : tr.length < 100000) {n : Nat} (hn : n ≤ tr.length) {st : Int} {H : AH} (hH : GH ga gs V all of tr st H) :
    ACalls E P 109 [.ptrL 1 0 gs, Z n] H fun r H' => r = .tup [] ∧ GH ga gs V all (reset of (tr.drop n)) (tr.take n) st H' := by
  obtain ⟨xx, tb, c, rfl, ht⟩ := hH
  have hset : ∀ (of : List Int) (v : Int) (i : Nat), (of.map fun z => Z z).set i (Z v) = (of.set i v).map fun z => Z z := fun of v i => by rw [List.map_set]
  rcases ht with ⟨rfl, rfl, rfl⟩ | ⟨g2, rfl, rfl⟩
  · have : n = 0 := by simpa using hn
    subst this
    refine B.back _ _ _ _ ?_
    unfold F.pgate_solver_back gH
    simp only [nd0, Y1n, Y1o, Y1p, Y1q, Y1w, Y1x, Y1y, Y1z, Y20, Y21, Y28, Y2a, AV.cells?, Nat.reduceAdd, Nat.reduceMul]
    have hsl : sliceA 1 nilS (some (.val (.int .i64 0))) none ⟨[.cells ga 1 (of.map fun z => Z z), .cells gs 5 [Z V, LLI all, .slL 0 0 (V + 1) ga, nilS, Z st]], c⟩ = some nilS := rfl
    rw [show ((0 : Nat) : Int) = 0 from rfl, hsl]
    simp only [nd0, Y1n, Y1o, Y1p, Y1q, Y1w, Y1x, Y1y, Y1z, Y20, Y21, Y28, Y2a, AV.cells?, Nat.reduceAdd, Nat.reduceMul]
    refine wLoop.one (fun m i H => H = gH ga gs V all of nilS st [] c ∧ i = Z 0) 0 (gh1.mk ⟨rfl, rfl⟩) ?_
    rintro m i H ⟨rfl, rfl⟩
    unfold gH
    simp only [nd0, Y1n, Y1o, Y1p, Y1q, Y1w, Y1x, Y1y, Y1z, Y20, Y21, Y28, Y2a, AV.cells?, Nat.reduceAdd, Nat.reduceMul, show ((0 : Nat) : Int) = 0 from rfl, Int.lt_irrefl]
    have hsl2 : sliceA 1 nilS none (some (.val (.int .i64 0))) ⟨[.cells ga 1 (of.map fun z => Z z), .cells gs 5 [Z V, LLI all, .slL 0 0 (V + 1) ga, nilS, Z st]], c⟩ = some nilS := rfl
    rw [hsl2]
    simp only [nd0, Y1n, Y1o, Y1p, Y1q, Y1w, Y1x, Y1y, Y1z, Y20, Y21, Y28, Y2a, AV.cells?, Nat.reduceAdd, Nat.reduceMul]
    rw [store1_L rfl]
    simp only [nd0, Y1n, Y1o, Y1p, Y1q, Y1w, Y1x, Y1y, Y1z, Y20, Y21, Y28, Y2a, AV.cells?, Nat.reduceAdd, Nat.reduceMul, Nat.reduceLT]
    exact ⟨trivial, nilS, [], c, rfl, .inl ⟨rfl, rfl, rfl⟩⟩
  · refine ACalls.mono (R := fun r H' => r = .tup [] ∧ H' = gH ga gs V all (reset of (tr.drop n)) (.slL 2 0 n g2) st [.cells g2 1 (tr.map fun z => Z z)] c) (B.back _ _ _ _ ?_) ?_
    case refine_2 =>
      rintro r H' ⟨rfl, rfl⟩
      refine ⟨.tup [], gH ga gs V all (reset of (tr.drop n)) (.slL 2 0 n g2) st [.cells g2 1 ((tr.map fun z => Z z).take n)] c, ?_, rfl, _, _, _, rfl, .inr ⟨g2, by rw [List.length_take, Nat.min_eq_left hn], by rw [List.map_take]⟩⟩
      exact ghost_kill (H := gH ga gs V all (reset of (tr.drop n)) (.slL 2 0 n g2) st [.cells g2 1 (tr.map fun z => Z z)] c) (H' := gH ga gs V all (reset of (tr.drop n)) (.slL 2 0 n g2) st [.cells g2 1 ((tr.map fun z => Z z).take n)] c) (S := fun _ => false) rfl (.keep rfl (KB.same _) (.keep rfl (KB.same _) (.keep rfl (KB.cut (n := n) (cs := tr.map fun z => Z z) (by simpa using hn)) .nil))) (FkL.same _)
    unfold F.pgate_solver_back gH
    simp only [nd0, Y1n, Y1o, Y1p, Y1q, Y1w, Y1x, Y1y, Y1z, Y20, Y21, Y28, Y2a, AV.cells?, Nat.reduceAdd, Nat.reduceMul]
    have hesz : ∀ (o : List Int) (x : AV) c, (⟨[.cells ga 1 (o.map fun z => Z z), .cells gs 5 [Z V, LLI all, .slL 0 0 (V + 1) ga, x, Z st], .cells g2 1 (tr.map fun z => Z z)], c⟩ : AH).esz 2 g2 = some 1 := fun o x c => by simp [AH.esz]
    have hsl : ∀ (o : List Int) (x : AV) c, sliceA 1 (.slL 2 0 tr.length g2) (some (Z (n : Int))) none ⟨[.cells ga 1 (o.map fun z => Z z), .cells gs 5 [Z V, LLI all, .slL 0 0 (V + 1) ga, x, Z st], .cells g2 1 (tr.map fun z => Z z)], c⟩ = some (.slL 2 n (tr.length - n) g2) := fun o x c => by
      simp only [sliceA, bnd, Option.bind_some, hesz, true_and]
      rw [if_pos (by omega)]
      simp
    rw [hsl]
    simp only [nd0, Y1n, Y1o, Y1p, Y1q, Y1w, Y1x, Y1y, Y1z, Y20, Y21, Y28, Y2a, AV.cells?, Nat.reduceAdd, Nat.reduceMul]
    have hsplit : ∀ i, i < tr.length - n → ((tr.drop n).take (i + 1)) = (tr.drop n).take i ++ [cell tr (n + i)] := fun i hi => by
      rw [List.take_succ_eq_append_getElem (by simp; omega)]
      congr 2
      simp [cell, List.getElem_drop, List.getElem?_eq_getElem (show n + i < tr.length by omega)]
    refine wLoop.one (fun m x H => ∃ i : Nat, i + m = tr.length - n ∧ x = Z i ∧ H = gH ga gs V all (reset of ((tr.drop n).take i)) (.slL 2 0 tr.length g2) st [.cells g2 1 (tr.map fun z => Z z)] c) (tr.length - n) (gh1.mk ⟨0, by omega, rfl, by simp [reset, gH]⟩) ?_
    rintro m x H ⟨i, him, rfl, rfl⟩
    unfold gH
    by_cases hi : i < tr.length - n
    · simp only [nd0, Y1n, Y1o, Y1p, Y1q, Y1w, Y1x, Y1y, Y1z, Y20, Y21, Y28, Y2a, AV.cells?, Nat.reduceAdd, Nat.reduceMul, decide_eq_true (show (i : Int) < ((tr.length - n : Nat) : Int) by omega)]
      rw [iaddr_L (by omega)]
      have hg : (tr.map fun z => Z z)[n + i]? = some (Z (cell tr (n + i))) := cell_at (by omega)
      simp only [nd0, Y1n, Y1o, Y1p, Y1q, Y1w, Y1x, Y1y, Y1z, Y20, Y21, Y28, Y2a, AV.cells?, Nat.reduceAdd, Nat.reduceMul, hg]
      have hmem : cell tr (n + i) ∈ tr := by
        unfold cell; rw [List.getElem?_eq_getElem (show n + i < tr.length by omega)]; exact List.getElem_mem _
      have hb := htr _ hmem
      have hrl : (reset of ((tr.drop n).take i)).length = V + 1 := by rw [reset_len]; exact hs
      rw [iaddr_L (by omega)]
      simp only [nd0, Y1n, Y1o, Y1p, Y1q, Y1w, Y1x, Y1y, Y1z, Y20, Y21, Y28, Y2a, AV.cells?, Nat.reduceAdd, Nat.reduceMul]
      rw [store1_L rfl]
      simp only [nd0, Y1n, Y1o, Y1p, Y1q, Y1w, Y1x, Y1y, Y1z, Y20, Y21, Y28, Y2a, AV.cells?, Nat.reduceAdd, Nat.reduceMul, List.length_map, show (cell tr (n + i)).toNat < (reset of ((tr.drop n).take i)).length by omega, hset]
      rw [binA_succ (by omega)]
      simp only [nd0, Y1n, Y1o, Y1p, Y1q, Y1w, Y1x, Y1y, Y1z, Y20, Y21, Y28, Y2a, AV.cells?, Nat.reduceAdd, Nat.reduceMul]
      refine back1.mk (m - 1) (by omega) ⟨i + 1, by omega, rfl, ?_⟩
      rw [hsplit i hi, reset_snoc]
    · have : i = tr.length - n := by omega
      subst this
      simp only [nd0, Y1n, Y1o, Y1p, Y1q, Y1w, Y1x, Y1y, Y1z, Y20, Y21, Y28, Y2a, AV.cells?, Nat.reduceAdd, Nat.reduceMul, Int.lt_irrefl]
      have hsl2 : ∀ (o : List Int) (x : AV) c, sliceA 1 (.slL 2 0 tr.length g2) none (some (Z (n : Int))) ⟨[.cells ga 1 (o.map fun z => Z z), .cells gs 5 [Z V, LLI all, .slL 0 0 (V + 1) ga, x, Z st], .cells g2 1 (tr.map fun z => Z z)], c⟩ = some (.slL 2 0 n g2) := fun o x c => by
        simp only [sliceA, bnd, Option.bind_some, hesz, true_and]
        rw [if_pos (by omega)]
        try simp
      rw [hsl2]
      simp only [nd0, Y1n, Y1o, Y1p, Y1q, Y1w, Y1x, Y1y, Y1z, Y20, Y21, Y28, Y2a, AV.cells?, Nat.reduceAdd, Nat.reduceMul]
      rw [store1_L rfl]
      simp only [nd0, Y1n, Y1o, Y1p, Y1q, Y1w, Y1x, Y1y, Y1z, Y20, Y21, Y28, Y2a, AV.cells?, Nat.reduceAdd, Nat.reduceMul, Nat.reduceLT]
      have e : (tr.drop n).take (tr.length - n) = tr.drop n := List.take_of_length_le (by simp)
      rw [e]
      exact ⟨trivial, rfl⟩
theorem tr_grow {of tr of' tr' : List Int} (hg : Grow V of tr of' tr') (h : ∀ t ∈ tr, 1 ≤ t ∧ t ≤ V) : ∀ t ∈ tr', 1 ≤ t ∧ t ≤ V := by
  obtain ⟨n, rfl, h2, _⟩ := hg
  intro t ht
  rcases List.mem_append.1 ht with ht | ht
  · exact h t ht
  · exact ⟨(h2 t ht).1, (h2 t ht).2.1⟩
set_option maxHeartbeats 1000000 in
theorem spread_spec (B : SolverBodies E P) (hV : V ≤ 1000) (hall : ∀ c ∈ all, ∀ x ∈ c, okLit V x) (hn1 : all.length ≤ 4000) (hn2 : ∀ c ∈ all, c.length ≤ 1000) {of tr : List Int} (hs : Sol V of) (hb : tr.length + opens V of ≤ V) {st : Int} {H : AH} (hH : GH ga gs V all of tr st H) :
    ACalls E P 108 [.ptrL 1 0 gs] H fun r H' => ∃ b of' tr', r = Bo b ∧ Sol V of' ∧ Grow V of tr of' tr' ∧ SpreadOk V all of of' b ∧ tr'.length + opens V of' ≤ V ∧ GH ga gs V all of' tr' st H' := by
  refine B.spread _ _ _ ?_
  unfold F.pgate_solver_spread
  refine wLoop.one (fun m t H => ∃ (b : Bool) (o u : List Int), t = Bo b ∧ m = opens V o + (if b then 1 else 0) ∧ Sol V o ∧ Grow V of tr o u ∧ (∀ a, Sats a all → Exts V a of → Exts V a o) ∧ u.length + opens V o ≤ V ∧ GH ga gs V all o u st H ∧ (b = false → ∀ c ∈ all, (∃ x ∈ c, lv o x = 1) ∨ ∃ x ∈ c, lv o x = 0 ∧ ∃ y ∈ c, lv o y = 0 ∧ x ≠ y)) (opens V of + 1)
    (gh1.mk ⟨true, of, tr, rfl, rfl, hs, .refl _ _ _, fun _ _ h => h, hb, hH, by simp⟩) ?_
  rintro m t H ⟨b, o, u, rfl, rfl, hso, hgo, himp, hbo, hHo, hdone⟩
  cases b with
  | false =>
    simp only [nd0, Y1n, Y1o, Y1p, Y1q, Y1w, Y1x, Y1y, Y1z, Y20, Y21, Y28, Y2a, AV.cells?, Nat.reduceAdd, Nat.reduceMul]
    exact ⟨true, o, u, rfl, hso, hgo, ⟨himp, by simp, fun _ => hdone rfl⟩, hbo, hHo⟩
  | true =>
  obtain ⟨xx, tb, c, hHe, ht⟩ := id hHo
  have hHe2 : H = gH ga gs V all o xx st tb c := hHe
  subst hHe
  simp only [nd0, Y1n, Y1o, Y1p, Y1q, Y1w, Y1x, Y1y, Y1z, Y20, Y21, Y28, Y2a, AV.cells?, Nat.reduceAdd, Nat.reduceMul]
  have hld : load1 (.ptrL 1 1 gs) (gH ga gs V all o xx st tb c) = some (LLI all) := by simp [gH, load1_L, blkCells_self]
  have hbs : (gH ga gs V all o xx st tb c).bs[1]? = some (.cells gs 5 [Z V, LLI all, .slL 0 0 (V + 1) ga, xx, Z st]) := rfl
  simp only [nd0, Y1n, Y1o, Y1p, Y1q, Y1w, Y1x, Y1y, Y1z, Y20, Y21, Y28, Y2a, AV.cells?, Nat.reduceAdd, Nat.reduceMul, hbs, lenA_LLI]
  refine wLoop.two (fun m t i H => ∃ (b : Bool) (o' u' : List Int) (pre rest : List (List Int)), t = Bo b ∧ all = pre ++ rest ∧ m = rest.length ∧ i = Z pre.length ∧ Sol V o' ∧ Grow V o u o' u' ∧ (∀ a, Sats a all → Exts V a of → Exts V a o') ∧ u'.length + opens V o' ≤ V ∧ GH ga gs V all o' u' st H ∧
      (b = true → opens V o' < opens V o) ∧ (b = false → o' = o ∧ ∀ c ∈ pre, (∃ x ∈ c, lv o x = 1) ∨ ∃ x ∈ c, lv o x = 0 ∧ ∃ y ∈ c, lv o y = 0 ∧ x ≠ y)) all.length
    (gh2.mk ⟨false, o, u, [], all, rfl, rfl, rfl, rfl, hso, .refl _ _ _, himp, hbo, hHo, by simp, fun _ => ⟨rfl, by simp⟩⟩) ?_
  rintro m2 t i H2 ⟨b, o', u', pre, rest, rfl, hpr, rfl, rfl, hso', hgo', himp', hbo', hH', hb1, hb0⟩
  cases rest with
  | nil =>
    rw [List.append_nil] at hpr
    rw [← hpr] at hb0
    simp only [nd0, Y1n, Y1o, Y1p, Y1q, Y1w, Y1x, Y1y, Y1z, Y20, Y21, Y28, Y2a, AV.cells?, Nat.reduceAdd, Nat.reduceMul, hpr, Int.lt_irrefl]
    rw [← hpr]
    refine back1.mk (opens V o' + (if b then 1 else 0)) ?_ ⟨b, o', u', rfl, rfl, hso', hgo.trans hgo', himp', hbo', hH', fun hbf => ?_⟩
    · cases b with
      | true => have := hb1 rfl; simp; omega
      | false => rw [(hb0 rfl).1]; simp
    · obtain ⟨q1, q2⟩ := hb0 hbf
      rw [q1]; exact q2
  | cons cl rest =>
  have hplt : pre.length < all.length := by rw [hpr]; simp
  have hcm : cl ∈ all := by rw [hpr]; simp
  have hcl := hall cl hcm
  have hcn := hn2 cl hcm
  simp only [nd0, Y1n, Y1o, Y1p, Y1q, Y1w, Y1x, Y1y, Y1z, Y20, Y21, Y28, Y2a, AV.cells?, Nat.reduceAdd, Nat.reduceMul, decide_eq_true (show (pre.length : Int) < (all.length : Int) by omega)]
  refine wJoin.one (fun t H => ∃ (b' : Bool) (o'' u'' : List Int), t = Bo b' ∧ Sol V o'' ∧ Grow V o u o'' u'' ∧ (∀ a, Sats a all → Exts V a of → Exts V a o'') ∧ u''.length + opens V o'' ≤ V ∧ GH ga gs V all o'' u'' st H ∧
      (b' = true → opens V o'' < opens V o) ∧ (b' = false → o'' = o ∧ ∀ c ∈ pre ++ [cl], (∃ x ∈ c, lv o x = 1) ∨ ∃ x ∈ c, lv o x = 0 ∧ ∃ y ∈ c, lv o y = 0 ∧ x ≠ y)) ?_ ?_
  case refine_2 =>
    rintro t H ⟨b', o'', u'', rfl, a1, a2, a3, a4, a5, a6, a7⟩
    rw [binA_succ (by omega)]
    simp only [nd0, Y1n, Y1o, Y1p, Y1q, Y1w, Y1x, Y1y, Y1z, Y20, Y21, Y28, Y2a, AV.cells?, Nat.reduceAdd, Nat.reduceMul]
    exact back2.mk rest.length (by simp) ⟨b', o'', u'', pre ++ [cl], rest, rfl, by rw [hpr]; simp, rfl, by simp, a1, a2, a3, a4, a5, a6, a7⟩
  rw [iaddr_LLI hplt]
  simp only [nd0, Y1n, Y1o, Y1p, Y1q, Y1w, Y1x, Y1y, Y1z, Y20, Y21, Y28, Y2a, AV.cells?, Nat.reduceAdd, Nat.reduceMul, row_get hplt, show row all pre.length = cl by unfold row; rw [hpr]; simp, lenA_LI]
  obtain ⟨xx2, tb2, c2, hHe2', ht2⟩ := id hH'
  subst hHe2'
  refine wLoop.four (fun m l n h i H => ∃ (p r : List Int) (left many : Int) (hbn : Bool), cl = p ++ r ∧ m = r.length ∧ i = Z p.length ∧ l = Z left ∧ n = Z many ∧ h = Bo hbn ∧ H = gH ga gs V all o' xx2 st tb2 c2 ∧ Scan o' p left many hbn) cl.length
    (gh4.mk ⟨[], cl, 0, 0, false, rfl, rfl, rfl, rfl, rfl, rfl, rfl, .nil _⟩) ?_
  rintro m3 l n h i H3 ⟨p, r, left, many, hbn, hcp, rfl, rfl, rfl, rfl, rfl, rfl, hsc⟩
  cases r with
  | nil =>
    rw [List.append_nil] at hcp
    subst hcp
    simp only [nd0, Y1n, Y1o, Y1p, Y1q, Y1w, Y1x, Y1y, Y1z, Y20, Y21, Y28, Y2a, AV.cells?, Nat.reduceAdd, Nat.reduceMul, Int.lt_irrefl]
    have hkeep : (∃ x ∈ cl, lv o' x = 1) ∨ (∃ x ∈ cl, lv o' x = 0 ∧ ∃ y ∈ cl, lv o' y = 0 ∧ x ≠ y) → gh1 (fun t H => ∃ (b' : Bool) (o'' u'' : List Int), t = Bo b' ∧ Sol V o'' ∧ Grow V o u o'' u'' ∧ (∀ a, Sats a all → Exts V a of → Exts V a o'') ∧ u''.length + opens V o'' ≤ V ∧ GH ga gs V all o'' u'' st H ∧
      (b' = true → opens V o'' < opens V o) ∧ (b' = false → o'' = o ∧ ∀ c ∈ pre ++ [cl], (∃ x ∈ c, lv o x = 1) ∨ ∃ x ∈ c, lv o x = 0 ∧ ∃ y ∈ c, lv o y = 0 ∧ x ≠ y)) (Bo b) (gH ga gs V all o' xx2 st tb2 c2) := fun hk =>
      gh1.mk ⟨b, o', u', rfl, hso', hgo', himp', hbo', hH', hb1, fun hbf => by
        obtain ⟨q1, q2⟩ := hb0 hbf
        refine ⟨q1, fun c hc => ?_⟩
        rcases List.mem_append.1 hc with hc | hc
        · exact q2 c hc
        · simp at hc; subst hc; rw [← q1]; exact hk⟩
    cases hbn with
    | true =>
      simp only [nd0, Y1n, Y1o, Y1p, Y1q, Y1w, Y1x, Y1y, Y1z, Y20, Y21, Y28, Y2a, AV.cells?, Nat.reduceAdd, Nat.reduceMul]
      exact hkeep (.inl (hsc.h.1 rfl))
    | false =>
    by_cases h1 : 1 < many
    · simp only [nd0, Y1n, Y1o, Y1p, Y1q, Y1w, Y1x, Y1y, Y1z, Y20, Y21, Y28, Y2a, AV.cells?, Nat.reduceAdd, Nat.reduceMul, decide_eq_true h1]
      exact hkeep (.inr (hsc.more h1).2.2)
    simp only [nd0, Y1n, Y1o, Y1p, Y1q, Y1w, Y1x, Y1y, Y1z, Y20, Y21, Y28, Y2a, AV.cells?, Nat.reduceAdd, Nat.reduceMul, decide_eq_false h1]
    have hpos := hsc.pos
    by_cases h0 : many = 0
    · simp only [nd0, Y1n, Y1o, Y1p, Y1q, Y1w, Y1x, Y1y, Y1z, Y20, Y21, Y28, Y2a, AV.cells?, Nat.reduceAdd, Nat.reduceMul, decide_eq_true h0]
      subst h0
      refine ⟨false, o', u', rfl, hso', hgo.trans hgo', ⟨himp', fun _ a ha he => ?_, by simp⟩, hbo', hH'⟩
      exact clause_none hso' hcl hsc (himp' a ha he) (ha cl hcm)
    · simp only [nd0, Y1n, Y1o, Y1p, Y1q, Y1w, Y1x, Y1y, Y1z, Y20, Y21, Y28, Y2a, AV.cells?, Nat.reduceAdd, Nat.reduceMul, decide_eq_false h0]
      have h11 : many = 1 := by omega
      subst h11
      obtain ⟨k1, k2, k3, k4⟩ := hsc.one rfl
      have hll := hcl left k2
      refine ⟨_, set_spec B hso' hV hll (by omega) hH', ?_⟩
      rintro r' H4 ⟨rfl, hH4⟩
      refine gh1.mk ⟨true, litSet o' left, u' ++ [(vr left : Int)], rfl, hso'.set hll, hgo'.trans (Grow.set hso' hll k3), fun a ha he => ?_, ?_, hH4, fun _ => ?_, by simp⟩
      · have he' := himp' a ha he
        exact Exts.set hso' hll he' (clause_unit hso' hcl hsc he' (ha cl hcm))
      · have := opens_lt hso' hll k3; simp; omega
      · have := opens_lt hso' hll k3
        have := opens_le_grow hgo'
        omega
  | cons x r =>
    have hxm : x ∈ cl := by rw [hcp]; simp
    have hxo := hcl x hxm
    have hpl : p.length < cl.length := by rw [hcp]; simp
    have hmle := hsc.le
    have hmpos := hsc.pos
    simp only [nd0, Y1n, Y1o, Y1p, Y1q, Y1w, Y1x, Y1y, Y1z, Y20, Y21, Y28, Y2a, AV.cells?, Nat.reduceAdd, Nat.reduceMul, decide_eq_true (show (p.length : Int) < (cl.length : Int) by omega)]
    refine wJoin.three (fun l n h H => ∃ (left many : Int) (hbn : Bool), l = Z left ∧ n = Z many ∧ h = Bo hbn ∧ H = gH ga gs V all o' xx2 st tb2 c2 ∧ Scan o' (p ++ [x]) left many hbn) ?_ ?_
    case refine_2 =>
      rintro l n h H ⟨left, many, hbn, rfl, rfl, rfl, rfl, hsc'⟩
      rw [binA_succ (by omega)]
      simp only [nd0, Y1n, Y1o, Y1p, Y1q, Y1w, Y1x, Y1y, Y1z, Y20, Y21, Y28, Y2a, AV.cells?, Nat.reduceAdd, Nat.reduceMul]
      exact back4.mk r.length (by simp) ⟨p ++ [x], r, left, many, hbn, by rw [hcp]; simp, rfl, by simp, rfl, rfl, rfl, rfl, hsc'⟩
    have hg : (cl.map fun z => Z z)[p.length]? = some (Z x) := by rw [hcp]; exact at_mid
    rw [iaddr_LI hpl]
    simp only [nd0, Y1n, Y1o, Y1p, Y1q, Y1w, Y1x, Y1y, Y1z, Y20, Y21, Y28, Y2a, AV.cells?, Nat.reduceAdd, Nat.reduceMul, hg]
    refine ⟨_, is_spec B hso' hV hxo xx2 st tb2 c2, ?_⟩
    rintro r' H4 ⟨rfl, rfl⟩
    by_cases e1 : lv o' x = 1
    · simp only [nd0, Y1n, Y1o, Y1p, Y1q, Y1w, Y1x, Y1y, Y1z, Y20, Y21, Y28, Y2a, AV.cells?, Nat.reduceAdd, Nat.reduceMul, decide_eq_true e1]
      exact gh3.mk ⟨left, many, true, rfl, rfl, rfl, rfl, hsc.hit e1⟩
    simp only [nd0, Y1n, Y1o, Y1p, Y1q, Y1w, Y1x, Y1y, Y1z, Y20, Y21, Y28, Y2a, AV.cells?, Nat.reduceAdd, Nat.reduceMul, decide_eq_false e1]
    by_cases e0 : lv o' x = 0
    · simp only [nd0, Y1n, Y1o, Y1p, Y1q, Y1w, Y1x, Y1y, Y1z, Y20, Y21, Y28, Y2a, AV.cells?, Nat.reduceAdd, Nat.reduceMul, decide_eq_true e0]
      have hop := hsc.open_ e0 hxo.1
      refine wJoin.one (fun n H => n = Z (if x = left then many else many + 1) ∧ H = gH ga gs V all o' xx2 st tb2 c2) ?_ ?_
      case refine_2 =>
        rintro n H ⟨rfl, rfl⟩
        exact gh3.mk ⟨x, _, hbn, rfl, rfl, rfl, rfl, hop⟩
      by_cases el : x = left
      · simp only [nd0, Y1n, Y1o, Y1p, Y1q, Y1w, Y1x, Y1y, Y1z, Y20, Y21, Y28, Y2a, AV.cells?, Nat.reduceAdd, Nat.reduceMul, decide_eq_true el]
        exact gh1.mk ⟨by rw [if_pos el], rfl⟩
      · simp only [nd0, Y1n, Y1o, Y1p, Y1q, Y1w, Y1x, Y1y, Y1z, Y20, Y21, Y28, Y2a, AV.cells?, Nat.reduceAdd, Nat.reduceMul, decide_eq_false el]
        rw [binA_add (by omega)]
        simp only [nd0, Y1n, Y1o, Y1p, Y1q, Y1w, Y1x, Y1y, Y1z, Y20, Y21, Y28, Y2a, AV.cells?, Nat.reduceAdd, Nat.reduceMul]
        exact gh1.mk ⟨by rw [if_neg el], rfl⟩
    · simp only [nd0, Y1n, Y1o, Y1p, Y1q, Y1w, Y1x, Y1y, Y1z, Y20, Y21, Y28, Y2a, AV.cells?, Nat.reduceAdd, Nat.reduceMul, decide_eq_false e0]
      exact gh3.mk ⟨left, many, hbn, rfl, rfl, rfl, rfl, hsc.miss e1 e0⟩
end
end Go.Sc
namespace Go.Sc
open Go
set_option linter.unusedSimpArgs false
set_option linter.unusedVariables false
set_option linter.unnecessarySimpa false
section
variable {E : Env} {P : Program} {ga gs V : Nat} {all : List (List Int)}
theorem IndexI_spec (hB : Body2 E P 110 F.slices_Index_Lint_int) (l : List Int) (s : Int) (hl : l.length < 1099511627776) : FX E P 110 [LI l, Z s] (Z (idx l s)) := by
  refine FX.of' ⟨LI_closed l, trivial, trivial⟩ trivial fun n R hR => hB _ _ _ _ ?_
  unfold F.slices_Index_Lint_int LI Lm
  simp only [nd0, Y1n, Y1o, Y1p, Y1q, Y1w, Y1x, Y1y, Y1z, Y20, Y21, Y28, Y2a, AV.cells?, Nat.reduceAdd, Nat.reduceMul]
  refine wLoop.one (fun m t H => ∃ pre rest, l = pre ++ rest ∧ m = rest.length ∧ t = Z pre.length ∧ s ∉ pre) l.length (gh1.mk ⟨[], l, rfl, rfl, rfl, by simp⟩) ?_
  rintro m t H ⟨pre, rest, rfl, rfl, rfl, hs⟩
  cases rest with
  | nil =>
    simp only [nd0, Y1n, Y1o, Y1p, Y1q, Y1w, Y1x, Y1y, Y1z, Y20, Y21, Y28, Y2a, AV.cells?, Nat.reduceAdd, Nat.reduceMul, List.append_nil, Int.lt_irrefl]
    exact hR _ _ (by rw [idx, if_neg (by simpa using hs)])
  | cons x rest =>
    simp only [nd0, Y1n, Y1o, Y1p, Y1q, Y1w, Y1x, Y1y, Y1z, Y20, Y21, Y28, Y2a, AV.cells?, Nat.reduceAdd, Nat.reduceMul, decide_eq_true (show ((pre.length : Int) < ((pre ++ x :: rest).length : Int)) by simp; omega)]
    rw [iaddr_Nn (by simp)]
    simp only [nd0, Y1n, Y1o, Y1p, Y1q, Y1w, Y1x, Y1y, Y1z, Y20, Y21, Y28, Y2a, AV.cells?, Nat.reduceAdd, Nat.reduceMul, at_mid]
    by_cases hx : s = x
    · subst hx
      simp only [nd0, Y1n, Y1o, Y1p, Y1q, Y1w, Y1x, Y1y, Y1z, Y20, Y21, Y28, Y2a, AV.cells?, Nat.reduceAdd, Nat.reduceMul, decide_eq_true (rfl : s = s)]
      exact hR _ _ (by rw [idx_app hs])
    · simp only [nd0, Y1n, Y1o, Y1p, Y1q, Y1w, Y1x, Y1y, Y1z, Y20, Y21, Y28, Y2a, AV.cells?, Nat.reduceAdd, Nat.reduceMul, decide_eq_false hx]
      rw [binA_succ (by simp at hl; omega)]
      simp only [nd0, Y1n, Y1o, Y1p, Y1q, Y1w, Y1x, Y1y, Y1z, Y20, Y21, Y28, Y2a, AV.cells?, Nat.reduceAdd, Nat.reduceMul]
      exact back1.mk rest.length (by simp) ⟨pre ++ [x], rest, by simp, rfl, by simp, by simp [hs, hx]⟩
theorem idxOf_first (x : Int) : ∀ (l : List Int) (i : Nat), i < l.idxOf x → l[i]? ≠ some x
  | [], i, h => by simp
  | y :: l, i, h => by
    by_cases hy : y = x
    · subst hy; simp at h
    · rw [List.idxOf_cons] at h
      have hyb : (y == x) = false := by simpa using hy
      rw [hyb] at h
      cases i with
      | zero => simpa using hy
      | succ i => simpa using idxOf_first x l i (by simpa using h)
theorem first_open {o : List Int} (hs : Sol V o) : (∃ v : Nat, 1 ≤ v ∧ v ≤ V ∧ idx (o.drop 1) 0 + 1 = (v : Int) ∧ cell o v = 0 ∧ ∀ i, 1 ≤ i → i < v → cell o i ≠ 0) ∨ (idx (o.drop 1) 0 + 1 = 0 ∧ ∀ i, 1 ≤ i → i ≤ V → cell o i ≠ 0) := by
  have hl := hs.len
  have hd : ∀ i, i < V → (o.drop 1)[i]? = some (cell o (i + 1)) := fun i hi => by
    rw [List.getElem?_drop]; simp [cell, List.getElem?_eq_getElem (show 1 + i < o.length by omega), show i + 1 = 1 + i by omega]
  by_cases h : (0 : Int) ∈ o.drop 1
  · have hlt := List.idxOf_lt_length_of_mem h
    have hlt' : (o.drop 1).idxOf 0 < V := by simpa [hl] using hlt
    refine .inl ⟨(o.drop 1).idxOf 0 + 1, by omega, by omega, by rw [idx, if_pos h]; omega, ?_, fun i h1 h2 => ?_⟩
    · have := hd _ hlt'
      rw [List.getElem?_eq_getElem hlt, List.getElem_idxOf] at this
      simpa using this.symm
    · intro h0
      have := hd (i - 1) (by omega)
      rw [show i - 1 + 1 = i by omega, h0] at this
      exact idxOf_first 0 _ (i - 1) (by omega) this
  · refine .inr ⟨by rw [idx, if_neg h]; rfl, fun i h1 h2 h0 => h ?_⟩
    have := hd (i - 1) (by omega)
    rw [show i - 1 + 1 = i by omega, h0] at this
    exact List.mem_of_getElem? this
set_option maxHeartbeats 2000000 in
theorem search_specN (B : SolverBodies E P) (μ : List Int → Nat) (m1 : ∀ {of tr of' tr' : List Int}, Grow V of tr of' tr' → μ of' ≤ μ of)
    (m2 : ∀ {of o : List Int} (x : Int), Sol V o → SpreadOk V all of o true → okLit V x → cell o (vr x) = 0 → (∀ i, 1 ≤ i → i < vr x → cell o i ≠ 0) → μ (litSet o x) < μ o) (hV : V ≤ 1000) (hall : ∀ c ∈ all, ∀ x ∈ c, okLit V x) (hn1 : all.length ≤ 4000) (hn2 : ∀ c ∈ all, c.length ≤ 1000) : ∀ (k : Nat) (of tr : List Int) (st : Int) (H : AH), Sol V of → (∀ t ∈ tr, 1 ≤ t ∧ t ≤ V) → tr.length + opens V of ≤ V → μ of ≤ k → 0 ≤ st → st + 2 ^ (k + 1) ≤ 20001 → GH ga gs V all of tr st H →
    ACalls E P 105 [.ptrL 1 0 gs] H fun r H' => ∃ st' : Int, st ≤ st' ∧ st' + 1 ≤ st + 2 ^ (k + 1) ∧ ((∃ of' tr', r = .tup [Bo true, nilE] ∧ Sol V of' ∧ SearchT V all of of' ∧ GH ga gs V all of' tr' st' H') ∨ (r = .tup [Bo false, nilE] ∧ SearchF V all of ∧ GH ga gs V all of tr st' H')) := by
  intro k
  induction k using Nat.strongRecOn with
  | ind k ih =>
  intro of tr st H hs htr hb hk hst0 hst hH
  have hp2 : (2 : Int) ^ (k + 1) = 2 ^ k * 2 := Int.pow_succ ..
  have hp : (1 : Int) ≤ 2 ^ k := Int.pow_pos (by decide)
  obtain ⟨xx, tb, c, rfl, ht⟩ := hH
  refine B.search _ _ _ ?_
  unfold F.pgate_solver_search gH
  simp only [nd0, Y1n, Y1o, Y1p, Y1q, Y1w, Y1x, Y1y, Y1z, Y20, Y21, Y28, Y2a, AV.cells?, Nat.reduceAdd, Nat.reduceMul]
  rw [binA_add (by omega)]
  simp only [nd0, Y1n, Y1o, Y1p, Y1q, Y1w, Y1x, Y1y, Y1z, Y20, Y21, Y28, Y2a, AV.cells?, Nat.reduceAdd, Nat.reduceMul]
  rw [store1_L rfl]
  simp only [nd0, Y1n, Y1o, Y1p, Y1q, Y1w, Y1x, Y1y, Y1z, Y20, Y21, Y28, Y2a, AV.cells?, Nat.reduceAdd, Nat.reduceMul, Nat.reduceLT, decide_eq_false (show ¬ (20000 : Int) < st + 1 by omega), ht.len]
  refine ⟨_, spread_spec (ga := ga) (gs := gs) B hV hall hn1 hn2 hs hb ⟨xx, tb, c, rfl, ht⟩, ?_⟩
  rintro r H1 ⟨b, o, u, rfl, hso, hgo, hsp, hbo, hH1⟩
  have htu := tr_grow hgo htr
  have hlu : tr.length ≤ u.length := by obtain ⟨n, rfl, _⟩ := hgo; simp
  have restore : ∀ (st1 : Int) (H : AH) (K : Kt), GH ga gs V all o u st1 H → (∀ H', GH ga gs V all of tr st1 H' → K (.tup []) H') → wCall E P 109 [.ptrL 1 0 gs, Z (tr.length : Int)] H K := by
    intro st1 H K h hK
    refine ⟨_, back_spec B hso.len hV htu (by omega) hlu h, ?_⟩
    rintro r H' ⟨rfl, h'⟩
    obtain ⟨e1, e2⟩ := hgo.back hs hso
    rw [e1, e2] at h'
    exact hK H' h'
  cases b with
  | false =>
    simp only [nd0, Y1n, Y1o, Y1p, Y1q, Y1w, Y1x, Y1y, Y1z, Y20, Y21, Y28, Y2a, AV.cells?, Nat.reduceAdd, Nat.reduceMul]
    refine restore _ _ _ hH1 fun H' h' => ?_
    exact ⟨st + 1, by omega, by omega, .inr ⟨trivial, hsp.2.1 rfl, h'⟩⟩
  | true =>
  have hol := hso.len
  obtain ⟨xx2, tb2, c2, rfl, ht2⟩ := hH1
  unfold gH
  simp only [nd0, Y1n, Y1o, Y1p, Y1q, Y1w, Y1x, Y1y, Y1z, Y20, Y21, Y28, Y2a, AV.cells?, Nat.reduceAdd, Nat.reduceMul]
  have hsl : ∀ H : AH, H.esz 0 ga = some 1 → sliceA 1 (.slL 0 0 (V + 1) ga) (some (.val (.int .i64 1))) none H = some (.slL 0 1 V ga) := fun H hH => by
    simp only [sliceA, bnd, Option.bind_some, hH, true_and]
    rw [if_pos (by omega)]
    simp
  rw [hsl _ (by simp [AH.esz])]
  simp only [nd0, Y1n, Y1o, Y1p, Y1q, Y1w, Y1x, Y1y, Y1z, Y20, Y21, Y28, Y2a, AV.cells?, Nat.reduceAdd, Nat.reduceMul]
  have hfk : FkL ⟨.cells ga 1 (o.map fun z => Z z) :: .cells gs 5 [Z V, LLI all, .slL 0 0 (V + 1) ga, xx2, Z (st + 1)] :: tb2, c2⟩ S0 [.slL 0 1 V ga, .val (.int .i64 0)] [LI (o.drop 1), Z 0] := by
    refine .cons ((Fk.slF (ys := (o.drop 1).map fun z => Z z) V rfl rfl ?_).then ?_) (.cons (.same _) .nil)
    · rw [← List.map_drop, ← List.map_take, List.take_of_length_le (by simp; omega)]
      exact FkL.same _
    · have : V = (o.drop 1).length := by simp; omega
      unfold LI Lm
      rw [← this]
      exact .F (.refl _)
  refine wCall.bo (IndexI_spec B.index (o.drop 1) 0 (by simp; omega)) (by simp [AV.flat]) hfk fun n2 => ?_
  rcases first_open hso with ⟨v, hv1, hv2, hv3, hv0, hvf⟩ | ⟨hv3, htot⟩
  case inr =>
    rw [binA_add (by omega), hv3]
    simp only [nd0, Y1n, Y1o, Y1p, Y1q, Y1w, Y1x, Y1y, Y1z, Y20, Y21, Y28, Y2a, AV.cells?, Nat.reduceAdd, Nat.reduceMul, show decide ((0 : Int) = 0) = true from rfl]
    exact ⟨st + 1, by omega, by omega, .inl ⟨o, u, trivial, hso, search_leaf hso hall hgo hsp htot, xx2, tb2, n2, rfl, ht2⟩⟩
  rw [binA_add (by omega), hv3]
  simp only [nd0, Y1n, Y1o, Y1p, Y1q, Y1w, Y1x, Y1y, Y1z, Y20, Y21, Y28, Y2a, AV.cells?, Nat.reduceAdd, Nat.reduceMul, decide_eq_false (show ¬ (v : Int) = 0 by omega)]
  rw [neg_Z (by omega)]
  simp only [nd0, Y1n, Y1o, Y1p, Y1q, Y1w, Y1x, Y1y, Y1z, Y20, Y21, Y28, Y2a, AV.cells?, Nat.reduceAdd, Nat.reduceMul]
  refine wNewS.F' (l := [Z (v : Int), Z (-(v : Int))]) rfl rfl ?_
  simp only [nd0, Y1n, Y1o, Y1p, Y1q, Y1w, Y1x, Y1y, Y1z, Y20, Y21, Y28, Y2a, AV.cells?, Nat.reduceAdd, Nat.reduceMul]
  have hx1 : okLit V (v : Int) := by unfold okLit; omega
  have hx2 : okLit V (-(v : Int)) := by unfold okLit; omega
  have hz1 : lv o (v : Int) = 0 := by rw [lv_vr (by omega)]; simpa [vr] using hv0
  have hz2 : lv o (-(v : Int)) = 0 := by rw [lv_vr (by omega)]; simpa [vr] using hv0
  have hog := m1 hgo
  have hop := m2 (v : Int) hso hsp hx1 (by simpa [vr] using hv0) (by simpa [vr] using hvf)
  obtain ⟨k', rfl⟩ : ∃ k', k = k' + 1 := ⟨k - 1, by omega⟩
  have hq2 : (2 : Int) ^ (k' + 1) = 2 ^ k' * 2 := Int.pow_succ ..
  have hq : (1 : Int) ≤ 2 ^ k' := Int.pow_pos (by decide)
  -- one of the two ways
  have way : ∀ (x : Int) (st1 : Int) (H : AH) (K : Kt), okLit V x → vr x = v → lv o x = 0 → 0 ≤ st1 → st1 + 2 ^ (k' + 1) ≤ 20001 → GH ga gs V all o u st1 H →
      (∀ (st2 : Int) of' tr' H', st1 ≤ st2 → st2 + 1 ≤ st1 + 2 ^ (k' + 1) → Sol V of' → SearchT V all (litSet o x) of' → GH ga gs V all of' tr' st2 H' → K (.tup [Bo true, nilE]) H') →
      (∀ (st2 : Int) H', st1 ≤ st2 → st2 + 1 ≤ st1 + 2 ^ (k' + 1) → SearchF V all (litSet o x) → (∀ K : Kt, (∀ H'', GH ga gs V all o u st2 H'' → K (.tup []) H'') → wCall E P 109 [.ptrL 1 0 gs, Z (u.length : Int)] H' K) → K (.tup [Bo false, nilE]) H') →
      wCall E P 111 [.ptrL 1 0 gs, Z x] H fun t60 H => wCall E P 105 [.ptrL 1 0 gs] H K := by
    intro x st1 H K hx hvx hz h0 h1 hH hT hF
    refine ⟨_, set_spec B hso hV hx (by omega) hH, ?_⟩
    rintro r H2 ⟨rfl, hH2⟩
    have hol := opens_lt hso hx hz
    have hmu := m2 x hso hsp hx (by rw [hvx]; exact hv0) (by rw [hvx]; exact hvf)
    have hgx := Grow.set (tr := u) hso hx hz
    refine ⟨_, ih k' (by omega) (litSet o x) (u ++ [(vr x : Int)]) st1 H2 (hso.set hx) (tr_grow hgx htu) (by simp; omega) (by omega) h0 h1 hH2, ?_⟩
    rintro r H3 ⟨st2, s1, s2, ⟨of', tr', rfl, t1, t2, t3⟩ | ⟨rfl, t1, t2⟩⟩
    · exact hT st2 of' tr' H3 s1 s2 t1 t2 t3
    · refine hF st2 H3 s1 s2 t1 fun K hK => ?_
      refine ⟨_, back_spec B (hso.set hx).len hV (tr_grow hgx htu) (by simp; omega) (show u.length ≤ (u ++ [(vr x : Int)]).length by simp) t2, ?_⟩
      rintro r H' ⟨rfl, h'⟩
      obtain ⟨e1, e2⟩ := hgx.back hso (hso.set hx)
      rw [e1, e2] at h'
      exact hK H' h'
  refine wLoop.one (fun m i H => ∃ (q : Nat) (st1 : Int), q + m = 2 ∧ i = Z q ∧ st + 1 ≤ st1 ∧ st1 + q ≤ st + 1 + q * 2 ^ (k' + 1) ∧ GH ga gs V all o u st1 H ∧ (0 < q → SearchF V all (litSet o (v : Int))) ∧ (1 < q → SearchF V all (litSet o (-(v : Int))))) 2
    (gh1.mk ⟨0, st + 1, by omega, rfl, by omega, by omega, ⟨xx2, tb2, n2, rfl, ht2⟩, by simp, by simp⟩) ?_
  rintro m i H ⟨q, st1, hqm, rfl, hs1, hs2, hH, hF1, hF2⟩
  have hcase : q = 0 ∨ q = 1 ∨ q = 2 := by omega
  rcases hcase with rfl | rfl | rfl
  case inr.inr =>
    simp only [nd0, Y1n, Y1o, Y1p, Y1q, Y1w, Y1x, Y1y, Y1z, Y20, Y21, Y28, Y2a, AV.cells?, Nat.reduceAdd, Nat.reduceMul, show decide (((2 : Nat) : Int) < ((2 : Nat) : Int)) = false from rfl]
    refine restore _ _ _ hH fun H' h' => ?_
    exact ⟨st1, by omega, by omega, .inr ⟨trivial, search_none hso hsp hv1 hv2 (hF1 (by omega)) (hF2 (by omega)), h'⟩⟩
  · simp only [nd0, Y1n, Y1o, Y1p, Y1q, Y1w, Y1x, Y1y, Y1z, Y20, Y21, Y28, Y2a, AV.cells?, Nat.reduceAdd, Nat.reduceMul, show decide (((0 : Nat) : Int) < ((2 : Nat) : Int)) = true from rfl]
    rw [iaddr_Nn (by omega)]
    obtain ⟨xx3, tb3, c3, hHe, ht3⟩ := id hH
    have hbs : H.bs[1]? = some (.cells gs 5 [Z V, LLI all, .slL 0 0 (V + 1) ga, xx3, Z st1]) := by rw [hHe]; rfl
    simp only [nd0, Y1n, Y1o, Y1p, Y1q, Y1w, Y1x, Y1y, Y1z, Y20, Y21, Y28, Y2a, AV.cells?, Nat.reduceAdd, Nat.reduceMul, hbs, ht3.len]
    refine way _ st1 H _ hx1 (by simp [vr]) hz1 (by omega) (by omega) hH (fun st2 of' tr' H' a1 a2 a3 a4 a5 => ?_) (fun st2 H' a1 a2 a3 a4 => ?_)
    · simp only [nd0, Y1n, Y1o, Y1p, Y1q, Y1w, Y1x, Y1y, Y1z, Y20, Y21, Y28, Y2a, AV.cells?, Nat.reduceAdd, Nat.reduceMul]
      exact ⟨st2, by omega, by omega, .inl ⟨of', tr', trivial, a3, search_yes hso hgo hsp hv1 hv2 hv0 hvf a4, a5⟩⟩
    · simp only [nd0, Y1n, Y1o, Y1p, Y1q, Y1w, Y1x, Y1y, Y1z, Y20, Y21, Y28, Y2a, AV.cells?, Nat.reduceAdd, Nat.reduceMul]
      refine a4 _ fun H'' h'' => ?_
      rw [binA_succ (by omega)]
      simp only [nd0, Y1n, Y1o, Y1p, Y1q, Y1w, Y1x, Y1y, Y1z, Y20, Y21, Y28, Y2a, AV.cells?, Nat.reduceAdd, Nat.reduceMul]
      exact back1.mk 1 (by omega) ⟨1, st2, by omega, rfl, by omega, by omega, h'', fun _ => a3, by omega⟩
  · simp only [nd0, Y1n, Y1o, Y1p, Y1q, Y1w, Y1x, Y1y, Y1z, Y20, Y21, Y28, Y2a, AV.cells?, Nat.reduceAdd, Nat.reduceMul, show decide (((1 : Nat) : Int) < ((2 : Nat) : Int)) = true from rfl]
    rw [iaddr_Nn (by omega)]
    obtain ⟨xx3, tb3, c3, hHe, ht3⟩ := id hH
    have hbs : H.bs[1]? = some (.cells gs 5 [Z V, LLI all, .slL 0 0 (V + 1) ga, xx3, Z st1]) := by rw [hHe]; rfl
    simp only [nd0, Y1n, Y1o, Y1p, Y1q, Y1w, Y1x, Y1y, Y1z, Y20, Y21, Y28, Y2a, AV.cells?, Nat.reduceAdd, Nat.reduceMul, hbs, ht3.len]
    refine way _ st1 H _ hx2 (by simp [vr]) hz2 (by omega) (by omega) hH (fun st2 of' tr' H' a1 a2 a3 a4 a5 => ?_) (fun st2 H' a1 a2 a3 a4 => ?_)
    · simp only [nd0, Y1n, Y1o, Y1p, Y1q, Y1w, Y1x, Y1y, Y1z, Y20, Y21, Y28, Y2a, AV.cells?, Nat.reduceAdd, Nat.reduceMul]
      exact ⟨st2, by omega, by omega, .inl ⟨of', tr', trivial, a3, search_no hso hgo hsp hv1 hv2 hv0 (hF1 (by omega)) a4, a5⟩⟩
    · simp only [nd0, Y1n, Y1o, Y1p, Y1q, Y1w, Y1x, Y1y, Y1z, Y20, Y21, Y28, Y2a, AV.cells?, Nat.reduceAdd, Nat.reduceMul]
      refine a4 _ fun H'' h'' => ?_
      rw [binA_succ (by omega)]
      simp only [nd0, Y1n, Y1o, Y1p, Y1q, Y1w, Y1x, Y1y, Y1z, Y20, Y21, Y28, Y2a, AV.cells?, Nat.reduceAdd, Nat.reduceMul]
      exact back1.mk 0 (by omega) ⟨2, st2, by omega, rfl, by omega, by omega, h'', fun _ => hF1 (by omega), fun _ => a3⟩
end
end Go.Sc
namespace Go.Sc
open Go
set_option linter.unusedSimpArgs false
set_option linter.unusedVariables false
section
variable {E : Env} {P : Program}
theorem bare_spec (B : PlaceBodies E P) (hA : Body2 E P 77 F.law_at) (hb : Body1 E P 87 F.ref_Bare) (hB : Body2 E P 89 F.law_bare) (c e : Int) : FX E P 89 [Er c, Z e] (Bo (decide (c = e))) := by
  refine FX.of' (by simp [AV.closedL, Er_closed, AV.closed]) (by simp [AV.closed]) fun n R hR => hB _ _ _ _ ?_
  unfold F.law_bare
  refine wCall.fx (Bare_spec hb e) fun n => ?_
  refine wCall.fx (at_spec B hA c e (-1)) fun n => ?_
  exact hR _ _ (by simp)
end
end Go.Sc
