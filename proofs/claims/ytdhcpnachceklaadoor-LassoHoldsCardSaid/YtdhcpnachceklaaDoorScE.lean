/-
  EACH OPERATION DOES WHAT ITS NODE SAYS.
-/
import Derived.Test.YtdhcpnachceklaaDoorScD
import Derived.Laws.Alloc2
namespace Go.Sc
open Go

section
variable {E : Env} {P : Program} {c : Cx} {ts : List AV} {H : AH} {a : Act} {w : World}

theorem ev_rel (hH : HRel E c H) (h : LRel E c ts a.tmps.toList) (x : Operand) : VRel E c (ev E ts x) (a.eval x) := by
  cases x with
  | tmp t =>
    simp only [ev, Act.eval]
    cases ht : ts[t]? with
    | some y =>
      obtain ⟨v, h1, h2⟩ := h.get ht
      have : a.tmps[t]? = some v := by simpa using h1
      simp [List.getD, ht, Array.getD_eq_getD_getElem?, this, h2]
    | none =>
      have hl : a.tmps[t]? = none := by
        have := h.length
        have h2 := List.getElem?_eq_none_iff.1 ht
        rw [Array.getElem?_eq_none_iff]
        simp at this h2; omega
      simp [List.getD, ht, Array.getD_eq_getD_getElem?, hl, undefA, undef, VRel]
  | const v =>
    simp only [ev, Act.eval]
    unfold constA
    split
    · simp only [VRel]; exact ⟨_, by simp, LRel_vals E c _⟩
    · simp [VRel]
  | global g =>
    simp only [ev, Act.eval]
    split
    · rename_i hg
      unfold gptr
      split
      · rename_i cs hcs
        have := (hH.glob _ cs hcs).2
        rw [hg] at this
        simp only [VRel]
        exact ⟨g, 0, rfl, this⟩
      · simp [VRel]
    · simp [VRel]
  | func f =>
    simp only [ev, Act.eval]
    by_cases hf : E.fn (E.fk f) = f
    · rw [if_pos hf]; simp only [VRel, LRel, hf]; exact ⟨[], [], rfl, rfl, rfl⟩
    · rw [if_neg hf]; simp [VRel]

theorem evs_rel (hH : HRel E c H) (h : LRel E c ts a.tmps.toList) : ∀ xs : List Operand, LRel E c (xs.map (ev E ts)) (xs.map a.eval)
  | [] => by simp [LRel]
  | x :: xs => by simp only [List.map_cons, LRel]; exact ⟨_, _, rfl, ev_rel hH h x, evs_rel hH h xs⟩

theorem run_underlying' {t : TypeId} {d : TypeDesc} (h : P.underlying t = some d) (w : World) : (underlying t).run P w = .ok d w := by
  simp [underlying, h]
theorem run_typeInfo' {t : TypeId} {i : TypeInfo} (h : P.info? t = some i) (w : World) : (typeInfo t).run P w = .ok i w := by
  simp [typeInfo, h]

theorem tyB_some {t : TypeId} {b : Bool} {n : Nat} (h : tyB P t = some (b, n)) :
    ∃ d i, P.underlying t = some d ∧ P.info? t = some i ∧ i.size = n ∧ b = (match d with | .struct _ => true | .array _ _ => true | _ => false) := by
  unfold tyB at h
  split at h
  · rename_i d i h1 h2
    simp only [Option.some.injEq, Prod.mk.injEq] at h
    exact ⟨d, i, h1, h2, h.2, h.1.symm⟩
  · cases h
theorem run_isAgg {t : TypeId} {b : Bool} {n : Nat} (h : tyB P t = some (b, n)) (w : World) : (isAgg t).run P w = .ok b w := by
  obtain ⟨d, i, h1, h2, h3, rfl⟩ := tyB_some h
  simp only [isAgg, Sem.run_bind, run_underlying' h1, Result.andThen_ok]
  cases d <;> rfl
theorem run_sizeOf {t : TypeId} {b : Bool} {n : Nat} (h : tyB P t = some (b, n)) (w : World) : (sizeOf t).run P w = .ok n w := by
  obtain ⟨d, i, h1, h2, rfl, _⟩ := tyB_some h
  simp [sizeOf, run_typeInfo' h2]
theorem run_zero {t : TypeId} {z : List AV} (h : zeroB P t = some z) (w : World) : ∃ v, (zeroValue t).run P w = .ok v w ∧ z = v.cells.toList.map .val ∧ (∀ x ∈ v.cells.toList, okCell x = true) ∧
    some v.cells.size = (tyB P t).map (·.2) := by
  unfold zeroB at h
  split at h
  · rename_i v hv
    split at h
    · rename_i hok
      injection h with h
      cases hi : P.info? t with
      | none => simp [hi] at hv
      | some i =>
        simp [hi] at hv
        refine ⟨v, ?_, h.symm, ?_, ?_⟩
        · simp [zeroValue, run_typeInfo' hi, hv]
        · simp only [Bool.and_eq_true, List.all_eq_true] at hok; exact hok.1
        · simp only [Bool.and_eq_true, beq_iff_eq] at hok; exact hok.2
    · cases h
  · cases h

theorem Addr.add_at (b o n : Nat) : (⟨b, o, none⟩ : Addr).add n = ⟨b, o + n, none⟩ := by
  unfold Addr.add
  split
  · rename_i h; subst h; rfl
  · rfl

theorem AH.cells_some {b g : Nat} {cs : List AV} (h : H.cells b g = some cs) : ∃ sz, H.bs[b]? = some (.cells g sz cs) := by
  unfold AH.cells at h
  split at h
  · rename_i g' sz cs' hb
    split at h
    · rename_i hg; subst hg; injection h with h; subst h; exact ⟨sz, hb⟩
    · cases h
  · cases h

theorem HRel.esz (h : HRel E c H) {b g n : Nat} (hc : H.esz b g = some n) : c.sz b = n := by
  unfold AH.esz at hc
  split at hc
  · rename_i g' sz cs' hb
    split at hc
    · rename_i hg; subst hg; injection hc with hc; subst hc; exact (h.blk b _ hb).2.2.1
    · cases hc
  · cases hc

theorem HRel.tsz (h : HRel E c H) {b g n : Nat} (hc : H.tsz b g = some n) : c.sz b = n := by
  unfold AH.tsz at hc
  split at hc
  · rename_i g' sz hb
    split at hc
    · rename_i hg; subst hg; injection hc with hc; subst hc; exact (h.blk b _ hb).2.2.1
    · cases hc
  · cases hc

/-- a live block's cells -/
theorem HRel.block (h : HRel E c H) {b g : Nat} {cs : List AV} (hc : H.cells b g = some cs) :
    ∃ sz p0 pre rest e, H.bs[b]? = some (.cells g sz cs) ∧ c.gen b = some g ∧ g < c.ctr ∧ c.sz b = sz ∧ c.w.heap[c.al b]? = some (.cells (p0 ++ pre ++ rest).toArray e (0, 0)) ∧ c.csz b = (p0 ++ pre ++ rest).length ∧
      p0.length = c.base b ∧ LRel E c cs pre := by
  obtain ⟨sz, hb⟩ := AH.cells_some hc
  obtain ⟨h1, h2, h3, arr, e, h4, h5, p0, pre, rest, rfl, h6, h7⟩ := h.blk b _ hb
  exact ⟨sz, p0, pre, rest, e, hb, h2, h1, h3, h4, h5, h6, h7⟩

/-- a cell of a live block -/
theorem mid_get {p0 pre rest : List Value} {i : Nat} {u : Value} (h : pre[i]? = some u) : (p0 ++ pre ++ rest)[p0.length + i]? = some u := by
  have hi := (List.getElem?_eq_some_iff.1 h).1
  rw [List.getElem?_append_left (by simp; omega), List.getElem?_append_right (by omega)]
  simpa using h

theorem cell_of_block {w : World} {k : Nat} {l : List Value} {e : TypeId} (h : w.heap[k]? = some (.cells l.toArray e (0, 0))) (o : Nat) : w.cell? ⟨k, o, none⟩ = l[o]? := by
  simp [World.cell?, h]

theorem subL_some {cs l : List AV} {o n : Nat} (h : subL cs o n = some l) : o + n ≤ cs.length ∧ l = (cs.drop o).take n := by
  unfold subL at h
  split at h
  · rename_i hle; injection h with h; exact ⟨hle, h.symm⟩
  · cases h

theorem load1_sound (hH : HRel E c H) {A x : AV} {v : Value} (h : load1 A H = some x) (hv : VRel E c A v) : ∃ b o u, v = .pointer (some ⟨b, o, none⟩) ∧ c.w.cell? ⟨b, o, none⟩ = some u ∧ VRel E c x u := by
  cases A with
  | ptrF cs o =>
    simp only [load1] at h
    simp only [VRel] at hv
    obtain ⟨b, o', rfl, hc⟩ := hv
    obtain ⟨u, h1, h2⟩ := hc.get h
    exact ⟨b, o' + o, u, rfl, h1, h2⟩
  | ptrL b o g =>
    simp only [load1, Option.bind_eq_some_iff] at h
    obtain ⟨cs, hc, hx⟩ := h
    obtain ⟨sz, p0, pre, rest, e, hb, hg, _, _, hw, _, hp0, hl⟩ := hH.block hc
    simp only [VRel] at hv
    obtain ⟨_, p, rfl, hp⟩ := hv
    obtain rfl := hp hg
    obtain ⟨u, h1, h2⟩ := hl.get hx
    refine ⟨c.al b, c.base b + o, u, rfl, ?_, h2⟩
    rw [cell_of_block hw, ← hp0]
    exact mid_get h1
  | _ => simp [load1] at h

theorem CRel.sub {xs : List AV} {b o : Nat} (h : CRel E c xs b o) (i n : Nat) (hi : i + n ≤ xs.length) :
    ∃ us : List Value, us.length = n ∧ LRel E c ((xs.drop i).take n) us ∧ ∀ j u, us[j]? = some u → c.w.cell? ⟨b, o + i + j, none⟩ = some u := by
  induction n generalizing i with
  | zero => exact ⟨[], rfl, by simp [LRel], by simp⟩
  | succ n ih =>
    obtain ⟨us, h1, h2, h3⟩ := ih (i + 1) (by omega)
    have hlt : i < xs.length := by omega
    obtain ⟨u, h4, h5⟩ := h.get (List.getElem?_eq_getElem hlt)
    refine ⟨u :: us, by simp [h1], ?_, ?_⟩
    · rw [List.drop_eq_getElem_cons hlt, List.take_succ_cons]
      simp only [LRel]
      exact ⟨u, us, rfl, h5, h2⟩
    · intro j x hj
      cases j with
      | zero => simp at hj; subst hj; simpa using h4
      | succ j =>
        have := h3 j x (by simpa using hj)
        rw [← this]; congr 2; omega

theorem loadN_sound (hH : HRel E c H) {A x : AV} {v : Value} {n : Nat} (h : loadN n A H = some x) (hv : VRel E c A v) :
    ∃ b o us l, v = .pointer (some ⟨b, o, none⟩) ∧ x = .agg l ∧ us.length = n ∧ LRel E c l us ∧ ∀ j u, us[j]? = some u → c.w.cell? ((⟨b, o, none⟩ : Addr).add j) = some u := by
  cases A with
  | ptrF cs o =>
    simp only [loadN, Option.map_eq_some_iff] at h
    obtain ⟨l, h, rfl⟩ := h
    obtain ⟨hle, rfl⟩ := subL_some h
    simp only [VRel] at hv
    obtain ⟨b, o', rfl, hc⟩ := hv
    obtain ⟨us, h1, h2, h3⟩ := hc.sub o n hle
    exact ⟨b, o' + o, us, _, rfl, rfl, h1, h2, fun j u hj => by rw [Addr.add_at]; exact h3 j u hj⟩
  | ptrL b o g =>
    simp only [loadN, Option.bind_eq_some_iff, Option.map_eq_some_iff] at h
    obtain ⟨cs, hc, l, h, rfl⟩ := h
    obtain ⟨hle, rfl⟩ := subL_some h
    obtain ⟨sz, p0, pre, rest, e, hb, hg, _, _, hw, _, hp0, hl⟩ := hH.block hc
    simp only [VRel] at hv
    obtain ⟨_, p, rfl, hp⟩ := hv
    obtain rfl := hp hg
    have hlen := hl.length
    refine ⟨c.al b, c.base b + o, (pre.drop o).take n, _, rfl, rfl, by simp; omega, (hl.drop o).take n, fun j u hj => ?_⟩
    rw [Addr.add_at, cell_of_block hw, ← hp0, Nat.add_assoc]
    have hj' : j < n := by
      have := (List.getElem?_eq_some_iff.1 hj).1
      simp at this; omega
    rw [List.getElem?_take_of_lt hj', List.getElem?_drop] at hj
    exact mid_get hj
  | _ => simp [loadN] at h

/-- what an operation without a call leaves -/
def Does (E : Env) (P : Program) (c : Cx) (H : AH) (o : Oper) (a : Act) (K : Kt) : Prop :=
  ∃ v c' H' x, ((execOp a.eval o).run P c.w = .ok (.value v) c'.w ∨ ((execOp a.eval o).run P c.w = .ok .skip c'.w ∧ v = undef)) ∧ K x H' ∧ HRel E c' H' ∧ VRel E c' x v ∧ Later c c' ∧ ((c' = c ∧ H' = H) ∨ readOp o.op = false)

theorem Does.read {o : Oper} {K : Kt} {v : Value} {x : AV} (hH : HRel E c H) (h : (execOp a.eval o).run P c.w = .ok (.value v) c.w) (hv : VRel E c x v) (hk : K x H) : Does E P c H o a K :=
  ⟨v, c, H, x, .inl h, hk, hH, hv, Later.refl c, .inl ⟨rfl, rfl⟩⟩

theorem setRow_is {w : World} {g : Nat} {cur cs : Array Value} {t : TypeId} {fr : Nat × Nat} (h : w.heap[g]? = some (.cells cur t fr)) : (w.setRow g cs).heap = w.heap.setIfInBounds g (.cells cs t fr) := by
  have hlt : g < w.heap.size := by
    rcases Nat.lt_or_ge g w.heap.size with hh | hh
    · exact hh
    · rw [Array.getElem?_eq_none hh] at h; cases h
  have hg : w.heap[g] = .cells cur t fr := by rw [Array.getElem?_eq_getElem hlt] at h; injection h
  simp only [World.setRow]
  apply Array.ext_getElem?
  intro i
  rw [Array.getElem?_modify, Array.getElem?_setIfInBounds]
  by_cases hi : g = i
  · subst hi; simp [hlt, hg]
  · simp [hi]

theorem scalar_one {x : AV} {u : Value} (hs : x.scalar = true) (hu : VRel E c x u) : u.cells = #[u] ∧ u.oneCell' = true := by
  cases x with
  | junk => simp [AV.scalar] at hs
  | agg l => simp [AV.scalar] at hs
  | tup l => simp [AV.scalar] at hs
  | val v =>
    simp only [VRel] at hu; subst hu
    cases u <;> simp_all [AV.scalar, Value.cells, Value.oneCell']
  | ptrL b o g => simp only [VRel] at hu; obtain ⟨_, q, rfl, _⟩ := hu; exact ⟨rfl, rfl⟩
  | ptrF l o => simp only [VRel] at hu; obtain ⟨_, _, rfl, _⟩ := hu; exact ⟨rfl, rfl⟩
  | slL b o n g => simp only [VRel] at hu; obtain ⟨_, q, _, rfl, _⟩ := hu; exact ⟨rfl, rfl⟩
  | slF l o n => simp only [VRel] at hu; obtain ⟨_, _, rfl, _⟩ := hu; exact ⟨rfl, rfl⟩
  | slN l n => simp only [VRel] at hu; rcases hu with ⟨rfl, _⟩ | ⟨_, _, rfl, _⟩ <;> exact ⟨rfl, rfl⟩
  | slT b l n g => simp only [VRel] at hu; obtain ⟨_, _, _, rfl, _⟩ := hu; exact ⟨rfl, rfl⟩
  | ifc k y => simp only [VRel] at hu; obtain ⟨_, rfl, _⟩ := hu; exact ⟨rfl, rfl⟩
  | fn k y z => simp only [VRel] at hu; obtain ⟨_, _, rfl, _⟩ := hu; exact ⟨rfl, rfl⟩
  | mapL b g => simp only [VRel] at hu; obtain ⟨_, q, rfl, _⟩ := hu; exact ⟨rfl, rfl⟩
  | mapF l m => simp only [VRel] at hu; obtain ⟨_, _, _, rfl, _⟩ := hu; exact ⟨rfl, rfl⟩

theorem scalar_all {xs : List AV} {vs : List Value} (hs : xs.all AV.scalar = true) (h : LRel E c xs vs) : ∀ v ∈ vs, v.oneCell' = true := by
  induction xs generalizing vs with
  | nil => simp [LRel] at h; simp [h]
  | cons x xs ih =>
    simp only [LRel] at h
    obtain ⟨u, us, rfl, hu, h⟩ := h
    simp only [List.all_cons, Bool.and_eq_true] at hs
    intro v hv
    rcases List.mem_cons.1 hv with rfl | hv
    · exact (scalar_one hs.1 hu).2
    · exact ih hs.2 h v hv

theorem cells?_some {x : AV} {l : List AV} {u : Value} (h : x.cells? = some l) (hu : VRel E c x u) : LRel E c l u.cells.toList := by
  unfold AV.cells? at h
  split at h
  · rename_i cs
    injection h with h; subst h
    simp only [VRel] at hu
    obtain ⟨vs, rfl, hl⟩ := hu
    simpa [Value.cells] using hl
  · split at h
    · rename_i hs
      injection h with h; subst h
      rw [(scalar_one hs hu).1]
      simp only [LRel]; exact ⟨u, [], rfl, hu, rfl⟩
    · cases h

theorem putL_some {cs xs l : List AV} {o : Nat} (h : putL cs o xs = some l) : o + xs.length ≤ cs.length ∧ l = cs.take o ++ xs ++ cs.drop (o + xs.length) := by
  unfold putL at h
  split at h
  · rename_i hle; injection h with h; exact ⟨hle, h.symm⟩
  · cases h

/-- cells of a live block are written -/
theorem HRel.write (hH : HRel E c H) {b g o : Nat} {cs xs : List AV} {us : List Value} (hc : H.cells b g = some cs) (hle : o + xs.length ≤ cs.length) (hu : LRel E c xs us) (h1 : ∀ v ∈ us, v.oneCell' = true) :
    ∃ w', (storeCells ⟨c.al b, c.base b + o, none⟩ us).run P c.w = .ok () w' ∧ ∃ c', c'.w = w' ∧ HRel E c' (H.set b (cs.take o ++ xs ++ cs.drop (o + xs.length))) ∧ Later c c' := by
  obtain ⟨sz, p0, pre, rest, e, hb, hg, hgc, hs, hw, hcs, hp0, hl⟩ := hH.block hc
  have hlen := hl.length
  have hlu := hu.length
  have hrun := run_storeCells_at P (c.al b) (c.base b + o) e us 0 (p0 ++ pre ++ rest).toArray c.w hw (by simp; omega) h1
  refine ⟨_, hrun, ?_⟩
  have hset : p0 ++ (pre.take o ++ us ++ pre.drop (o + us.length)) ++ rest = ((p0 ++ pre ++ rest).take (c.base b + o) ++ us ++ (p0 ++ pre ++ rest).drop (c.base b + o + us.length)) := by
    rw [← hp0]
    have e1 : p0.length + o - p0.length = o := by omega
    have e2 : p0.length + o + us.length - p0.length = o + us.length := by omega
    have e3 : o - pre.length = 0 := by omega
    have e4 : o + us.length - pre.length = 0 := by omega
    have e5 : p0.drop (p0.length + o + us.length) = [] := List.drop_eq_nil_of_le (by omega)
    have e6 : p0.take (p0.length + o) = p0 := List.take_of_length_le (by omega)
    simp [List.take_append, List.drop_append, e1, e2, e3, e4, e5, e6]
  obtain ⟨k1, k2⟩ := hH.setRow (w' := c.w.setRow (c.al b) (p0 ++ (pre.take o ++ us ++ pre.drop (o + us.length)) ++ rest).toArray) (cs' := cs.take o ++ xs ++ cs.drop (o + xs.length)) (pre' := pre.take o ++ us ++ pre.drop (o + us.length)) (rest := rest) hb hw hp0
    (by simp; omega) (((hl.take o).append hu).append (by rw [hlu]; exact hl.drop _)) (setRow_is hw) rfl rfl rfl
  refine ⟨_, ?_, ?_, k2⟩
  · show c.w.setRow (c.al b) _ = _
    rw [hset]; simp
  · simp only [AH.set, hb]; exact k1

theorem store1_sound (hH : HRel E c H) {A x : AV} {H' : AH} {p u : Value} (h : store1 A x H = some H') (hp : VRel E c A p) (hu : VRel E c x u) :
    ∃ ad, p = .pointer (some ad) ∧ u.cells = #[u] ∧ (∃ w', (storeCells ad [u]).run P c.w = .ok () w' ∧ ∃ c', c'.w = w' ∧ HRel E c' H' ∧ Later c c') := by
  cases A with
  | ptrL b o g =>
    simp only [store1] at h
    split at h
    · rename_i hs
      simp only [Option.bind_eq_some_iff] at h
      obtain ⟨cs, hc, h⟩ := h
      split at h
      · rename_i ho
        injection h with h
        obtain ⟨sz, p0, pre, rest, e, hb, hg, -⟩ := hH.block hc
        simp only [VRel] at hp
        obtain ⟨_, p, rfl, hp⟩ := hp
        obtain rfl := hp hg
        have hone := scalar_one hs hu
        obtain ⟨w', h1, c', h2, h3, h4⟩ := hH.write (P := P) (xs := [x]) (us := [u]) (o := o) hc (by simp; omega) (by simp only [LRel]; exact ⟨u, [], rfl, hu, rfl⟩) (by simpa using hone.2)
        refine ⟨_, rfl, hone.1, w', h1, c', h2, ?_, h4⟩
        rw [← h, List.set_eq_take_append_cons_drop, if_pos ho]
        simpa using h3
      · cases h
    · cases h
  | _ => simp [store1] at h

theorem storeN_sound (hH : HRel E c H) {A x : AV} {H' : AH} {p u : Value} {n : Nat} (h : storeN n A x H = some H') (hp : VRel E c A p) (hu : VRel E c x u) :
    ∃ ad, p = .pointer (some ad) ∧ u.cells.size = n ∧ (∃ w', (storeCells ad u.cells.toList).run P c.w = .ok () w' ∧ ∃ c', c'.w = w' ∧ HRel E c' H' ∧ Later c c') := by
  unfold storeN at h
  split at h
  · rename_i b o g xs
    split at h
    · rename_i hs
      simp only [Option.bind_eq_some_iff, Option.map_eq_some_iff] at h
      obtain ⟨cs, hc, cs', hput, h⟩ := h
      obtain ⟨hle, rfl⟩ := putL_some hput
      obtain ⟨sz, p0, pre, rest, e, hb, hg, -⟩ := hH.block hc
      simp only [VRel] at hp hu
      obtain ⟨_, p, rfl, hp⟩ := hp
      obtain rfl := hp hg
      obtain ⟨vs, rfl, hl⟩ := hu
      obtain ⟨w', h1, c', h2, h3, h4⟩ := hH.write (P := P) hc hle hl (scalar_all hs.2 hl)
      exact ⟨_, rfl, by simp [Value.cells, ← hl.length, hs.1], w', by simpa [Value.cells] using h1, c', h2, by rw [← h]; exact h3, h4⟩
    · cases h
  · cases h
end
end Go.Sc
