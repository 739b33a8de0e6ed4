/- EACH OPERATION DOES WHAT ITS NODE SAYS. EACH OPERATION WITHOUT A CALL DOES WHAT ITS NODE SAYS. EACH OPERATION WITHOUT A CALL DOES WHAT ITS NODE SAYS: the rest. EACH OPERATION WITHOUT A CALL DOES WHAT ITS NODE SAYS: slices, literals, append. EACH OPERATION WITHOUT A CALL DOES WHAT ITS NODE SAYS: literals, make, append, len. APPEND DOES WHAT ITS NODE SAYS; and all operations without a call, in one. (of the seat YtldomhanfhfonaaGreatDoor) -/
import Derived.Test.YtldomhanfhfonaaGreatDoorCore1
import Derived.Laws.Alloc2
import Derived.Laws.MakeOwn
import Derived.Laws.Append
namespace Go.Sc
open Go
section
variable {E : Env} {P : Program} {c : Cx} {ts : List AV} {H : AH} {a : Act} {w : World}
theorem ev_rel (hH : HRel E c H) (h : LRel E c ts a.tmps.toList) (x : Operand) : VRel E c (ev E ts x) (a.eval x) := by
  cases x with
  | tmp t =>
    simp only [ev, Act.eval]
    cases ht : ts[t]? with
    | some y =>
      obtain ⟨v, h1, h2⟩ := h.get ht
      have : a.tmps[t]? = some v := by simpa using h1
      simp [List.getD, ht, Array.getD_eq_getD_getElem?, this, h2]
    | none =>
      have hl : a.tmps[t]? = none := by
        have := h.length
        have h2 := List.getElem?_eq_none_iff.1 ht
        rw [Array.getElem?_eq_none_iff]
        simp at this h2; omega
      simp [List.getD, ht, Array.getD_eq_getD_getElem?, hl, undefA, undef, VRel]
  | const v =>
    simp only [ev, Act.eval]
    unfold constA
    split
    · simp only [VRel]; exact ⟨_, by simp, LRel_vals E c _⟩
    · simp [VRel]
  | global g =>
    simp only [ev, Act.eval]
    split
    · rename_i hg
      unfold gptr
      split
      · rename_i cs hcs
        have := (hH.glob _ cs hcs).2
        rw [hg] at this
        simp only [VRel]
        exact ⟨g, 0, rfl, this⟩
      · simp [VRel]
    · simp [VRel]
  | func f =>
    simp only [ev, Act.eval]
    by_cases hf : E.fn (E.fk f) = f
    · rw [if_pos hf]; simp only [VRel, LRel, hf]; exact ⟨[], [], rfl, rfl, rfl⟩
    · rw [if_neg hf]; simp [VRel]

theorem evs_rel (hH : HRel E c H) (h : LRel E c ts a.tmps.toList) : ∀ xs : List Operand, LRel E c (xs.map (ev E ts)) (xs.map a.eval)
  | [] => by simp [LRel]
  | x :: xs => by simp only [List.map_cons, LRel]; exact ⟨_, _, rfl, ev_rel hH h x, evs_rel hH h xs⟩

theorem run_underlying' {t : TypeId} {d : TypeDesc} (h : P.underlying t = some d) (w : World) : (underlying t).run P w = .ok d w := by
  simp [underlying, h]
theorem run_typeInfo' {t : TypeId} {i : TypeInfo} (h : P.info? t = some i) (w : World) : (typeInfo t).run P w = .ok i w := by
  simp [typeInfo, h]

theorem tyB_some {t : TypeId} {b : Bool} {n : Nat} (h : tyB P t = some (b, n)) :
    ∃ d i, P.underlying t = some d ∧ P.info? t = some i ∧ i.size = n ∧ b = (match d with | .struct _ => true | .array _ _ => true | _ => false) := by
  unfold tyB at h
  split at h
  · rename_i d i h1 h2
    simp only [Option.some.injEq, Prod.mk.injEq] at h
    exact ⟨d, i, h1, h2, h.2, h.1.symm⟩
  · cases h
theorem run_isAgg {t : TypeId} {b : Bool} {n : Nat} (h : tyB P t = some (b, n)) (w : World) : (isAgg t).run P w = .ok b w := by
  obtain ⟨d, i, h1, h2, h3, rfl⟩ := tyB_some h
  simp only [isAgg, Sem.run_bind, run_underlying' h1, Result.andThen_ok]
  cases d <;> rfl
theorem run_sizeOf {t : TypeId} {b : Bool} {n : Nat} (h : tyB P t = some (b, n)) (w : World) : (sizeOf t).run P w = .ok n w := by
  obtain ⟨d, i, h1, h2, rfl, _⟩ := tyB_some h
  simp [sizeOf, run_typeInfo' h2]
theorem run_zero {t : TypeId} {z : List AV} (h : zeroB P t = some z) (w : World) : ∃ v, (zeroValue t).run P w = .ok v w ∧ z = v.cells.toList.map .val ∧ (∀ x ∈ v.cells.toList, okCell x = true) ∧
    some v.cells.size = (tyB P t).map (·.2) := by
  unfold zeroB at h
  split at h
  · rename_i v hv
    split at h
    · rename_i hok
      injection h with h
      cases hi : P.info? t with
      | none => simp [hi] at hv
      | some i =>
        simp [hi] at hv
        refine ⟨v, ?_, h.symm, ?_, ?_⟩
        · simp [zeroValue, run_typeInfo' hi, hv]
        · simp only [Bool.and_eq_true, List.all_eq_true] at hok; exact hok.1
        · simp only [Bool.and_eq_true, beq_iff_eq] at hok; exact hok.2
    · cases h
  · cases h

theorem Addr.add_at (b o n : Nat) : (⟨b, o, none⟩ : Addr).add n = ⟨b, o + n, none⟩ := by
  unfold Addr.add
  split
  · rename_i h; subst h; rfl
  · rfl

theorem AH.cells_some {b g : Nat} {cs : List AV} (h : H.cells b g = some cs) : ∃ sz, H.bs[b]? = some (.cells g sz cs) := by
  unfold AH.cells at h
  split at h
  · rename_i g' sz cs' hb
    split at h
    · rename_i hg; subst hg; injection h with h; subst h; exact ⟨sz, hb⟩
    · cases h
  · cases h

theorem HRel.esz (h : HRel E c H) {b g n : Nat} (hc : H.esz b g = some n) : c.sz b = n := by
  unfold AH.esz at hc
  split at hc
  · rename_i g' sz cs' hb
    split at hc
    · rename_i hg; subst hg; injection hc with hc; subst hc; exact (h.blk b _ hb).2.2.1
    · cases hc
  · cases hc

theorem HRel.tsz (h : HRel E c H) {b g n : Nat} (hc : H.tsz b g = some n) : c.sz b = n := by
  unfold AH.tsz at hc
  split at hc
  · rename_i g' sz hb
    split at hc
    · rename_i hg; subst hg; injection hc with hc; subst hc; exact (h.blk b _ hb).2.2.1
    · cases hc
  · cases hc

/-- a live block's cells -/
theorem HRel.block (h : HRel E c H) {b g : Nat} {cs : List AV} (hc : H.cells b g = some cs) :
    ∃ sz p0 pre rest e, H.bs[b]? = some (.cells g sz cs) ∧ c.gen b = some g ∧ g < c.ctr ∧ c.sz b = sz ∧ c.w.heap[c.al b]? = some (.cells (p0 ++ pre ++ rest).toArray e (0, 0)) ∧ c.csz b = (p0 ++ pre ++ rest).length ∧
      p0.length = c.base b ∧ LRel E c cs pre := by
  obtain ⟨sz, hb⟩ := AH.cells_some hc
  obtain ⟨h1, h2, h3, arr, e, h4, h5, p0, pre, rest, rfl, h6, h7⟩ := h.blk b _ hb
  exact ⟨sz, p0, pre, rest, e, hb, h2, h1, h3, h4, h5, h6, h7⟩

/-- a cell of a live block -/
theorem mid_get {p0 pre rest : List Value} {i : Nat} {u : Value} (h : pre[i]? = some u) : (p0 ++ pre ++ rest)[p0.length + i]? = some u := by
  have hi := (List.getElem?_eq_some_iff.1 h).1
  rw [List.getElem?_append_left (by simp; omega), List.getElem?_append_right (by omega)]
  simpa using h

theorem cell_of_block {w : World} {k : Nat} {l : List Value} {e : TypeId} (h : w.heap[k]? = some (.cells l.toArray e (0, 0))) (o : Nat) : w.cell? ⟨k, o, none⟩ = l[o]? := by
  simp [World.cell?, h]

theorem subL_some {cs l : List AV} {o n : Nat} (h : subL cs o n = some l) : o + n ≤ cs.length ∧ l = (cs.drop o).take n := by
  unfold subL at h
  split at h
  · rename_i hle; injection h with h; exact ⟨hle, h.symm⟩
  · cases h

theorem load1_sound (hH : HRel E c H) {A x : AV} {v : Value} (h : load1 A H = some x) (hv : VRel E c A v) : ∃ b o u, v = .pointer (some ⟨b, o, none⟩) ∧ c.w.cell? ⟨b, o, none⟩ = some u ∧ VRel E c x u := by
  cases A with
  | ptrF cs o =>
    simp only [load1] at h
    simp only [VRel] at hv
    obtain ⟨b, o', rfl, hc⟩ := hv
    obtain ⟨u, h1, h2⟩ := hc.get h
    exact ⟨b, o' + o, u, rfl, h1, h2⟩
  | ptrL b o g =>
    simp only [load1, Option.bind_eq_some_iff] at h
    obtain ⟨cs, hc, hx⟩ := h
    obtain ⟨sz, p0, pre, rest, e, hb, hg, _, _, hw, _, hp0, hl⟩ := hH.block hc
    simp only [VRel] at hv
    obtain ⟨_, p, rfl, hp⟩ := hv
    obtain rfl := hp hg
    obtain ⟨u, h1, h2⟩ := hl.get hx
    refine ⟨c.al b, c.base b + o, u, rfl, ?_, h2⟩
    rw [cell_of_block hw, ← hp0]
    exact mid_get h1
  | _ => simp [load1] at h

theorem CRel.sub {xs : List AV} {b o : Nat} (h : CRel E c xs b o) (i n : Nat) (hi : i + n ≤ xs.length) :
    ∃ us : List Value, us.length = n ∧ LRel E c ((xs.drop i).take n) us ∧ ∀ j u, us[j]? = some u → c.w.cell? ⟨b, o + i + j, none⟩ = some u := by
  induction n generalizing i with
  | zero => exact ⟨[], rfl, by simp [LRel], by simp⟩
  | succ n ih =>
    obtain ⟨us, h1, h2, h3⟩ := ih (i + 1) (by omega)
    have hlt : i < xs.length := by omega
    obtain ⟨u, h4, h5⟩ := h.get (List.getElem?_eq_getElem hlt)
    refine ⟨u :: us, by simp [h1], ?_, ?_⟩
    · rw [List.drop_eq_getElem_cons hlt, List.take_succ_cons]
      simp only [LRel]
      exact ⟨u, us, rfl, h5, h2⟩
    · intro j x hj
      cases j with
      | zero => simp at hj; subst hj; simpa using h4
      | succ j =>
        have := h3 j x (by simpa using hj)
        rw [← this]; congr 2; omega

theorem loadN_sound (hH : HRel E c H) {A x : AV} {v : Value} {n : Nat} (h : loadN n A H = some x) (hv : VRel E c A v) :
    ∃ b o us l, v = .pointer (some ⟨b, o, none⟩) ∧ x = .agg l ∧ us.length = n ∧ LRel E c l us ∧ ∀ j u, us[j]? = some u → c.w.cell? ((⟨b, o, none⟩ : Addr).add j) = some u := by
  cases A with
  | ptrF cs o =>
    simp only [loadN, Option.map_eq_some_iff] at h
    obtain ⟨l, h, rfl⟩ := h
    obtain ⟨hle, rfl⟩ := subL_some h
    simp only [VRel] at hv
    obtain ⟨b, o', rfl, hc⟩ := hv
    obtain ⟨us, h1, h2, h3⟩ := hc.sub o n hle
    exact ⟨b, o' + o, us, _, rfl, rfl, h1, h2, fun j u hj => by rw [Addr.add_at]; exact h3 j u hj⟩
  | ptrL b o g =>
    simp only [loadN, Option.bind_eq_some_iff, Option.map_eq_some_iff] at h
    obtain ⟨cs, hc, l, h, rfl⟩ := h
    obtain ⟨hle, rfl⟩ := subL_some h
    obtain ⟨sz, p0, pre, rest, e, hb, hg, _, _, hw, _, hp0, hl⟩ := hH.block hc
    simp only [VRel] at hv
    obtain ⟨_, p, rfl, hp⟩ := hv
    obtain rfl := hp hg
    have hlen := hl.length
    refine ⟨c.al b, c.base b + o, (pre.drop o).take n, _, rfl, rfl, by simp; omega, (hl.drop o).take n, fun j u hj => ?_⟩
    rw [Addr.add_at, cell_of_block hw, ← hp0, Nat.add_assoc]
    have hj' : j < n := by
      have := (List.getElem?_eq_some_iff.1 hj).1
      simp at this; omega
    rw [List.getElem?_take_of_lt hj', List.getElem?_drop] at hj
    exact mid_get hj
  | _ => simp [loadN] at h

/-- what an operation without a call leaves -/
def Does (E : Env) (P : Program) (c : Cx) (H : AH) (o : Oper) (a : Act) (K : Kt) : Prop :=
  ∃ v c' H' x, ((execOp a.eval o).run P c.w = .ok (.value v) c'.w ∨ ((execOp a.eval o).run P c.w = .ok .skip c'.w ∧ v = undef)) ∧ K x H' ∧ HRel E c' H' ∧ VRel E c' x v ∧ Later c c' ∧ ((c' = c ∧ H' = H) ∨ readOp o.op = false)

theorem Does.read {o : Oper} {K : Kt} {v : Value} {x : AV} (hH : HRel E c H) (h : (execOp a.eval o).run P c.w = .ok (.value v) c.w) (hv : VRel E c x v) (hk : K x H) : Does E P c H o a K :=
  ⟨v, c, H, x, .inl h, hk, hH, hv, Later.refl c, .inl ⟨rfl, rfl⟩⟩

theorem setRow_is {w : World} {g : Nat} {cur cs : Array Value} {t : TypeId} {fr : Nat × Nat} (h : w.heap[g]? = some (.cells cur t fr)) : (w.setRow g cs).heap = w.heap.setIfInBounds g (.cells cs t fr) := by
  have hlt : g < w.heap.size := by
    rcases Nat.lt_or_ge g w.heap.size with hh | hh
    · exact hh
    · rw [Array.getElem?_eq_none hh] at h; cases h
  have hg : w.heap[g] = .cells cur t fr := by rw [Array.getElem?_eq_getElem hlt] at h; injection h
  simp only [World.setRow]
  apply Array.ext_getElem?
  intro i
  rw [Array.getElem?_modify, Array.getElem?_setIfInBounds]
  by_cases hi : g = i
  · subst hi; simp [hlt, hg]
  · simp [hi]

theorem scalar_one {x : AV} {u : Value} (hs : x.scalar = true) (hu : VRel E c x u) : u.cells = #[u] ∧ u.oneCell' = true := by
  cases x with
  | junk => simp [AV.scalar] at hs
  | agg l => simp [AV.scalar] at hs
  | tup l => simp [AV.scalar] at hs
  | val v =>
    simp only [VRel] at hu; subst hu
    cases u <;> simp_all [AV.scalar, Value.cells, Value.oneCell']
  | ptrL b o g => simp only [VRel] at hu; obtain ⟨_, q, rfl, _⟩ := hu; exact ⟨rfl, rfl⟩
  | ptrF l o => simp only [VRel] at hu; obtain ⟨_, _, rfl, _⟩ := hu; exact ⟨rfl, rfl⟩
  | slL b o n g => simp only [VRel] at hu; obtain ⟨_, q, _, rfl, _⟩ := hu; exact ⟨rfl, rfl⟩
  | slF l o n => simp only [VRel] at hu; obtain ⟨_, _, rfl, _⟩ := hu; exact ⟨rfl, rfl⟩
  | slN l n => simp only [VRel] at hu; rcases hu with ⟨rfl, _⟩ | ⟨_, _, rfl, _⟩ <;> exact ⟨rfl, rfl⟩
  | slT b l n g => simp only [VRel] at hu; obtain ⟨_, _, _, rfl, _⟩ := hu; exact ⟨rfl, rfl⟩
  | ifc k y => simp only [VRel] at hu; obtain ⟨_, rfl, _⟩ := hu; exact ⟨rfl, rfl⟩
  | fn k y z => simp only [VRel] at hu; obtain ⟨_, _, rfl, _⟩ := hu; exact ⟨rfl, rfl⟩
  | mapL b g => simp only [VRel] at hu; obtain ⟨_, q, rfl, _⟩ := hu; exact ⟨rfl, rfl⟩
  | mapF l m => simp only [VRel] at hu; obtain ⟨_, _, _, rfl, _⟩ := hu; exact ⟨rfl, rfl⟩

theorem scalar_all {xs : List AV} {vs : List Value} (hs : xs.all AV.scalar = true) (h : LRel E c xs vs) : ∀ v ∈ vs, v.oneCell' = true := by
  induction xs generalizing vs with
  | nil => simp [LRel] at h; simp [h]
  | cons x xs ih =>
    simp only [LRel] at h
    obtain ⟨u, us, rfl, hu, h⟩ := h
    simp only [List.all_cons, Bool.and_eq_true] at hs
    intro v hv
    rcases List.mem_cons.1 hv with rfl | hv
    · exact (scalar_one hs.1 hu).2
    · exact ih hs.2 h v hv

theorem cells?_some {x : AV} {l : List AV} {u : Value} (h : x.cells? = some l) (hu : VRel E c x u) : LRel E c l u.cells.toList := by
  unfold AV.cells? at h
  split at h
  · rename_i cs
    injection h with h; subst h
    simp only [VRel] at hu
    obtain ⟨vs, rfl, hl⟩ := hu
    simpa [Value.cells] using hl
  · split at h
    · rename_i hs
      injection h with h; subst h
      rw [(scalar_one hs hu).1]
      simp only [LRel]; exact ⟨u, [], rfl, hu, rfl⟩
    · cases h

theorem putL_some {cs xs l : List AV} {o : Nat} (h : putL cs o xs = some l) : o + xs.length ≤ cs.length ∧ l = cs.take o ++ xs ++ cs.drop (o + xs.length) := by
  unfold putL at h
  split at h
  · rename_i hle; injection h with h; exact ⟨hle, h.symm⟩
  · cases h

/-- cells of a live block are written -/
theorem HRel.write (hH : HRel E c H) {b g o : Nat} {cs xs : List AV} {us : List Value} (hc : H.cells b g = some cs) (hle : o + xs.length ≤ cs.length) (hu : LRel E c xs us) (h1 : ∀ v ∈ us, v.oneCell' = true) :
    ∃ w', (storeCells ⟨c.al b, c.base b + o, none⟩ us).run P c.w = .ok () w' ∧ ∃ c', c'.w = w' ∧ HRel E c' (H.set b (cs.take o ++ xs ++ cs.drop (o + xs.length))) ∧ Later c c' := by
  obtain ⟨sz, p0, pre, rest, e, hb, hg, hgc, hs, hw, hcs, hp0, hl⟩ := hH.block hc
  have hlen := hl.length
  have hlu := hu.length
  have hrun := run_storeCells_at P (c.al b) (c.base b + o) e us 0 (p0 ++ pre ++ rest).toArray c.w hw (by simp; omega) h1
  refine ⟨_, hrun, ?_⟩
  have hset : p0 ++ (pre.take o ++ us ++ pre.drop (o + us.length)) ++ rest = ((p0 ++ pre ++ rest).take (c.base b + o) ++ us ++ (p0 ++ pre ++ rest).drop (c.base b + o + us.length)) := by
    rw [← hp0]
    have e1 : p0.length + o - p0.length = o := by omega
    have e2 : p0.length + o + us.length - p0.length = o + us.length := by omega
    have e3 : o - pre.length = 0 := by omega
    have e4 : o + us.length - pre.length = 0 := by omega
    have e5 : p0.drop (p0.length + o + us.length) = [] := List.drop_eq_nil_of_le (by omega)
    have e6 : p0.take (p0.length + o) = p0 := List.take_of_length_le (by omega)
    simp [List.take_append, List.drop_append, e1, e2, e3, e4, e5, e6]
  obtain ⟨k1, k2⟩ := hH.setRow (w' := c.w.setRow (c.al b) (p0 ++ (pre.take o ++ us ++ pre.drop (o + us.length)) ++ rest).toArray) (cs' := cs.take o ++ xs ++ cs.drop (o + xs.length)) (pre' := pre.take o ++ us ++ pre.drop (o + us.length)) (rest := rest) hb hw hp0
    (by simp; omega) (((hl.take o).append hu).append (by rw [hlu]; exact hl.drop _)) (setRow_is hw) rfl rfl rfl
  refine ⟨_, ?_, ?_, k2⟩
  · show c.w.setRow (c.al b) _ = _
    rw [hset]; simp
  · simp only [AH.set, hb]; exact k1

theorem store1_sound (hH : HRel E c H) {A x : AV} {H' : AH} {p u : Value} (h : store1 A x H = some H') (hp : VRel E c A p) (hu : VRel E c x u) :
    ∃ ad, p = .pointer (some ad) ∧ u.cells = #[u] ∧ (∃ w', (storeCells ad [u]).run P c.w = .ok () w' ∧ ∃ c', c'.w = w' ∧ HRel E c' H' ∧ Later c c') := by
  cases A with
  | ptrL b o g =>
    simp only [store1] at h
    split at h
    · rename_i hs
      simp only [Option.bind_eq_some_iff] at h
      obtain ⟨cs, hc, h⟩ := h
      split at h
      · rename_i ho
        injection h with h
        obtain ⟨sz, p0, pre, rest, e, hb, hg, -⟩ := hH.block hc
        simp only [VRel] at hp
        obtain ⟨_, p, rfl, hp⟩ := hp
        obtain rfl := hp hg
        have hone := scalar_one hs hu
        obtain ⟨w', h1, c', h2, h3, h4⟩ := hH.write (P := P) (xs := [x]) (us := [u]) (o := o) hc (by simp; omega) (by simp only [LRel]; exact ⟨u, [], rfl, hu, rfl⟩) (by simpa using hone.2)
        refine ⟨_, rfl, hone.1, w', h1, c', h2, ?_, h4⟩
        rw [← h, List.set_eq_take_append_cons_drop, if_pos ho]
        simpa using h3
      · cases h
    · cases h
  | _ => simp [store1] at h

theorem storeN_sound (hH : HRel E c H) {A x : AV} {H' : AH} {p u : Value} {n : Nat} (h : storeN n A x H = some H') (hp : VRel E c A p) (hu : VRel E c x u) :
    ∃ ad, p = .pointer (some ad) ∧ u.cells.size = n ∧ (∃ w', (storeCells ad u.cells.toList).run P c.w = .ok () w' ∧ ∃ c', c'.w = w' ∧ HRel E c' H' ∧ Later c c') := by
  unfold storeN at h
  split at h
  · rename_i b o g xs
    split at h
    · rename_i hs
      simp only [Option.bind_eq_some_iff, Option.map_eq_some_iff] at h
      obtain ⟨cs, hc, cs', hput, h⟩ := h
      obtain ⟨hle, rfl⟩ := putL_some hput
      obtain ⟨sz, p0, pre, rest, e, hb, hg, -⟩ := hH.block hc
      simp only [VRel] at hp hu
      obtain ⟨_, p, rfl, hp⟩ := hp
      obtain rfl := hp hg
      obtain ⟨vs, rfl, hl⟩ := hu
      obtain ⟨w', h1, c', h2, h3, h4⟩ := hH.write (P := P) hc hle hl (scalar_all hs.2 hl)
      exact ⟨_, rfl, by simp [Value.cells, ← hl.length, hs.1], w', by simpa [Value.cells] using h1, c', h2, by rw [← h]; exact h3, h4⟩
    · cases h
  · cases h
end
end Go.Sc
namespace Go.Sc
open Go
section
variable {E : Env} {P : Program} {c : Cx} {ts : List AV} {H : AH} {a : Act} {K : Kt} {o : Oper}
theorem run_loadVar1 {t : TypeId} {n : Nat} (h : tyB P t = some (false, n)) {ad : Addr} {u : Value} {w : World} (hc : w.cell? ad = some u) : (loadVar t ad).run P w = .ok u w := by
  simp [loadVar, run_isAgg h, hc]
theorem run_loadVarN {t : TypeId} {n : Nat} (h : tyB P t = some (true, n)) {ad : Addr} {us : List Value} {w : World} (hl : us.length = n) (hc : ∀ j u, us[j]? = some u → w.cell? (ad.add j) = some u) :
    (loadVar t ad).run P w = .ok (.agg us.toArray) w := by
  have := run_loadCells_list (P := P) w ad us hc
  simp [loadVar, run_isAgg h, run_sizeOf h, ← hl, this]

theorem does_load {t : TypeId} {A : Operand} (ho : o.op = .load t A) (hH : HRel E c H) (hr : LRel E c ts a.tmps.toList) (h : opW E P o ts H K) : Does E P c H o a K := by
  simp only [opW, ho] at h
  have hA := ev_rel hH hr A
  split at h
  · rename_i n ht
    obtain ⟨x, hx, hk⟩ := h
    obtain ⟨b, o', us, l, hv, rfl, hlen, hl, hc⟩ := loadN_sound hH hx hA
    refine Does.read hH (v := .agg us.toArray) ?_ (by simp only [VRel]; exact ⟨us, rfl, hl⟩) hk
    simp [execOp, ho, Instr.loadAt, hv, Instr.sureAddr, run_loadVarN ht hlen hc]
  · rename_i n ht
    obtain ⟨x, hx, hk⟩ := h
    obtain ⟨b, o', u, hv, hc, hu⟩ := load1_sound hH hx hA
    refine Does.read hH (v := u) ?_ hu hk
    simp [execOp, ho, Instr.loadAt, hv, Instr.sureAddr, run_loadVar1 ht hc]
  · exact h.elim

theorem does_store {t : TypeId} {A x : Operand} (ho : o.op = .store t A x) (hH : HRel E c H) (hr : LRel E c ts a.tmps.toList) (h : opW E P o ts H K) : Does E P c H o a K := by
  simp only [opW, ho] at h
  have hA := ev_rel hH hr A
  have hx := ev_rel hH hr x
  split at h
  · rename_i n ht
    obtain ⟨H', hH', hk⟩ := h
    obtain ⟨ad, hv, hs, w', hrun, c', hw, h1, h2⟩ := storeN_sound (P := P) hH hH' hA hx
    refine ⟨undef, c', H', undefA, .inr ⟨?_, rfl⟩, hk, h1, by simp [undefA, undef, VRel], h2, .inr (by simp [ho, readOp])⟩
    simp [execOp, ho, Instr.storeAt, hv, Instr.sureAddr, storeVar, run_sizeOf ht, hs, hrun, hw]
  · rename_i n ht
    split at h
    · rename_i hn
      subst hn
      obtain ⟨H', hH', hk⟩ := h
      obtain ⟨ad, hv, hs, w', hrun, c', hw, h1, h2⟩ := store1_sound (P := P) hH hH' hA hx
      refine ⟨undef, c', H', undefA, .inr ⟨?_, rfl⟩, hk, h1, by simp [undefA, undef, VRel], h2, .inr (by simp [ho, readOp])⟩
      simp [execOp, ho, Instr.storeAt, hv, Instr.sureAddr, storeVar, run_sizeOf ht, hs, hrun, hw]
    · exact h.elim
  · exact h.elim

theorem run_newRow {e : TypeId} {cells : Array Value} {w : World} : (newRow e cells).run P w = .ok ⟨w.heap.size, 0, none⟩ (w.alloc (.cells cells e)) := by
  simp [newRow]

/-- a new block, in one of the ways -/
theorem new_sound {n : Nat} {t : TypeId} {u : Value} {l : List AV} {x : AV} {H' : AH} (hH : HRel E c H) (hl : LRel E c l u.cells.toList) (hn : NewR n l H x H') :
    ∃ c', c'.w = c.w.alloc (.cells u.cells t) ∧ HRel E c' H' ∧ Later c c' ∧ VRel E c' x (.pointer (some ⟨c.w.heap.size, 0, none⟩)) := by
  cases hn with
  | frz hs =>
    obtain ⟨c', h1, h2, h3, h4⟩ := hH.newFrz t u.cells.toList [] l hl
    refine ⟨c', by rw [h1]; simp, h2, h3, hs E c' _ ?_⟩
    simp only [VRel]
    exact ⟨_, 0, by simp, h4⟩
  | live b hb =>
    obtain ⟨c', h1, h2, h3, h4, _⟩ := hH.newCells hb n t u.cells.toList [] l hl
    exact ⟨c', by rw [h1]; simp, h2, h3, h4⟩

theorem does_new {n : Nat} {t : TypeId} {u : Value} {l : List AV} {x : AV} {H' : AH} (hH : HRel E c H) (hrun : (execOp a.eval o).run P c.w = .ok (.value (.pointer (some ⟨c.w.heap.size, 0, none⟩))) (c.w.alloc (.cells u.cells t)))
    (hl : LRel E c l u.cells.toList) (hn : NewR n l H x H') (hk : K x H') (hro : readOp o.op = false) : Does E P c H o a K := by
  obtain ⟨c', h1, h2, h3, h4⟩ := new_sound (t := t) hH hl hn
  exact ⟨_, c', _, _, .inl (by rw [hrun, h1]), hk, h2, h4, h3, .inr hro⟩

theorem does_alloc {t : TypeId} (ho : o.op = .alloc t) (hH : HRel E c H) (h : opW E P o ts H K) : Does E P c H o a K := by
  simp only [opW, ho] at h
  split at h
  · rename_i b n ht
    obtain ⟨l, x, H', hl, hn, hk⟩ := h
    obtain ⟨v, hv, rfl, _, _⟩ := run_zero hl c.w
    refine does_new (u := v) (t := t) hH ?_ (LRel_vals E c _) hn hk (by simp [ho, readOp])
    simp [execOp, ho, Instr.alloc, hv, newVar, run_newRow]
  · exact h.elim

theorem does_box {t : TypeId} {x : Operand} (ho : o.op = .box t x) (hH : HRel E c H) (hr : LRel E c ts a.tmps.toList) (h : opW E P o ts H K) : Does E P c H o a K := by
  simp only [opW, ho] at h
  have hx := ev_rel hH hr x
  split at h
  · rename_i b n ht
    obtain ⟨l, y, H', hl, hn, hk⟩ := h
    refine does_new (u := a.eval x) (t := t) hH ?_ (cells?_some hl hx) hn hk (by simp [ho, readOp])
    simp [execOp, ho, Instr.box, newVar, run_newRow]
  · exact h.elim

theorem does_pure {x : AV} {v : Value} (hH : HRel E c H) (h : (execOp a.eval o).run P c.w = .ok (.value v) c.w) (hv : VRel E c x v) (hk : K x H) : Does E P c H o a K := Does.read hH h hv hk

theorem does_move {x : Operand} (ho : o.op = .move x ∨ o.op = .assign x) (hH : HRel E c H) (hr : LRel E c ts a.tmps.toList) (h : opW E P o ts H K) : Does E P c H o a K := by
  have hx := ev_rel hH hr x
  rcases ho with ho | ho <;>
  · simp only [opW, ho] at h
    exact does_pure hH (by simp [execOp, ho]) hx h

theorem does_pick {x y z : Operand} (ho : o.op = .pick x y z) (hH : HRel E c H) (hr : LRel E c ts a.tmps.toList) (h : opW E P o ts H K) : Does E P c H o a K := by
  simp only [opW, ho] at h
  obtain ⟨r, hr', hk⟩ := h
  have hx := ev_rel hH hr x
  have hy := ev_rel hH hr y
  have hz := ev_rel hH hr z
  unfold pickA at hr'
  split at hr'
  · rename_i t hc
    injection hr' with hr'
    rw [hc] at hx; simp only [VRel] at hx
    refine does_pure hH (v := if t then a.eval y else a.eval z) ?_ ?_ hk
    · simp [execOp, ho, hx, asBool]
    · rw [← hr']; cases t <;> simpa
  · cases hr'

theorem does_nilCheck {x : Operand} (ho : o.op = .nilCheck x) (hH : HRel E c H) (hr : LRel E c ts a.tmps.toList) (h : opW E P o ts H K) : Does E P c H o a K := by
  simp only [opW, ho] at h
  obtain ⟨r, hr', hk⟩ := h
  have hx := ev_rel hH hr x
  cases hA : ev E ts x with
  | ptrL b off g =>
    rw [hA] at hr' hx; simp only [nilA] at hr'; injection hr' with hr'; subst hr'
    have hx' := hx
    simp only [VRel] at hx'
    obtain ⟨_, p, hp, _⟩ := hx'
    exact does_pure hH (v := a.eval x) (by simp [execOp, ho, hp]) hx hk
  | ptrF b off =>
    rw [hA] at hr' hx; simp only [nilA] at hr'; injection hr' with hr'; subst hr'
    have hx' := hx
    simp only [VRel] at hx'
    obtain ⟨_, _, hp, _⟩ := hx'
    exact does_pure hH (v := a.eval x) (by simp [execOp, ho, hp]) hx hk
  | fn k fs cs =>
    rw [hA] at hr' hx; simp only [nilA] at hr'; injection hr' with hr'; subst hr'
    have hx' := hx
    simp only [VRel] at hx'
    obtain ⟨_, _, hp, _⟩ := hx'
    exact does_pure hH (v := a.eval x) (by simp [execOp, ho, hp]) hx hk
  | _ => rw [hA] at hr'; simp [nilA] at hr'

theorem intBin_sound {op : BinOp} {k : IntKind} {x y : Int} {r : Value} (h : intBin op k x y = some r) (t : TypeId) (hop : op ≠ .shl ∧ op ≠ .shr) (w : World) : (binOp op t (.int k x) (.int k y)).run P w = .ok r w := by
  cases op <;> simp [intBin] at h hop <;> first
    | (subst h; simp [binOp, Op.intArith, Op.intBits, Op.intCmp])
    | (obtain ⟨h1, rfl⟩ := h; simp [binOp, Op.intDiv, h1])

theorem strBin_sound {op : BinOp} {x y : ByteArray} {r : Value} (h : strBin op x y = some r) (t : TypeId) (w : World) : (binOp op t (.string x) (.string y)).run P w = .ok r w := by
  cases op with
  | add =>
    simp only [strBin] at h
    split at h
    · cases h
    · rename_i h1
      injection h with h; subst h
      simp only [binOp, Op.stringOp, if_neg h1, Sem.run_pure]
  | _ => simp [strBin] at h <;> (subst h; simp [binOp, Op.stringOp])

theorem run_eqGuard {op : BinOp} {t : TypeId} {x y : Operand} {u v : Value} (h : (∃ k n, u = .int k n) ∨ (∃ s, u = .string s)) (w : World) : (eqGuard op t x y u v).run P w = .ok () w := by
  unfold eqGuard
  rcases h with ⟨k, n, rfl⟩ | ⟨s, rfl⟩ <;> cases op <;> simp

theorem does_bin {op : BinOp} {t : TypeId} {x y : Operand} {t' : TypeId} (ho : o.op = .binOp op t x y t') (hs : shpB P t = none) (hs2 : strB P t = none) (hH : HRel E c H) (hr : LRel E c ts a.tmps.toList) (h : opW E P o ts H K) : Does E P c H o a K := by
  simp only [opW, ho, hs, hs2] at h
  obtain ⟨r, hb, hk⟩ := h
  have hx := ev_rel hH hr x
  have hy := ev_rel hH hr y
  unfold binA at hb
  split at hb
  · rename_i k m k' m' e1 e2
    rw [e1] at hx; rw [e2] at hy
    simp only [VRel] at hx hy
    have hg := run_eqGuard (P := P) (op := op) (t := t) (x := x) (y := y) (u := .int k m) (v := .int k' m') (.inl ⟨_, _, rfl⟩) c.w
    split at hb
    · split at hb
      · cases hb
      · rename_i hn
        injection hb with hb; subst hb
        exact does_pure hH (v := .int k (k.wrap (m * 2 ^ (min m'.toNat k.bits)))) (by simp [execOp, ho, hg, hx, hy, binOp, Op.shift, hn]) (by simp [VRel]) hk
    · split at hb
      · cases hb
      · rename_i hn
        injection hb with hb; subst hb
        exact does_pure hH (v := .int k (m.fdiv (2 ^ (min m'.toNat k.bits)))) (by simp [execOp, ho, hg, hx, hy, binOp, Op.shift, hn]) (by simp [VRel]) hk
    · rename_i h1 h2
      split at hb
      · rename_i hkk
        subst hkk
        simp only [Option.map_eq_some_iff] at hb
        obtain ⟨v, hv, rfl⟩ := hb
        have := intBin_sound (P := P) hv t ⟨h1, h2⟩ c.w
        exact does_pure hH (v := v) (by simp [execOp, ho, hg, hx, hy, this]) (by simp [VRel]) hk
      · cases hb
  · rename_i s1 s2 e1 e2
    rw [e1] at hx; rw [e2] at hy
    simp only [VRel] at hx hy
    have hg := run_eqGuard (P := P) (op := op) (t := t) (x := x) (y := y) (u := .string s1) (v := .string s2) (.inr ⟨_, rfl⟩) c.w
    simp only [Option.map_eq_some_iff] at hb
    obtain ⟨v, hv, rfl⟩ := hb
    have := strBin_sound (P := P) hv t c.w
    exact does_pure hH (v := v) (by simp [execOp, ho, hg, hx, hy, this]) (by simp [VRel]) hk
  · cases hb
end
end Go.Sc
namespace Go.Sc
open Go
section
variable {E : Env} {P : Program} {c : Cx} {ts : List AV} {H : AH} {a : Act} {K : Kt} {o : Oper}
theorem shpB_some {t : TypeId} {s : Shp} (h : shpB P t = some s) : ∃ d, P.underlying t = some d ∧ (match s with | .bool => d = .bool | .ptr => ∃ e, d = .pointer e | .slice => ∃ e, d = .slice e | .iface => ∃ m, d = .interface m | .func => ∃ x y z, d = .func x y z) := by
  unfold shpB at h
  split at h <;> first | (injection h with h; subst h; rename_i hd; exact ⟨_, hd, by simp⟩) | cases h

/-- the forms of what '==' is asked -/
inductive EqF : Shp → Value → Value → Bool → Prop
  | bool (p q : Bool) : EqF .bool (.bool p) (.bool q) (p == q)
  | ptr0 : EqF .ptr (.pointer none) (.pointer none) true
  | ptr1 (p : Addr) : EqF .ptr (.pointer (some p)) (.pointer none) false
  | ptr2 (p : Addr) : EqF .ptr (.pointer none) (.pointer (some p)) false
  | sl0 (l k l' k' : Nat) : EqF .slice (.slice none l k) (.slice none l' k') true
  | sl1 (p : Addr) (l k l' k' : Nat) : EqF .slice (.slice (some p) l k) (.slice none l' k') false
  | sl2 (p : Addr) (l k l' k' : Nat) : EqF .slice (.slice none l k) (.slice (some p) l' k') false
  | if0 : EqF .iface .nilIface .nilIface true
  | if1 (t : TypeId) (x : Value) : EqF .iface (.iface t x) .nilIface false
  | if2 (t : TypeId) (x : Value) : EqF .iface .nilIface (.iface t x) false
  | fn0 : EqF .func .nilFunc .nilFunc true
  | fn1 (f : Fn) (x y : Array Value) : EqF .func (.func f x y) .nilFunc false
  | fn2 (f : Fn) (x y : Array Value) : EqF .func .nilFunc (.func f x y) false

theorem eqA_form {s : Shp} {x y : AV} {b : Bool} {u v : Value} (h : eqA s x y = some b) (hu : VRel E c x u) (hv : VRel E c y v) : EqF s u v b := by
  unfold eqA at h
  split at h
  all_goals first
    | (cases h; done)
    | (injection h with h; subst h; simp only [VRel] at hu hv)
  · subst hu hv; constructor
  · subst hu hv; constructor
  · subst hv; obtain ⟨_, _, rfl, _⟩ := hu; constructor
  · subst hu; obtain ⟨_, _, rfl, _⟩ := hv; constructor
  · subst hv; obtain ⟨_, _, rfl, _⟩ := hu; constructor
  · subst hu; obtain ⟨_, _, rfl, _⟩ := hv; constructor
  · subst hu hv; constructor
  · subst hv; obtain ⟨_, _, rfl, _⟩ := hu; constructor
  · subst hu; obtain ⟨_, _, rfl, _⟩ := hv; constructor
  · subst hv; obtain ⟨_, _, _, rfl, _⟩ := hu; constructor
  · subst hv; obtain ⟨_, _, _, rfl, _⟩ := hu; constructor
  · subst hu; obtain ⟨_, _, _, rfl, _⟩ := hv; constructor
  · subst hu hv; constructor
  · subst hv; obtain ⟨_, rfl, _⟩ := hu; constructor
  · subst hu; obtain ⟨_, rfl, _⟩ := hv; constructor
  · subst hu hv; constructor
  · subst hv; obtain ⟨_, _, rfl, _⟩ := hu; constructor
  · subst hu; obtain ⟨_, _, rfl, _⟩ := hv; constructor

theorem eqF_sound {s : Shp} {b : Bool} {u v : Value} {t : TypeId} (h : EqF s u v b) (hs : shpB P t = some s) (w : World) : (Op.equal t u v).run P w = .ok b w := by
  obtain ⟨d, hd, hm⟩ := shpB_some hs
  have hrun := run_underlying' hd w
  show (Op.equalIn (9999 + 1) t u v).run P w = _
  generalize 9999 = n
  cases h <;> simp only at hm <;> first
    | (subst hm; simp [Op.equalIn, hrun]; done)
    | (obtain ⟨_, rfl⟩ := hm; simp [Op.equalIn, hrun]; done)
    | (obtain ⟨_, _, _, rfl⟩ := hm; simp [Op.equalIn, hrun]; done)

theorem eqF_guard {s : Shp} {b : Bool} {u v : Value} {op : BinOp} {t : TypeId} {X Y : Operand} (h : EqF s u v b) (hc : s = .iface → (isConstO X || isConstO Y) = true) (w : World) :
    (eqGuard op t X Y u v).run P w = .ok () w := by
  cases h <;> cases op <;> first
    | (simp [eqGuard]; done)
    | (have := hc rfl
       cases X <;> cases Y <;> simp_all [isConstO, eqGuard])

theorem binOp_eql {t : TypeId} {s : Shp} {b : Bool} {u v : Value} (h : EqF s u v b) (hs : shpB P t = some s) (w : World) :
    (binOp .eql t u v).run P w = .ok (.bool b) w ∧ (binOp .neq t u v).run P w = .ok (.bool !b) w := by
  have he := eqF_sound (P := P) h hs w
  cases h <;> constructor <;> simp [binOp, he]

theorem does_eq {op : BinOp} {t : TypeId} {x y : Operand} {t' : TypeId} {s : Shp} (ho : o.op = .binOp op t x y t') (hs : shpB P t = some s) (hH : HRel E c H) (hr : LRel E c ts a.tmps.toList) (h : opW E P o ts H K) : Does E P c H o a K := by
  have hx := ev_rel hH hr x
  have hy := ev_rel hH hr y
  cases op with
  | eql =>
    simp only [opW, ho, hs] at h
    split at h
    · exact h.elim
    · rename_i hc
      obtain ⟨b, hb, hk⟩ := h
      have hf := eqA_form hb hx hy
      have hg := eqF_guard (P := P) (op := .eql) (t := t) (X := x) (Y := y) hf (fun e => by simp [e] at hc; cases hX : isConstO x <;> simp_all) c.w
      have he := (binOp_eql (P := P) hf hs c.w).1
      exact does_pure hH (v := .bool (b != false)) (by simp [execOp, ho, hg, he]) (by simp [VRel]) hk
  | neq =>
    simp only [opW, ho, hs] at h
    split at h
    · exact h.elim
    · rename_i hc
      obtain ⟨b, hb, hk⟩ := h
      have hf := eqA_form hb hx hy
      have hg := eqF_guard (P := P) (op := .neq) (t := t) (X := x) (Y := y) hf (fun e => by simp [e] at hc; cases hX : isConstO x <;> simp_all) c.w
      have he := (binOp_eql (P := P) hf hs c.w).2
      exact does_pure hH (v := .bool (b != true)) (by simp [execOp, ho, hg, he]) (by simp [VRel]) hk
  | _ => simp only [opW, ho, hs] at h

theorem does_un {op : UnOp} {t : TypeId} {x : Operand} (ho : o.op = .unOp op t x) (hH : HRel E c H) (hr : LRel E c ts a.tmps.toList) (h : opW E P o ts H K) : Does E P c H o a K := by
  simp only [opW, ho] at h
  obtain ⟨r, hb, hk⟩ := h
  have hx := ev_rel hH hr x
  unfold unA at hb
  split at hb
  · rename_i k n e1
    injection hb with hb; subst hb
    rw [e1] at hx; simp only [VRel] at hx
    exact does_pure hH (v := .int k (k.wrap (0 - n))) (by simp [execOp, ho, hx, Op.unary, Op.intArith]) (by simp [VRel]) hk
  · rename_i b e1
    injection hb with hb; subst hb
    rw [e1] at hx; simp only [VRel] at hx
    exact does_pure hH (v := .bool !b) (by simp [execOp, ho, hx, Op.unary]) (by simp [VRel]) hk
  · cases hb

theorem does_convert {s t : TypeId} {x : Operand} (ho : o.op = .convert s t x) (hH : HRel E c H) (hr : LRel E c ts a.tmps.toList) (h : opW E P o ts H K) : Does E P c H o a K := by
  simp only [opW, ho] at h
  have hx := ev_rel hH hr x
  split at h
  · rename_i d1 d2 h1 h2
    obtain ⟨r, hb, hk⟩ := h
    unfold convA at hb
    split at hb
    · rename_i k k' n e1
      injection hb with hb; subst hb
      rw [e1] at hx; simp only [VRel] at hx
      refine does_pure hH (v := .int k (k.wrap n)) ?_ (by simp [VRel]) hk
      cases d1 <;> simp [execOp, ho, hx, convert, run_underlying' h1, run_underlying' h2, Conv.intToInt]
    · rename_i n e1
      injection hb with hb; subst hb
      rw [e1] at hx; simp only [VRel] at hx
      refine does_pure hH (v := .string n) ?_ (by simp [VRel]) hk
      cases d1 <;> simp [execOp, ho, hx, convert, run_underlying' h1, run_underlying' h2]
    · rename_i k n e1
      injection hb with hb; subst hb
      rw [e1] at hx; simp only [VRel] at hx
      refine does_pure hH (v := .string (Utf8.encode n)) ?_ (by simp [VRel]) hk
      cases d1 <;> simp [execOp, ho, hx, convert, run_underlying' h1, run_underlying' h2, Conv.intToString]
    · cases hb
  · exact h.elim

theorem constA_rel (v : Value) : VRel E c (constA v) v := by
  unfold constA
  split
  · simp only [VRel]; exact ⟨_, by simp, LRel_vals E c _⟩
  · simp [VRel]
theorem run_zeroV {t : TypeId} {z : AV} (h : zeroV P t = some z) (w : World) : ∃ v, (zeroValue t).run P w = .ok v w ∧ VRel E c z v := by
  unfold zeroV at h
  simp only [Option.map_eq_some_iff, Option.bind_eq_some_iff] at h
  obtain ⟨v, ⟨i, hi, hv⟩, rfl⟩ := h
  exact ⟨v, by simp [zeroValue, run_typeInfo' hi, hv], constA_rel v⟩
theorem does_typeAssert {x : Operand} {xt t : TypeId} {ok : Bool} (ho : o.op = .typeAssert x xt t ok) (hH : HRel E c H) (hr : LRel E c ts a.tmps.toList) (h : opW E P o ts H K) : Does E P c H o a K := by
  simp only [opW, ho] at h
  have hx := ev_rel hH hr x
  have hro : readOp o.op = false := by simp [ho, readOp]
  split at h
  · rename_i m hd
    split at h
    case h_2 => exact h.elim
    rename_i hz
    split at h
    · rename_i hc
      obtain ⟨ht, rfl⟩ := hc
      obtain ⟨h⟩ := h
      obtain ⟨i, hi, hz⟩ := Option.bind_eq_some_iff.1 hz
      have hzr : (zeroValue t).run P c.w = .ok .nilIface c.w := by simp [zeroValue, run_typeInfo' hi, hz]
      rcases h with ⟨h1, hk⟩ | ⟨k, y, b, h1, hm, hk⟩
      · rw [h1] at hx; simp only [VRel] at hx
        refine ⟨.tuple #[.nilIface, .bool false], c, H, _, .inl ?_, hk, hH, ?_, Later.refl c, .inl ⟨rfl, rfl⟩⟩
        · simp [execOp, ho, Instr.typeAssert, run_underlying' hd, hx, hzr]
        · simp only [VRel, LRel]; exact ⟨[.nilIface, .bool false], rfl, _, _, rfl, rfl, _, _, rfl, rfl, rfl⟩
      · have hx' := hx
        rw [h1] at hx; simp only [VRel] at hx
        obtain ⟨u, hu, hk2, hyu⟩ := hx
        obtain ⟨j, hj, hb⟩ := hm m (by rw [ht]; exact hd)
        cases b with
        | true =>
          have hmm : Instr.missingMethod m j.methods = none := by simpa using hb
          refine ⟨.tuple #[.iface (E.ty k) u, .bool true], c, H, _, .inl ?_, hk, hH, ?_, Later.refl c, .inl ⟨rfl, rfl⟩⟩
          · simp [execOp, ho, Instr.typeAssert, run_underlying' hd, hu, run_typeInfo' hj, hmm]
          · simp only [if_true, VRel, LRel]; exact ⟨[.iface (E.ty k) u, .bool true], rfl, _, _, rfl, hu ▸ hx', _, _, rfl, rfl, rfl⟩
        | false =>
          obtain ⟨mm, hmm⟩ : ∃ mm, Instr.missingMethod m j.methods = some mm := by
            cases hq : Instr.missingMethod m j.methods with
            | none => simp [hq] at hb
            | some mm => exact ⟨mm, rfl⟩
          refine ⟨.tuple #[.nilIface, .bool false], c, H, _, .inl ?_, hk, hH, ?_, Later.refl c, .inl ⟨rfl, rfl⟩⟩
          · simp [execOp, ho, Instr.typeAssert, run_underlying' hd, hu, run_typeInfo' hj, hmm, hzr]
          · simp only [Bool.false_eq_true, if_false, VRel, LRel]; exact ⟨[.nilIface, .bool false], rfl, _, _, rfl, rfl, _, _, rfl, rfl, rfl⟩
    · exact h.elim
  · rename_i d hne hd
    have hnif : ∀ m, d ≠ .interface m := fun m e => hne m (e ▸ rfl)
    cases ok with
    | true =>
      simp only at h
      split at h
      · rename_i z hz
        split at h
        · rename_i ht
          obtain ⟨zv, hzr, hzv⟩ := run_zeroV (E := E) (c := c) hz c.w
          obtain ⟨r, hb, hk⟩ := h
          unfold assertA at hb
          split at hb
          · rename_i k y e1
            rw [e1] at hx; simp only [VRel] at hx
            obtain ⟨u, hu, hk2, hyu⟩ := hx
            split at hb
            · rename_i hkk
              injection hb with hb; subst hb
              have he : E.ty k = t := by rw [hkk, ht]
              refine ⟨.tuple #[u, .bool true], c, H, _, .inl ?_, hk, hH, ?_, Later.refl c, .inl ⟨rfl, rfl⟩⟩
              · cases d <;> first
                  | (simp [execOp, ho, Instr.typeAssert, run_underlying' hd, hu, he]; done)
                  | exact absurd rfl (hnif _)
              · simp only [VRel, LRel]; exact ⟨[u, .bool true], rfl, _, _, rfl, hyu, _, _, rfl, rfl, rfl⟩
            · rename_i hkk
              injection hb with hb; subst hb
              have he : ¬ E.ty k = t := fun e => hkk (by rw [← hk2, e])
              refine ⟨.tuple #[zv, .bool false], c, H, _, .inl ?_, hk, hH, ?_, Later.refl c, .inl ⟨rfl, rfl⟩⟩
              · cases d <;> first
                  | (simp [execOp, ho, Instr.typeAssert, run_underlying' hd, hu, he, hzr]; done)
                  | exact absurd rfl (hnif _)
              · simp only [VRel, LRel]; exact ⟨[zv, .bool false], rfl, _, _, rfl, hzv, _, _, rfl, rfl, rfl⟩
          · rename_i e1
            injection hb with hb; subst hb
            rw [e1] at hx; simp only [VRel] at hx
            refine ⟨.tuple #[zv, .bool false], c, H, _, .inl ?_, hk, hH, ?_, Later.refl c, .inl ⟨rfl, rfl⟩⟩
            · cases d <;> first
                | (simp [execOp, ho, Instr.typeAssert, run_underlying' hd, hx, hzr]; done)
                | exact absurd rfl (hnif _)
            · simp only [VRel, LRel]; exact ⟨[zv, .bool false], rfl, _, _, rfl, hzv, _, _, rfl, rfl, rfl⟩
          · cases hb
        · exact h.elim
      · exact h.elim
    | false =>
      simp only at h
      split at h
      · rename_i ht
        obtain ⟨r, hb, hk⟩ := h
        unfold assert1 at hb
        split at hb
        · rename_i k y e1
          rw [e1] at hx; simp only [VRel] at hx
          obtain ⟨u, hu, hk2, hyu⟩ := hx
          split at hb
          · rename_i hkk
            injection hb with hb; subst hb
            have he : E.ty k = t := by rw [hkk, ht]
            refine ⟨u, c, H, _, .inl ?_, hk, hH, hyu, Later.refl c, .inl ⟨rfl, rfl⟩⟩
            cases d <;> first
              | (simp [execOp, ho, Instr.typeAssert, run_underlying' hd, hu, he]; done)
              | exact absurd rfl (hnif _)
          · cases hb
        · cases hb
      · exact h.elim
  · exact h.elim

theorem minA_sound {mx : Bool} {x y r : AV} {u v : Value} (h : minA mx x y = some r) (hu : VRel E c x u) (hv : VRel E c y v) (w : World) :
    ∃ q, ((if mx then Builtin.max_ #[] 0 #[u, v] else Builtin.min_ #[] 0 #[u, v]).run P w = .ok q w) ∧ VRel E c r q := by
  unfold minA at h
  split at h
  · rename_i k m k' n
    simp only [VRel] at hu hv
    subst hu hv
    split at h
    · rename_i hk
      subst hk
      injection h with h; subst h
      cases mx
      · exact ⟨.int k (if n < m then n else m), by simp [Builtin.min_, Builtin.min2], by simp [VRel]⟩
      · exact ⟨.int k (if n > m then n else m), by simp [Builtin.max_, Builtin.max2], by simp [VRel]⟩
    · cases h
  · cases h

theorem does_makeInterface {t : TypeId} {x : Operand} (ho : o.op = .makeInterface t x) (hH : HRel E c H) (hr : LRel E c ts a.tmps.toList) (h : opW E P o ts H K) : Does E P c H o a K := by
  simp only [opW, ho] at h
  have hx := ev_rel hH hr x
  split at h
  · exact h.elim
  · rename_i d hne hd
    split at h
    · rename_i ht
      refine does_pure hH (v := .iface t (a.eval x)) ?_ (by simp only [VRel]; exact ⟨_, by rw [ht], by rw [ht], hx⟩) h
      cases d <;> first
        | (simp [execOp, ho, Instr.makeInterface, run_underlying' hd]; done)
        | (rename_i m; exact absurd rfl (hne m))
    · exact h.elim
  · exact h.elim

theorem does_makeFunc {f : Fn} {fs cs : Array Operand} (ho : o.op = .makeFunc f fs cs) (hH : HRel E c H) (hr : LRel E c ts a.tmps.toList) (h : opW E P o ts H K) : Does E P c H o a K := by
  simp only [opW, ho] at h
  split at h
  · rename_i f
    split at h
    · rename_i hf
      refine does_pure hH (v := .func (.func f) (fs.map a.eval) (cs.map a.eval)) (by simp [execOp, ho, Instr.makeFunc]) ?_ h
      simp only [VRel, hf]
      refine ⟨(fs.map a.eval).toList, (cs.map a.eval).toList, by rw [Array.toArray_toList, Array.toArray_toList], ?_, ?_⟩
      · simpa using evs_rel hH hr fs.toList
      · simpa using evs_rel hH hr cs.toList
    · exact h.elim
  · exact h.elim

theorem fieldB_some {t : TypeId} {f off n : Nat} {b : Bool} (h : fieldB P t f = some (off, b, n)) : ∃ fs x, P.underlying t = some (.struct fs) ∧ fs[f]? = some x ∧ x.offset = off ∧ tyB P x.type = some (b, n) := by
  unfold fieldB at h
  split at h
  · rename_i fs hd
    simp only [Option.bind_eq_some_iff, Option.map_eq_some_iff] at h
    obtain ⟨x, hx, ⟨b', n'⟩, ht, h⟩ := h
    simp only [Prod.mk.injEq] at h
    exact ⟨fs, x, hd, hx, h.1, by rw [ht, h.2.1, h.2.2]⟩
  · cases h

theorem faddr_sound {A r : AV} {off : Nat} {v : Value} (h : faddr off A = some r) (hv : VRel E c A v) : ∃ ad, v = .pointer (some ad) ∧ VRel E c r (.pointer (some (ad.add off))) := by
  cases A with
  | ptrL b o g =>
    simp only [faddr] at h; injection h with h; subst h
    simp only [VRel] at hv ⊢
    obtain ⟨hg, p, rfl, hp⟩ := hv
    exact ⟨p, rfl, hg, _, rfl, fun e => by rw [hp e, Addr.add_at, Nat.add_assoc]⟩
  | ptrF cs o =>
    simp only [faddr] at h; injection h with h; subst h
    simp only [VRel] at hv ⊢
    obtain ⟨b, o', rfl, hc⟩ := hv
    exact ⟨_, rfl, b, o', by rw [Addr.add_at, Nat.add_assoc], hc⟩
  | _ => simp [faddr] at h

theorem does_fieldAddr {t : TypeId} {x : Operand} {f : Nat} (ho : o.op = .fieldAddr t x f) (hH : HRel E c H) (hr : LRel E c ts a.tmps.toList) (h : opW E P o ts H K) : Does E P c H o a K := by
  simp only [opW, ho] at h
  have hx := ev_rel hH hr x
  split at h
  · rename_i off b n hf
    split at h
    · exact h.elim
    · rename_i hn
      obtain ⟨r, hb, hk⟩ := h
      obtain ⟨ad, hv, hr'⟩ := faddr_sound hb hx
      obtain ⟨fs, y, h1, h2, rfl, h4⟩ := fieldB_some hf
      refine does_pure hH (v := .pointer (some (ad.add y.offset))) ?_ hr' hk
      simp [execOp, ho, Instr.fieldAt, run_underlying' h1, h2, hv, Instr.sureAddr, fieldPlace, run_sizeOf h4, hn]
  · exact h.elim

theorem part_sound {t : TypeId} {b : Bool} {off n : Nat} {cs : List AV} {vs : List Value} {r : AV} (ht : tyB P t = some (b, n)) (hl : LRel E c cs vs) (h : (if b then (subL cs off n).map .agg else cs[off]?) = some r) (w : World) :
    ∃ v, (part t vs.toArray off).run P w = .ok v w ∧ VRel E c r v := by
  cases b with
  | true =>
    simp only [if_true, Option.map_eq_some_iff] at h
    obtain ⟨l, h, rfl⟩ := h
    obtain ⟨hle, rfl⟩ := subL_some h
    have hlen := hl.length
    refine ⟨.agg (vs.toArray.extract off (off + n)), by simp [part, run_isAgg ht, run_sizeOf ht], ?_⟩
    simp only [VRel]
    refine ⟨(vs.drop off).take n, ?_, (hl.drop off).take n⟩
    simp
  | false =>
    simp only [Bool.false_eq_true, if_false] at h
    obtain ⟨v, h1, h2⟩ := hl.get h
    exact ⟨v, by simp [part, run_isAgg ht, h1], h2⟩

theorem does_field {t : TypeId} {x : Operand} {f : Nat} (ho : o.op = .field t x f) (hH : HRel E c H) (hr : LRel E c ts a.tmps.toList) (h : opW E P o ts H K) : Does E P c H o a K := by
  simp only [opW, ho] at h
  have hx := ev_rel hH hr x
  split at h
  · rename_i off b n hf
    obtain ⟨r, hb, hk⟩ := h
    obtain ⟨fs, y, h1, h2, rfl, h4⟩ := fieldB_some hf
    unfold fieldA at hb
    split at hb
    · rename_i cs e1
      rw [e1] at hx; simp only [VRel] at hx
      obtain ⟨vs, hv, hl⟩ := hx
      obtain ⟨v, hp, hrv⟩ := part_sound h4 hl hb c.w
      exact does_pure hH (v := v) (by simp [execOp, ho, Instr.field, run_underlying' h1, h2, hv, asAgg, hp]) hrv hk
    · cases hb
  · exact h.elim

theorem does_extract {x : Operand} {i : Nat} (ho : o.op = .extract x i) (hH : HRel E c H) (hr : LRel E c ts a.tmps.toList) (h : opW E P o ts H K) : Does E P c H o a K := by
  simp only [opW, ho] at h
  have hx := ev_rel hH hr x
  obtain ⟨r, hb, hk⟩ := h
  unfold extractA at hb
  split at hb
  · rename_i cs e1
    rw [e1] at hx; simp only [VRel] at hx
    obtain ⟨vs, hv, hl⟩ := hx
    obtain ⟨v, h1, h2⟩ := hl.get hb
    exact does_pure hH (v := v) (by simp [execOp, ho, Instr.extract, hv, h1]) h2 hk
  · cases hb

theorem iaddr_sound {s i r : AV} {n : Nat} {u v : Value} (h : iaddr n s i = some r) (hu : VRel E c s u) (hv : VRel E c i v) :
    ∃ ad len cap k m, u = .slice (some ad) len cap ∧ v = .int k m ∧ 0 ≤ m ∧ m < (len : Int) ∧ VRel E c r (.pointer (some (ad.add (m.toNat * n)))) := by
  unfold iaddr at h
  split at h
  · rename_i cs off len k m
    split at h
    · rename_i hm
      injection h with h; subst h
      simp only [VRel] at hu hv
      obtain ⟨p, cap, rfl, hle, hp⟩ := hu
      obtain ⟨b, o', rfl, hc⟩ := hp.resolve_left (by omega)
      subst hv
      refine ⟨_, len, cap, k, m, rfl, rfl, hm.1, hm.2, ?_⟩
      simp only [VRel]
      exact ⟨b, o', by rw [Addr.add_at, Nat.add_assoc], hc⟩
    · cases h
  · rename_i b off len g k m
    split at h
    · rename_i hm
      injection h with h; subst h
      simp only [VRel] at hu hv
      obtain ⟨hg, p, cap, rfl, hle, hp⟩ := hu
      subst hv
      refine ⟨p, len, cap, k, m, rfl, rfl, hm.1, hm.2, ?_⟩
      simp only [VRel]
      exact ⟨hg, _, rfl, fun e => by rw [((hp e).resolve_left (by omega)).1, Addr.add_at, Nat.add_assoc]⟩
    · cases h
  · rename_i cs len k m
    split at h
    · rename_i hm
      injection h with h; subst h
      simp only [VRel] at hu hv
      rcases hu with ⟨_, h0⟩ | ⟨p, cap, rfl, hle, hp⟩
      · omega
      · obtain ⟨b, o', rfl, hc⟩ := hp.resolve_left (by omega)
        subst hv
        refine ⟨_, len, cap, k, m, rfl, rfl, hm.1, hm.2, ?_⟩
        simp only [VRel]
        exact ⟨b, o', by rw [Addr.add_at], hc⟩
    · cases h
  · rename_i b cs len g k m
    split at h
    · rename_i hm
      injection h with h; subst h
      simp only [VRel] at hu hv
      obtain ⟨_, p, cap, rfl, hle, hp⟩ := hu
      obtain ⟨b, o', rfl, hc, _⟩ := hp.resolve_left (by omega)
      subst hv
      refine ⟨_, len, cap, k, m, rfl, rfl, hm.1, hm.2, ?_⟩
      simp only [VRel]
      exact ⟨b, o', by rw [Addr.add_at], hc⟩
    · cases h
  · cases h
end
end Go.Sc
namespace Go.Sc
open Go
section
variable {E : Env} {P : Program} {c : Cx} {ts : List AV} {H : AH} {a : Act} {K : Kt} {o : Oper}
theorem iaddrArr_sound {s i r : AV} {n len : Nat} {u v : Value} (h : iaddrArr n len s i = some r) (hu : VRel E c s u) (hv : VRel E c i v) :
    ∃ ad k m, u = .pointer (some ad) ∧ v = .int k m ∧ 0 ≤ m ∧ m < (len : Int) ∧ VRel E c r (.pointer (some (ad.add (m.toNat * n)))) := by
  unfold iaddrArr at h
  split at h
  · rename_i cs off k m
    split at h
    · rename_i hm
      injection h with h; subst h
      simp only [VRel] at hu hv
      obtain ⟨b, o', rfl, hc⟩ := hu
      subst hv
      refine ⟨_, k, m, rfl, rfl, hm.1, hm.2, ?_⟩
      simp only [VRel]
      exact ⟨b, o', by rw [Addr.add_at, Nat.add_assoc], hc⟩
    · cases h
  · rename_i b off g k m
    split at h
    · rename_i hm
      injection h with h; subst h
      simp only [VRel] at hu hv
      obtain ⟨hg, p, rfl, hp⟩ := hu
      subst hv
      refine ⟨p, k, m, rfl, rfl, hm.1, hm.2, ?_⟩
      simp only [VRel]
      exact ⟨hg, _, rfl, fun e => by rw [hp e, Addr.add_at, Nat.add_assoc]⟩
    · cases h
  · cases h

theorem does_indexAddr {t : TypeId} {x i : Operand} (ho : o.op = .indexAddr t x i) (hH : HRel E c H) (hr : LRel E c ts a.tmps.toList) (h : opW E P o ts H K) : Does E P c H o a K := by
  simp only [opW, ho] at h
  have hx := ev_rel hH hr x
  have hi := ev_rel hH hr i
  split at h
  · rename_i e hd
    split at h
    · rename_i b n ht
      obtain ⟨r, hb, hk⟩ := h
      obtain ⟨ad, len, cap, k, m, hu, hv, h1, h2, h3⟩ := iaddr_sound hb hx hi
      exact does_pure hH (v := .pointer (some (ad.add (m.toNat * n)))) (by simp [execOp, ho, Instr.indexAt, hu, hv, asIntOf, run_underlying' hd, h1, h2, run_sizeOf ht]) h3 hk
    · exact h.elim
  · rename_i len e hd
    split at h
    · rename_i b n ht
      obtain ⟨r, hb, hk⟩ := h
      obtain ⟨ad, k, m, hu, hv, h1, h2, h3⟩ := iaddrArr_sound hb hx hi
      exact does_pure hH (v := .pointer (some (ad.add (m.toNat * n)))) (by simp [execOp, ho, Instr.indexAt, hu, hv, asIntOf, run_underlying' hd, h1, h2, run_sizeOf ht, Instr.sureAddr]) h3 hk
    · exact h.elim
  · exact h.elim

theorem does_index {t : TypeId} {x i : Operand} (ho : o.op = .index t x i) (hH : HRel E c H) (hr : LRel E c ts a.tmps.toList) (h : opW E P o ts H K) : Does E P c H o a K := by
  simp only [opW, ho] at h
  have hx := ev_rel hH hr x
  have hi := ev_rel hH hr i
  split at h
  · rename_i hd
    obtain ⟨r, hb, hk⟩ := h
    unfold idxStr at hb
    split at hb
    · rename_i s k n e1 e2
      rw [e1] at hx; rw [e2] at hi
      simp only [VRel] at hx hi
      split at hb
      · rename_i hn
        injection hb with hb; subst hb
        have hlt : n.toNat < s.size := by omega
        have hs : s[n.toNat]? = some (s.data.toList.getD n.toNat 0) := by
          rw [show s[n.toNat]? = some s[n.toNat] from getElem?_pos s n.toNat hlt]
          congr 1
          have : n.toNat < s.data.toList.length := by simpa using hlt
          simp only [List.getD, List.getElem?_eq_getElem this, Option.getD_some]
          rfl
        refine does_pure hH (v := .int .u8 (s.data.toList.getD n.toNat 0).toNat) ?_ (by simp [VRel]) hk
        simp only [execOp, ho, Instr.index, hx, hi, asIntOf, Sem.run_bind, Sem.run_pure, Result.andThen_ok, run_underlying' hd, hn.1, if_true, hs]
      · cases hb
    · cases hb
  · rename_i len e hd
    split at h
    · rename_i b n ht
      obtain ⟨r, hb, hk⟩ := h
      unfold idxArr at hb
      split at hb
      · rename_i cs k m e1 e2
        rw [e1] at hx; rw [e2] at hi
        simp only [VRel] at hx hi
        obtain ⟨vs, hv, hl⟩ := hx
        split at hb
        · rename_i hm
          obtain ⟨v, hp, hrv⟩ := part_sound ht hl hb c.w
          exact does_pure hH (v := v) (by simp [execOp, ho, Instr.index, hv, hi, asIntOf, run_underlying' hd, hm.1, hm.2, run_sizeOf ht, hp]) hrv hk
        · cases hb
      · cases hb
    · exact h.elim
  · exact h.elim

theorem bnd_sound (hH : HRel E c H) {x : Option Operand} {d : Nat} {n : Int} (h : bnd (x.map (ev E ts)) d = some n) (hr : LRel E c ts a.tmps.toList) : (x = none ∧ n = d) ∨ ∃ y k, x = some y ∧ a.eval y = .int k n := by
  cases x with
  | none => simp [bnd] at h; exact .inl ⟨rfl, h.symm⟩
  | some y =>
    right
    have hy := ev_rel hH hr y
    simp only [Option.map_some] at h
    unfold bnd at h
    split at h
    · rename_i e; cases e
    · rename_i k m e
      injection e with e
      injection h with h; subst h
      rw [e] at hy; simp only [VRel] at hy
      exact ⟨y, k, rfl, hy⟩
    · cases h

theorem run_bounds {isSlice : Bool} {len cap : Nat} {lo hi : Option Operand} {l h : Int} (hl : (lo = none ∧ l = 0) ∨ ∃ y k, lo = some y ∧ a.eval y = .int k l) (hh : (hi = none ∧ h = len) ∨ ∃ y k, hi = some y ∧ a.eval y = .int k h)
    (h0 : 0 ≤ l) (h1 : l ≤ h) (h2 : h ≤ cap) (w : World) : (Instr.sliceBounds isSlice len cap (lo.map a.eval) (hi.map a.eval) none).run P w = .ok (l.toNat, h.toNat, cap) w := by
  have h3 : 0 ≤ h := by omega
  rcases hl with ⟨rfl, rfl⟩ | ⟨y, k, rfl, hy⟩ <;> rcases hh with ⟨rfl, rfl⟩ | ⟨z, k', rfl, hz⟩
  · simp [Instr.sliceBounds]
  · simp [Instr.sliceBounds, hz, Instr.sliceBound, asIntOf, h2, h3]
  · simp [Instr.sliceBounds, hy, Instr.sliceBound, asIntOf, h0, h1]
  · have h4 : max h 0 = h := by omega
    simp [Instr.sliceBounds, hy, hz, Instr.sliceBound, asIntOf, h0, h1, h2, h3, h4]

theorem sliceA_sound {s r : AV} {n : Nat} {lo hi : Option Operand} {u : Value} (hb : sliceA n s (lo.map (ev E ts)) (hi.map (ev E ts)) H = some r) (hH : HRel E c H) (hr : LRel E c ts a.tmps.toList) (hu : VRel E c s u) :
    ∃ p len cap l h, u = .slice p len cap ∧ (Instr.sliceBounds true len cap (lo.map a.eval) (hi.map a.eval) none).run P c.w = .ok (l, h, cap) c.w ∧
      VRel E c r (.slice (if cap = l then p else p.map (·.add (l * n))) (h - l) (cap - l)) := by
  unfold sliceA at hb
  split at hb
  · rename_i cs off len
    simp only [Option.bind_eq_some_iff] at hb
    obtain ⟨l, hl, h', hh, hb⟩ := hb
    split at hb
    · rename_i hbd
      injection hb with hb; subst hb
      simp only [VRel] at hu
      obtain ⟨p, cap, rfl, hle, hp⟩ := hu
      refine ⟨_, len, cap, _, _, rfl, run_bounds (bnd_sound hH hl hr) (bnd_sound hH hh hr) hbd.1 hbd.2.1 (by omega) c.w, ?_⟩
      simp only [VRel]
      by_cases hc : cap = l.toNat
      · rw [if_pos hc]
        exact ⟨p, _, rfl, by omega, .inl (by omega)⟩
      · rw [if_neg hc]
        refine ⟨_, _, rfl, by omega, .inr ?_⟩
        obtain ⟨b, o', rfl, hc⟩ := hp.resolve_left (by omega)
        exact ⟨b, o', by show Addr.add _ _ = _; rw [Addr.add_at, Nat.add_assoc], hc⟩
    · cases hb
  · rename_i b off len g
    simp only [Option.bind_eq_some_iff] at hb
    obtain ⟨l, hl, h', hh, hb⟩ := hb
    split at hb
    · rename_i hbd
      injection hb with hb; subst hb
      simp only [VRel] at hu
      obtain ⟨hg, p, cap, rfl, hle, hp⟩ := hu
      obtain ⟨hz, hbd⟩ := hbd
      refine ⟨_, len, cap, _, _, rfl, run_bounds (bnd_sound hH hl hr) (bnd_sound hH hh hr) hbd.1 hbd.2.1 (by omega) c.w, ?_⟩
      simp only [VRel]
      by_cases hc : cap = l.toNat
      · rw [if_pos hc]
        exact ⟨hg, p, _, rfl, by omega, fun _ => .inl (by omega)⟩
      · rw [if_neg hc]
        refine ⟨hg, _, _, rfl, by omega, fun e => .inr ?_⟩
        obtain ⟨rfl, h2⟩ := (hp e).resolve_left (by omega)
        have := hH.esz hz
        subst this
        refine ⟨by show Addr.add _ _ = _; rw [Addr.add_at, Nat.add_assoc], ?_⟩
        rw [← h2, Nat.sub_mul]
        have : l.toNat * c.sz b ≤ cap * c.sz b := Nat.mul_le_mul_right _ (by omega)
        omega
    · cases hb
  · rename_i cs len
    simp only [Option.bind_eq_some_iff] at hb
    obtain ⟨l, hl, h', hh, hb⟩ := hb
    split at hb
    · rename_i hbd
      injection hb with hb; subst hb
      simp only [VRel] at hu
      rcases hu with ⟨rfl, rfl⟩ | ⟨p, cap, rfl, hle, hp⟩
      · have e1 : l = 0 := by omega
        have e2 : h' = 0 := by omega
        subst e1 e2
        refine ⟨none, 0, 0, _, _, rfl, run_bounds (bnd_sound hH hl hr) (bnd_sound hH hh hr) (by omega) (by omega) (by omega) c.w, ?_⟩
        simp [VRel]
      · refine ⟨_, len, cap, _, _, rfl, run_bounds (bnd_sound hH hl hr) (bnd_sound hH hh hr) hbd.1 hbd.2.1 (by omega) c.w, ?_⟩
        simp only [VRel]
        by_cases hc : cap = l.toNat
        · rw [if_pos hc]
          exact .inr ⟨p, _, rfl, by omega, .inl (by omega)⟩
        · rw [if_neg hc]
          refine .inr ⟨_, _, rfl, by omega, .inr ?_⟩
          obtain ⟨b, o', rfl, hc⟩ := hp.resolve_left (by omega)
          exact ⟨b, o' + l.toNat * n, by show Addr.add _ _ = _; rw [Addr.add_at], (hc.drop _).take _⟩
    · cases hb
  · rename_i b cs len g
    simp only [Option.bind_eq_some_iff] at hb
    obtain ⟨l, hl, h', hh, hb⟩ := hb
    split at hb
    · rename_i hbd
      simp only [VRel] at hu
      obtain ⟨hg, p, cap, rfl, hle, hp⟩ := hu
      obtain ⟨htz, h0, h1, h2, h3⟩ := hbd
      refine ⟨_, len, cap, _, _, rfl, run_bounds (bnd_sound hH hl hr) (bnd_sound hH hh hr) h0 h1 (by omega) c.w, ?_⟩
      split at hb
      · rename_i hhl
        injection hb with hb; subst hb
        simp only [VRel]
        have he : h'.toNat = len := by omega
        rw [he]
        by_cases hc : cap = l.toNat
        · rw [if_pos hc]
          exact ⟨hg, p, _, rfl, by omega, .inl (by omega)⟩
        · rw [if_neg hc]
          refine ⟨hg, _, _, rfl, by omega, .inr ?_⟩
          obtain ⟨b', o', rfl, hcr, hroom⟩ := hp.resolve_left (by omega)
          have hln : l.toNat * n ≤ len * n := Nat.mul_le_mul_right _ (by omega)
          refine ⟨b', o' + l.toNat * n, by show Addr.add _ _ = _; rw [Addr.add_at], hcr.drop _, fun e => ?_⟩
          obtain ⟨r1, r2, r3⟩ := hroom e
          refine ⟨r1, fun j hj => r2 j (by simp at hj; omega), ?_⟩
          have := hH.tsz htz
          subst this
          rw [← r3, Nat.sub_mul]
          have : l.toNat * c.sz b ≤ cap * c.sz b := Nat.mul_le_mul_right _ (by omega)
          omega
      · injection hb with hb; subst hb
        simp only [VRel]
        by_cases hc : cap = l.toNat
        · rw [if_pos hc]
          exact .inr ⟨p, _, rfl, by omega, .inl (by omega)⟩
        · rw [if_neg hc]
          refine .inr ⟨_, _, rfl, by omega, .inr ?_⟩
          obtain ⟨b', o', rfl, hcr, _⟩ := hp.resolve_left (by omega)
          exact ⟨b', o' + l.toNat * n, by show Addr.add _ _ = _; rw [Addr.add_at], (hcr.drop _).take _⟩
    · cases hb
  · simp only [Option.bind_eq_some_iff] at hb
    obtain ⟨l, hl, h', hh, hb⟩ := hb
    split at hb
    · rename_i hbd
      injection hb with hb; subst hb
      simp only [VRel] at hu; subst hu
      obtain ⟨rfl, rfl⟩ := hbd
      exact ⟨_, 0, 0, _, _, rfl, run_bounds (bnd_sound hH hl hr) (bnd_sound hH hh hr) (by omega) (by omega) (by omega) c.w, by simp [VRel]⟩
    · cases hb
  · cases hb

theorem does_slice {t : TypeId} {x : Operand} {lo hi m : Option Operand} (ho : o.op = .slice t x lo hi m) (hH : HRel E c H) (hr : LRel E c ts a.tmps.toList) (h : opW E P o ts H K) : Does E P c H o a K := by
  simp only [opW, ho] at h
  have hx := ev_rel hH hr x
  split at h
  · exact h.elim
  · split at h
    · rename_i hd
      obtain ⟨r, hb, hk⟩ := h
      unfold sliceS at hb
      split at hb
      · rename_i s hA
        rw [hA] at hx; simp only [VRel] at hx
        simp only [Option.bind_eq_some_iff] at hb
        obtain ⟨l, hl, h', hh, hb⟩ := hb
        split at hb
        · rename_i hbd
          injection hb with hb; subst hb
          have := run_bounds (P := P) (isSlice := false) (bnd_sound hH hl hr) (bnd_sound hH hh hr) hbd.1 hbd.2.1 hbd.2.2 c.w
          refine does_pure hH (v := .string (s.extract l.toNat h'.toNat)) ?_ (by simp [VRel]) hk
          simp [execOp, ho, Instr.sliceAt, Instr.slice, run_underlying' hd, hx, this]
        · cases hb
      · cases hb
    · rename_i e hd
      split at h
      · rename_i e' n bs he
        obtain ⟨r, hb, hk⟩ := h
        obtain ⟨p, len, cap, l, h', hu, hbds, hv⟩ := sliceA_sound (P := P) hb hH hr hx
        have hsz : (sizeOf e).run P c.w = .ok n c.w := by
          simp only [elemB, hd, Option.map_eq_some_iff] at he
          obtain ⟨i, hi, he⟩ := he
          injection he with h1 h2
          injection h2 with h2 h3
          subst h2
          simp [sizeOf, run_typeInfo' hi]
        refine does_pure hH (v := .slice (if cap = l then p else p.map (·.add (l * n))) (h' - l) (cap - l)) ?_ hv hk
        simp [execOp, ho, Instr.sliceAt, Instr.slice, run_underlying' hd, hu, hbds, hsz]
      · exact h.elim
    · exact h.elim
end
end Go.Sc
namespace Go.Sc
open Go
section
variable {E : Env} {P : Program} {c : Cx} {ts : List AV} {H : AH} {a : Act} {K : Kt} {o : Oper}
theorem elemB_some {t e : TypeId} {n b : Nat} (h : elemB P t = some (e, n, b)) : ∃ i, P.underlying t = some (.slice e) ∧ P.info? e = some i ∧ i.size = n ∧ i.bytes = b := by
  unfold elemB at h
  split at h
  · rename_i e' hd
    simp only [Option.map_eq_some_iff] at h
    obtain ⟨i, hi, he⟩ := h
    simp only [Prod.mk.injEq] at he
    obtain ⟨rfl, h2, h3⟩ := he
    exact ⟨i, hd, hi, h2, h3⟩
  · cases h

theorem args_one {x : Operand} {l : Array Operand} (h : l.toList = [x]) : l = #[x] := by
  have := congrArg List.toArray h
  simpa using this
theorem args_two {x y : Operand} {l : Array Operand} (h : l.toList = [x, y]) : l = #[x, y] := by
  have := congrArg List.toArray h
  simpa using this

theorem does_len {cl : Call} (ho : o.op = .call cl) (hc : cl.callee = .builtin .len) (hH : HRel E c H) (hr : LRel E c ts a.tmps.toList) (h : opW E P o ts H K) : Does E P c H o a K := by
  simp only [opW, ho, hc] at h
  split at h
  · rename_i x hd hx
    obtain ⟨t, ht, hd⟩ := Option.bind_eq_some_iff.1 hd
    have hx' := args_one hx
    obtain ⟨r, hb, hk⟩ := h
    have hv := ev_rel hH hr x
    unfold lenS at hb
    split at hb
    · rename_i s e1
      injection hb with hb; subst hb; rw [e1] at hv; simp only [VRel] at hv
      exact does_pure hH (v := .int .i64 s.size) (by simp [execOp, ho, resolve, hc, invoke, builtin, Builtin.len_, ht, hx', run_underlying' hd, hv, goInt]) (by simp [VRel]) hk
    · cases hb
  · rename_i e x hd hx
    obtain ⟨t, ht, hd⟩ := Option.bind_eq_some_iff.1 hd
    have hx' := args_one hx
    obtain ⟨r, hb, hk⟩ := h
    have hv := ev_rel hH hr x
    have key : ∀ p n cap, a.eval x = .slice p n cap → r = .val (.int .i64 n) → Does E P c H o a K := by
      intro p n cap hv hr'
      subst hr'
      exact does_pure hH (v := .int .i64 n) (by simp [execOp, ho, resolve, hc, invoke, builtin, Builtin.len_, ht, hx', run_underlying' hd, hv, goInt]) (by simp [VRel]) hk
    unfold lenA at hb
    split at hb
    · rename_i e1
      injection hb with hb; rw [e1] at hv; simp only [VRel] at hv
      obtain ⟨p, cap, hv, _⟩ := hv
      exact key _ _ _ hv hb.symm
    · rename_i e1
      injection hb with hb; rw [e1] at hv; simp only [VRel] at hv
      obtain ⟨_, p, cap, hv, _⟩ := hv
      exact key _ _ _ hv hb.symm
    · rename_i e1
      injection hb with hb; rw [e1] at hv; simp only [VRel] at hv
      rcases hv with ⟨hv, rfl⟩ | ⟨p, cap, hv, _⟩
      · exact key _ _ _ hv hb.symm
      · exact key _ _ _ hv hb.symm
    · rename_i e1
      injection hb with hb; rw [e1] at hv; simp only [VRel] at hv
      obtain ⟨_, p, cap, hv, _⟩ := hv
      exact key _ _ _ hv hb.symm
    · rename_i e1
      injection hb with hb; rw [e1] at hv; simp only [VRel] at hv
      exact key _ _ _ hv hb.symm
    · cases hb
  · exact h.elim

theorem does_minmax {cl : Call} (mx : Bool) (ho : o.op = .call cl) (hc : cl.callee = .builtin (if mx then .max else .min)) (hH : HRel E c H) (hr : LRel E c ts a.tmps.toList) (h : opW E P o ts H K) : Does E P c H o a K := by
  have key : ∀ x y, cl.args.toList = [x, y] → wGet (minA mx (ev E ts x) (ev E ts y)) H K → Does E P c H o a K := by
    intro x y hargs h
    have hargs' := args_two hargs
    obtain ⟨r, hb, hk⟩ := h
    obtain ⟨q, hq, hqr⟩ := minA_sound (P := P) hb (ev_rel hH hr x) (ev_rel hH hr y) c.w
    refine ⟨q, c, H, _, .inl ?_, hk, hH, hqr, Later.refl c, .inl ⟨rfl, rfl⟩⟩
    cases mx <;> simp only [Bool.false_eq_true, if_false, if_true] at hc hq
    · have : ∀ ats ty, (Builtin.min_ ats ty #[a.eval x, a.eval y]).run P c.w = .ok q c.w := fun _ _ => hq
      simp [execOp, ho, resolve, hc, invoke, builtin, hargs', this]
    · have : ∀ ats ty, (Builtin.max_ ats ty #[a.eval x, a.eval y]).run P c.w = .ok q c.w := fun _ _ => hq
      simp [execOp, ho, resolve, hc, invoke, builtin, hargs', this]
  cases mx <;> simp only [Bool.false_eq_true, if_false, if_true] at hc <;> simp only [opW, ho, hc] at h <;>
  · split at h
    · rename_i x y hargs; exact key x y hargs h
    · exact h.elim

/-- the noughts of many elements -/
theorem zeros_flat (z : Array Value) (n : Nat) : (Array.range (n * z.size)).map (fun i => z[i % z.size]!) = (List.replicate n z.toList).flatten.toArray := by
  apply Array.ext'
  simp only [Array.toList_map, Array.toList_range]
  rcases Nat.eq_zero_or_pos z.size with h0 | hp
  · have : z = #[] := by simpa using h0
    subst this
    simp
  · induction n with
    | zero => simp
    | succ n ih =>
      rw [Nat.succ_mul, List.range_add, List.map_append, ih, List.replicate_succ', List.flatten_concat, List.map_map]
      congr 1
      apply List.ext_getElem
      · simp
      · intro i h1 h2
        simp at h1 h2
        simp [Nat.add_comm (n * z.size) i, Nat.mod_eq_of_lt h1, h1]

theorem LRel.flat {E : Env} {c : Cx} {xs : List AV} {vs : List Value} (h : LRel E c xs vs) : ∀ n, LRel E c (List.replicate n xs).flatten (List.replicate n vs).flatten
  | 0 => by simp [LRel]
  | n + 1 => by simp only [List.replicate_succ, List.flatten_cons]; exact h.append (LRel.flat h n)

theorem fold_setL (off : Nat) : ∀ (vs : List Value) (k : Nat) (cells : Array Value), off + k + vs.length ≤ cells.size →
    ((vs.zipIdx k).foldl (fun cs (p : Value × Nat) => cs.setIfInBounds (off + p.2) p.1) cells).toList = cells.toList.take (off + k) ++ vs ++ cells.toList.drop (off + k + vs.length)
  | [], k, cells, _ => by simp
  | v :: vs, k, cells, h => by
    simp only [List.zipIdx_cons, List.foldl_cons]
    simp only [List.length_cons] at h
    rw [fold_setL off vs (k + 1) _ (by simp; omega)]
    simp only [Array.toList_setIfInBounds]
    have hlt : off + k < cells.toList.length := by simp; omega
    have e1 : (cells.toList.set (off + k) v).take (off + k + 1) = cells.toList.take (off + k) ++ [v] := by
      rw [List.take_add_one, List.getElem?_set_self hlt, List.take_set_of_le (Nat.le_refl _)]; rfl
    have e2 : (cells.toList.set (off + k) v).drop (off + (k + 1) + vs.length) = cells.toList.drop (off + (k + 1) + vs.length) := List.drop_set_of_lt (by omega)
    rw [show off + (k + 1) = off + k + 1 by omega] at e2 ⊢
    rw [e1, e2]
    simp only [List.append_assoc, List.cons_append, List.nil_append, List.length_cons]
    rw [show off + k + 1 + vs.length = off + k + (vs.length + 1) by omega]

theorem fold_set (cells vs : Array Value) (off : Nat) (h : off + vs.size ≤ cells.size) :
    (vs.zipIdx.foldl (fun cs (p : Value × Nat) => cs.setIfInBounds (off + p.2) p.1) cells).toList = cells.toList.take off ++ vs.toList ++ cells.toList.drop (off + vs.size) := by
  rw [← Array.foldl_toList, Array.toList_zipIdx]
  have := fold_setL off vs.toList 0 cells (by simpa using h)
  simpa using this

/-- 'fill' on the model's values -/
theorem fill_sound {place : Nat → Option (Nat × Nat)} : ∀ (parts : List (Nat × Operand)) (l : List (Nat × Nat × AV)) (z z' : List AV) (zs : List Value),
    partsP E ts place parts = some l → HRel E c H → LRel E c ts a.tmps.toList → fillA z l = some z' → LRel E c z zs →
    ∃ r, Instr.fill place zs.toArray (parts.map fun p => (p.1, a.eval p.2)) = some r ∧ LRel E c z' r.toList := by
  intro parts
  induction parts with
  | nil =>
    intro l z z' zs hl _ _ hf hz
    simp only [partsP] at hl; injection hl with hl; subst hl
    simp only [fillA] at hf; injection hf with hf; subst hf
    exact ⟨zs.toArray, rfl, by simpa using hz⟩
  | cons p parts ih =>
    intro l z z' zs hp hH hr hf hz
    obtain ⟨i, x⟩ := p
    simp only [partsP] at hp
    split at hp
    · rename_i off n l' h1 h2
      injection hp with hp; subst hp
      simp only [fillA, Option.bind_eq_some_iff] at hf
      obtain ⟨cs, hcs, hf⟩ := hf
      split at hf
      · rename_i hn
        simp only [Option.bind_eq_some_iff] at hf
        obtain ⟨z1, hput, hf⟩ := hf
        obtain ⟨hle, rfl⟩ := putL_some hput
        have hx := cells?_some hcs (ev_rel hH hr x)
        have hlx := hx.length
        have hlz := hz.length
        have hsz : (a.eval x).cells.size = n := by simp at hlx; omega
        have hfold := fold_set zs.toArray (a.eval x).cells off (by simp at hlx ⊢; omega)
        obtain ⟨r, hr1, hr2⟩ := ih l' (z.take off ++ cs ++ z.drop (off + cs.length)) z' (zs.take off ++ (a.eval x).cells.toList ++ zs.drop (off + (a.eval x).cells.toList.length)) h2 hH hr hf (((hz.take off).append hx).append (by rw [hlx]; exact hz.drop _))
        refine ⟨r, ?_, hr2⟩
        simp only [List.map_cons, Instr.fill, h1]
        rw [if_neg (by simp at hlx ⊢; omega)]
        rw [← hr1]
        congr 1
        apply Array.ext'
        simpa using hfold
      · cases hf
    · cases hp

theorem does_build {t : TypeId} {parts : Array (Nat × Operand)} (ho : o.op = .build t parts) (hH : HRel E c H) (hr : LRel E c ts a.tmps.toList) (h : opW E P o ts H K) : Does E P c H o a K := by
  simp only [opW, ho] at h
  split at h
  · rename_i l z hp hz
    obtain ⟨r, hf, hk⟩ := h
    have hinfo : ∃ it v, P.info? t = some it ∧ it.zero = some v ∧ z = v.cells.toList.map .val := by
      unfold zeroB at hz
      split at hz
      · rename_i v hv
        obtain ⟨it, h1, h2⟩ := Option.bind_eq_some_iff.1 hv
        split at hz
        · injection hz with hz; exact ⟨it, v, h1, h2, hz.symm⟩
        · cases hz
      · cases hz
    obtain ⟨it, v, h1, h2, rfl⟩ := hinfo
    have hmap : (parts.map fun (i, x) => (i, a.eval x)).toList = parts.toList.map fun p => (p.1, a.eval p.2) := by simp
    have key : ∃ cells, P.built t (parts.map fun (i, x) => (i, a.eval x)).toList = some cells ∧ LRel E c r cells.toList := by
      unfold partsB at hp
      split at hp
      · rename_i fs hd
        split at hp
        · rename_i places hpl
          obtain ⟨cells, hc, hl⟩ := fill_sound parts.toList l _ r v.cells.toList hp hH hr hf (LRel_vals E c _)
          refine ⟨cells, ?_, hl⟩
          simp only [Program.built, h1, hd, h2, hpl, hmap]
          simpa using hc
        · cases hp
      · rename_i n e hd
        split at hp
        · rename_i ie hie
          obtain ⟨cells, hc, hl⟩ := fill_sound parts.toList l _ r v.cells.toList hp hH hr hf (LRel_vals E c _)
          refine ⟨cells, ?_, hl⟩
          simp only [Program.built, h1, hd, h2, hie, hmap]
          simpa using hc
        · cases hp
      · cases hp
    obtain ⟨cells, hc, hl⟩ := key
    have := run_build (P := P) c.w t _ cells hc
    exact does_pure hH (v := .agg cells) (by simp only [execOp, ho, Sem.run_bind, this, Result.andThen_ok]; rfl) (by simp only [VRel]; exact ⟨cells.toList, by simp, hl⟩) hk
  · exact h.elim

/-- a new slice, in one of the ways -/
theorem newS_sound {n len : Nat} {e : TypeId} {us : List Value} {l : List AV} {x : AV} {H' : AH} (hH : HRel E c H) (hl : LRel E c l us) (hlen : us.length = len * n) (hn : NewSR n len l H x H') :
    ∃ c', c'.w = c.w.alloc (.cells us.toArray e) ∧ HRel E c' H' ∧ Later c c' ∧ VRel E c' x (.slice (some ⟨c.w.heap.size, 0, none⟩) len len) := by
  cases hn with
  | frz hs =>
    obtain ⟨c', h1, h2, h3, h4⟩ := hH.newFrz e us [] l hl
    refine ⟨c', by rw [h1]; simp, h2, h3, hs E c' _ ?_⟩
    simp only [VRel]
    exact ⟨_, len, rfl, Nat.le_refl _, .inr ⟨_, 0, by simp, h4⟩⟩
  | live b hb =>
    obtain ⟨c', h1, h2, h3, _, h5⟩ := hH.newCells hb n e us [] l hl
    exact ⟨c', by rw [h1]; simp, h2, h3, h5 len len (by simp [hlen]) (Nat.le_refl _)⟩
  | tail b hs hb =>
    obtain ⟨c', h1, h2, h3, h5⟩ := hH.newTail hb n e us [] _ (hs.rel hl)
    exact ⟨c', by rw [h1]; simp, h2, h3, h5 len len (by simp [hlen]) (Nat.le_refl _)⟩

theorem does_buildSlice {t : TypeId} {len : Nat} {parts : Array (Nat × Operand)} (ho : o.op = .buildSlice t len parts) (hH : HRel E c H) (hr : LRel E c ts a.tmps.toList) (h : opW E P o ts H K) : Does E P c H o a K := by
  simp only [opW, ho] at h
  split at h
  · rename_i e n bs he
    split at h
    case h_2 => exact h.elim
    rename_i z l hz hp
    split at h
    · rename_i hlen
      obtain ⟨r, x, H', hf, hrl, hn, hk⟩ := h
      obtain ⟨v, hv, rfl, _, hvs⟩ := run_zero hz c.w
      obtain ⟨i, hd, hi, rfl, rfl⟩ := elemB_some he
      have hvn : v.cells.size = i.size := by
        have : (tyB P e).map (·.2) = some i.size := by
          cases hu : P.underlying e with
          | none => simp [tyB, hu] at hvs
          | some d => simp [tyB, hu, hi]
        rw [this] at hvs; injection hvs
      obtain ⟨cells, hc, hl⟩ := fill_sound parts.toList l _ r (List.replicate len v.cells.toList).flatten hp hH hr hf ((LRel_vals E c _).flat len)
      have hcl := hl.length
      obtain ⟨c', h1, h2, h3, h5⟩ := newS_sound (e := e) hH hl (by simp at hcl ⊢; omega) hn
      refine ⟨_, c', _, _, .inl ?_, hk, h2, h5, h3, .inr (by simp [ho, readOp])⟩
      rw [h1]
      have hsz : (sizeOf e).run P c.w = .ok i.size c.w := by simp [sizeOf, run_typeInfo' hi]
      have hzf := zeros_flat v.cells len
      rw [hvn] at hzf
      have hmap : (parts.map fun (i, x) => (i, a.eval x)).toList = parts.toList.map fun p => (p.1, a.eval p.2) := by simp
      by_cases h0 : len * i.size = 0
      · have hnil : (List.replicate len v.cells.toList).flatten = [] := by
          have : ((List.replicate len v.cells.toList).flatten).length = 0 := by simp [hvn, h0]
          exact List.eq_nil_of_length_eq_zero this
        rw [hnil] at hc
        have hr0 : Array.map (fun _ => (default : Value)) (Array.range 0) = #[] := by apply Array.eq_empty_of_size_eq_zero; simp
        simp [execOp, ho, Instr.buildSlice, run_underlying' hd, hsz, h0, hr0, hc, run_newRow]
      · have hlen' : ¬ len * i.size > 2 ^ 24 := by omega
        simp only [execOp, ho, Instr.buildSlice, Sem.run_bind, run_underlying' hd, Result.andThen_ok, hsz]
        rw [if_neg hlen', if_neg h0]
        simp [hv, hvn, hzf, hc, run_newRow]
    · exact h.elim
  · exact h.elim

theorem does_makeSlice {t : TypeId} {x y : Operand} (ho : o.op = .makeSlice t x y) (hH : HRel E c H) (hr : LRel E c ts a.tmps.toList) (h : opW E P o ts H K) : Does E P c H o a K := by
  simp only [opW, ho] at h
  split at h
  · rename_i e n bs he
    split at h
    · rename_i z hz
      obtain ⟨nn, r, H', hb, hn, hk⟩ := h
      obtain ⟨v, hv, rfl, _, hvs⟩ := run_zero hz c.w
      obtain ⟨i, hd, hi, rfl, rfl⟩ := elemB_some he
      have hvn : v.cells.size = i.size := by
        have : (tyB P e).map (·.2) = some i.size := by
          cases hu : P.underlying e with
          | none => simp [tyB, hu] at hvs
          | some d => simp [tyB, hu, hi]
        rw [this] at hvs; injection hvs
      have hx := ev_rel hH hr x
      have hy := ev_rel hH hr y
      unfold makeA at hb
      split at hb
      · rename_i k1 l k2 m e1 e2
        rw [e1] at hx; rw [e2] at hy
        simp only [VRel] at hx hy
        split at hb
        · rename_i hm
          injection hb with hb
          subst hb
          obtain ⟨h0, rfl, hbytes, hmost⟩ := hm
          obtain ⟨nn, rfl⟩ : ∃ nn : Nat, l = nn := ⟨l.toNat, by omega⟩
          simp only [mostBytes, Int.toNat_natCast] at *
          have hlen : (List.replicate nn v.cells.toList).flatten.length = nn * i.size := by simp [hvn]
          obtain ⟨c', h1, h2, h3, h5⟩ := newS_sound (e := e) hH ((LRel_vals E c v.cells.toList).flat nn) hlen hn
          refine ⟨_, c', _, _, .inl ?_, hk, h2, h5, h3, .inr (by simp [ho, readOp])⟩
          rw [h1]
          have hzf := zeros_flat v.cells nn
          rw [hvn] at hzf
          have hz' : i.zero = some v := by
            unfold zeroB at hz
            simp [hi] at hz
            cases hiz : i.zero with
            | none => simp [zeroValue, typeInfo, hi, hiz] at hv
            | some v' => simp [zeroValue, typeInfo, hi, hiz] at hv; rw [hv]
          have hbb : (i.bytes : Int) * (nn : Int) ≤ 281474976710656 := by
            have : (nn : Int) * (i.bytes : Int) ≤ 70368744177664 := by simpa using hbytes
            rw [Int.mul_comm]; omega
          have hrun := run_make (P := P) c.w t e i v hd hi hz' k1 k2 nn nn (by omega) (Int.le_refl _) hbb (by omega)
          have hmade : madeCells v.cells ((nn : Int).toNat * i.size) = (List.replicate nn v.cells.toList).flatten.toArray := by
            rw [← hzf]; simp only [madeCells, hvn, Int.toNat_natCast]
          simp only [execOp, ho, hx, hy, Sem.run_bind, hrun, Result.andThen_ok, hmade]
          simp
        · cases hb
      · cases hb
    · exact h.elim
  · exact h.elim

/-- the capacity of an append that must grow -/
theorem cellsOfA_sound {x : AV} {n size : Nat} {new : List AV} {v : Value} (h : cellsOfA size x H = some (n, new)) (hH : HRel E c H) (hv : VRel E c x v) :
    (∀ w, (Builtin.lenOf v).run P w = .ok n w) ∧ ∃ news : List Value, news.length = n * size ∧ LRel E c new news ∧ ∀ w : World, w.heap = c.w.heap → (Builtin.firstCells size n v).run P w = .ok news.toArray w := by
  unfold cellsOfA at h
  split at h
  · simp only [VRel] at hv; subst hv
    injection h with h; injection h with h1 h2; subst h1 h2
    exact ⟨fun w => by simp [Builtin.lenOf], [], by simp, by simp [LRel], fun w _ => by simp [Builtin.firstCells]⟩
  · rename_i cs off len
    simp only [Option.map_eq_some_iff] at h
    obtain ⟨l, h, e⟩ := h
    injection e with h1 h2; subst h1 h2
    obtain ⟨hle, rfl⟩ := subL_some h
    simp only [VRel] at hv
    obtain ⟨p, cap, rfl, hlc, hp⟩ := hv
    refine ⟨fun w => by simp [Builtin.lenOf], ?_⟩
    rcases Nat.eq_zero_or_pos len with h0 | hpos
    · subst h0
      exact ⟨[], by simp, by simp [LRel], fun w _ => by simp [Builtin.firstCells, loadCells, loadCellsFrom]⟩
    · obtain ⟨b, o', rfl, hc⟩ := hp.resolve_left (by omega)
      obtain ⟨us, h1, h2, h3⟩ := hc.sub off (len * size) hle
      refine ⟨us, h1, h2, fun w hw => ?_⟩
      have := run_loadCells_list (P := P) w ⟨b, o' + off, none⟩ us (fun j u hj => by
        rw [Addr.add_at, cell_of_heap (show w.heap[b]? = c.w.heap[b]? by rw [hw])]; exact h3 j u hj)
      simp only [Builtin.firstCells, ← h1, this]
  · rename_i b off len g
    simp only [Option.bind_eq_some_iff, Option.map_eq_some_iff] at h
    obtain ⟨cs, hcs, l, h, e⟩ := h
    injection e with h1 h2; subst h1 h2
    obtain ⟨hle, rfl⟩ := subL_some h
    obtain ⟨sz, p0, pre, rest, e, hb, hg, _, _, hw, _, hp0, hl⟩ := hH.block hcs
    simp only [VRel] at hv
    obtain ⟨_, p, cap, rfl, hlc, hp⟩ := hv
    refine ⟨fun w => by simp [Builtin.lenOf], ?_⟩
    rcases Nat.eq_zero_or_pos len with h0 | hpos
    · subst h0
      exact ⟨[], by simp, by simp [LRel], fun w _ => by simp [Builtin.firstCells, loadCells, loadCellsFrom]⟩
    · obtain ⟨rfl, _⟩ := (hp hg).resolve_left (by omega)
      have hlen := hl.length
      refine ⟨(pre.drop off).take (len * size), by simp; omega, (hl.drop off).take _, fun w hw' => ?_⟩
      have hlen2 : ((pre.drop off).take (len * size)).length = len * size := by simp; omega
      have := run_loadCells_list (P := P) w ⟨c.al b, c.base b + off, none⟩ ((pre.drop off).take (len * size)) (fun j u hj => by
        rw [Addr.add_at, cell_of_heap (show w.heap[c.al b]? = c.w.heap[c.al b]? by rw [hw']), cell_of_block hw, ← hp0, Nat.add_assoc]
        have hj' : j < len * size := by
          have := (List.getElem?_eq_some_iff.1 hj).1
          omega
        rw [List.getElem?_take_of_lt hj', List.getElem?_drop] at hj
        exact mid_get hj)
      rw [hlen2] at this
      simp only [Builtin.firstCells, this]
  · rename_i cs len
    simp only [Option.map_eq_some_iff] at h
    obtain ⟨l, h, e⟩ := h
    injection e with h1 h2; subst h1 h2
    obtain ⟨hle, rfl⟩ := subL_some h
    simp only [VRel] at hv
    rcases hv with ⟨rfl, rfl⟩ | ⟨p, cap, rfl, hlc, hp⟩
    · exact ⟨fun w => by simp [Builtin.lenOf], [], by simp, by simp [LRel], fun w _ => by simp [Builtin.firstCells]⟩
    refine ⟨fun w => by simp [Builtin.lenOf], ?_⟩
    rcases Nat.eq_zero_or_pos len with h0 | hpos
    · subst h0
      exact ⟨[], by simp, by simp [LRel], fun w _ => by simp [Builtin.firstCells, loadCells, loadCellsFrom]⟩
    · obtain ⟨b, o', rfl, hc⟩ := hp.resolve_left (by omega)
      obtain ⟨us, h1, h2, h3⟩ := hc.sub 0 (len * size) hle
      refine ⟨us, h1, h2, fun w hw => ?_⟩
      have := run_loadCells_list (P := P) w ⟨b, o', none⟩ us (fun j u hj => by
        rw [Addr.add_at, cell_of_heap (show w.heap[b]? = c.w.heap[b]? by rw [hw])]; exact h3 j u hj)
      simp only [Builtin.firstCells, ← h1, this]
  · rename_i b cs len g
    simp only [Option.map_eq_some_iff] at h
    obtain ⟨l, h, e⟩ := h
    injection e with h1 h2; subst h1 h2
    obtain ⟨hle, rfl⟩ := subL_some h
    simp only [VRel] at hv
    obtain ⟨_, p, cap, rfl, hlc, hp⟩ := hv
    refine ⟨fun w => by simp [Builtin.lenOf], ?_⟩
    rcases Nat.eq_zero_or_pos len with h0 | hpos
    · subst h0
      exact ⟨[], by simp, by simp [LRel], fun w _ => by simp [Builtin.firstCells, loadCells, loadCellsFrom]⟩
    · obtain ⟨b, o', rfl, hc, _⟩ := hp.resolve_left (by omega)
      obtain ⟨us, h1, h2, h3⟩ := hc.sub 0 (len * size) hle
      refine ⟨us, h1, h2, fun w hw => ?_⟩
      have := run_loadCells_list (P := P) w ⟨b, o', none⟩ us (fun j u hj => by
        rw [Addr.add_at, cell_of_heap (show w.heap[b]? = c.w.heap[b]? by rw [hw])]; exact h3 j u hj)
      simp only [Builtin.firstCells, ← h1, this]
  · rename_i s
    split at h
    · rename_i h1
      subst h1
      injection h with h; injection h with h1 h2; subst h1 h2
      simp only [VRel] at hv; subst hv
      refine ⟨fun w => by simp [Builtin.lenOf], s.data.toList.map fun b => .int .u8 b.toNat, by simp, ?_, fun w _ => ?_⟩
      · have := LRel_vals E c (s.data.toList.map fun b => Value.int .u8 b.toNat)
        simpa [Function.comp_def] using this
      · have hs : s.extract 0 s.size = s := by
          apply ByteArray.ext
          simp
        simp only [Builtin.firstCells, hs, Sem.run_pure]
        congr 1
        apply Array.ext'
        simp
    · cases h
  · cases h
end
end Go.Sc
namespace Go.Sc
open Go
section
variable {E : Env} {P : Program} {c : Cx} {ts : List AV} {H : AH} {a : Act} {K : Kt} {o : Oper}
theorem fits_cap {need old bytes : Nat} (h : old < need) (hb : need * bytes ≤ mostBytes) : ¬ (281474976710656 < Builtin.nextslicecap need old * bytes) := by
  have := growslice_fits h (bytes := bytes) (by unfold mostBytes at hb; omega)
  omega

theorem append_grow {t ty e xt : TypeId} {ats : Array TypeId} {i : TypeInfo} (ht : ats[0]? = some t) (hxt : ats[1]? = some xt) (hd : P.underlying t = some (.slice e)) (hi : P.info? e = some i) (hxd : (∃ e', P.underlying xt = some (.slice e')) ∨ P.underlying xt = some .string) {z : Value} (hz : i.zero = some z)
    {base : Option Addr} {sLen sCap n : Nat} {xv : Value} {olds news : List Value} {w : World} (hlen : ∀ w, (Builtin.lenOf xv).run P w = .ok n w)
    (hnew : ∀ w' : World, w'.heap = w.heap → (Builtin.firstCells i.size n xv).run P w' = .ok news.toArray w')
    (hold : ∀ w' : World, w'.heap = w.heap → (Builtin.firstCells i.size sLen (.slice base sLen sCap)).run P w' = .ok olds.toArray w')
    (hcap : sCap < sLen + n) (hb : (sLen + n) * i.bytes ≤ mostBytes) (hm : sLen + n ≤ mostBytes) :
    ∃ newCap, sLen + n ≤ newCap ∧ (Builtin.append_ ats ty #[.slice base sLen sCap, xv]).run P w =
      .ok (.slice (some ⟨w.heap.size, 0, none⟩) (sLen + n) newCap) (w.drew.alloc (.cells (olds ++ (news ++ (Builtin.zeroCells z.cells (newCap - (sLen + n))).toList)).toArray e)) := by
  have hn : ¬ (sLen + n ≤ sCap) := by omega
  have h63' : ¬ (9223372036854775807 < ((sLen : Int) + (n : Int))) := by simp only [mostBytes] at hm; omega
  have h48' := fits_cap (bytes := i.bytes) hcap hb
  have ho := hold w.drew rfl
  have hw := hnew w.drew rfl
  refine ⟨grownCap w (sLen + n) sCap e, by simp [grownCap, Question.cut], ?_⟩
  rcases hxd with ⟨e', hxd⟩ | hxd
  · simp [Builtin.append_, ht, hxt, run_underlying' hd, run_underlying' hxd, sizeOf, typeInfo, zeroValue, hi, hz, hlen, hn, h63', h48', Question.forced, ho, hw, newRow, grownCap]
    congr 2
    apply Array.ext'
    simp
  · simp [Builtin.append_, ht, hxt, run_underlying' hd, run_underlying' hxd, sizeOf, typeInfo, zeroValue, hi, hz, hlen, hn, h63', h48', Question.forced, ho, hw, newRow, grownCap]
    congr 2
    apply Array.ext'
    simp

theorem append_room {t ty e xt : TypeId} {ats : Array TypeId} {i : TypeInfo} (ht : ats[0]? = some t) (hxt : ats[1]? = some xt) (hd : P.underlying t = some (.slice e)) (hi : P.info? e = some i) (hxd : (∃ e', P.underlying xt = some (.slice e')) ∨ P.underlying xt = some .string)
    {base : Option Addr} {sLen sCap n : Nat} {xv : Value} {news : List Value} {w w' : World} (hlen : ∀ w, (Builtin.lenOf xv).run P w = .ok n w)
    (hnew : (Builtin.firstCells i.size n xv).run P w = .ok news.toArray w) (hcap : sLen + n ≤ sCap)
    (hst : (∃ ad, base = some ad ∧ (storeCells (ad.add (sLen * i.size)) news).run P w = .ok () w') ∨ (base = none ∧ w' = w)) :
    (Builtin.append_ ats ty #[.slice base sLen sCap, xv]).run P w = .ok (.slice base (sLen + n) sCap) w' := by
  rcases hst with ⟨ad, rfl, hst⟩ | ⟨rfl, rfl⟩
  · rcases hxd with ⟨e', hxd⟩ | hxd <;> simp [Builtin.append_, ht, hxt, run_underlying' hd, run_underlying' hxd, sizeOf, typeInfo, hi, hlen, hcap, hnew, hst]
  · rcases hxd with ⟨e', hxd⟩ | hxd <;> simp [Builtin.append_, ht, hxt, run_underlying' hd, run_underlying' hxd, sizeOf, typeInfo, hi, hlen, hcap, hnew]

theorem zero_some {e : TypeId} {i : TypeInfo} {z : List AV} (hz : zeroB P e = some z) (hi : P.info? e = some i) : ∃ v, i.zero = some v ∧ v.cells.size = i.size := by
  obtain ⟨v, hv, _, _, hvs⟩ := run_zero (w := default) hz
  unfold zeroB at hz
  simp [hi] at hz
  cases hiz : i.zero with
  | none => simp [hiz] at hz
  | some v' =>
    simp [zeroValue, typeInfo, hi, hiz] at hv
    subst hv
    refine ⟨v', rfl, ?_⟩
    cases hu : P.underlying e with
    | none => simp [tyB, hu] at hvs
    | some d => simp [tyB, hu, hi] at hvs; exact hvs

theorem setRow_other {w : World} {g : Nat} {cs : Array Value} {i : Nat} (h : i ≠ g) : (w.setRow g cs).heap[i]? = w.heap[i]? := by
  simp only [World.setRow, Array.getElem?_modify]
  rw [if_neg (by omega)]

theorem cut_mid {α : Type} (A rest news : List α) : (A ++ rest).take A.length ++ news ++ (A ++ rest).drop (A.length + news.length) = A ++ news ++ rest.drop news.length := by
  have : A.drop (A.length + news.length) = [] := List.drop_eq_nil_of_le (by omega)
  simp [List.drop_append, this, show A.length + news.length - A.length = news.length by omega]

theorem append_sound {t xt e ty : TypeId} {ats : Array TypeId} {n b : Nat} {z : List AV} {s x r : AV} {sv xv : Value} {H' : AH} (ht : ats[0]? = some t) (hxt : ats[1]? = some xt) (he : elemB P t = some (e, n, b)) (hz : zeroB P e = some z)
    (hxd : (∃ e', P.underlying xt = some (.slice e')) ∨ P.underlying xt = some .string) (hH : HRel E c H) (hs : VRel E c s sv) (hx : VRel E c x xv) (hb : appendA n b s x H = some (r, H')) :
    ∃ v c', (Builtin.append_ ats ty #[sv, xv]).run P c.w = .ok v c'.w ∧ HRel E c' H' ∧ VRel E c' r v ∧ Later c c' := by
  obtain ⟨i, hd, hi, rfl, rfl⟩ := elemB_some he
  obtain ⟨zv, hzv, hzs⟩ := zero_some hz hi
  simp only [appendA, Option.bind_eq_some_iff] at hb
  obtain ⟨⟨m, new⟩, hcells, hb⟩ := hb
  obtain ⟨hlen, news, hnl, hnr, hnf⟩ := cellsOfA_sound (P := P) hcells hH hx
  split at hb
  · -- onto nil
    simp only [VRel] at hs; subst hs
    split at hb
    · rename_i h0
      subst h0
      injection hb with hb; injection hb with hb1 hb2; subst hb1 hb2
      have hrun := append_room (P := P) (ty := ty) ht hxt hd hi hxd (base := none) (sLen := 0) (sCap := 0) (w' := c.w) hlen (hnf c.w rfl) (Nat.le_refl _) (.inr ⟨rfl, rfl⟩)
      exact ⟨_, c, hrun, hH, by simp [VRel], Later.refl c⟩
    · rename_i h0
      split at hb
      · rename_i hbd
        injection hb with hb; injection hb with hb1 hb2; subst hb1 hb2
        obtain ⟨cap, hcap, hrun⟩ := append_grow (P := P) (ty := ty) ht hxt hd hi hxd hzv (base := none) (sLen := 0) (sCap := 0) (olds := []) (w := c.w) hlen hnf (fun w _ => by simp [Builtin.firstCells]) (by omega) (by simpa using hbd.1) (by simpa using hbd.2)
        obtain ⟨k1, k2⟩ := hH.heap_eq (w' := c.w.drew) rfl rfl rfl rfl
        obtain ⟨c', h1, h2, h3, _, h5⟩ := k1.newCells (b := H.bs.length) (.inl rfl) i.size e news (Builtin.zeroCells zv.cells (cap - (0 + m))).toList new (hnr.le k2.le)
        refine ⟨_, c', ?_, by simpa [AH.put, AH.push] using h2, h5 m cap ?_ (by omega), k2.trans h3⟩
        · rw [hrun, h1]; simp
        · simp [hnl, Builtin.zeroCells, hzs]
          rw [← Nat.add_mul]; congr 1; omega
      · cases hb
  · -- onto one of the call's own
    rename_i b off len g
    have hs' := hs
    simp only [VRel] at hs
    simp only [Option.bind_eq_some_iff] at hb
    obtain ⟨cs, hcs, hb⟩ := hb
    obtain ⟨sz, p0, pre, rest, e', hbk, hg, hgc, hsz, hw, hcsz, hp0, hl⟩ := hH.block hcs
    obtain ⟨_, p, cap, rfl, hlc, hp⟩ := hs
    split at hb
    · rename_i hbd
      obtain ⟨hesz, hfr, hby, hmo, hsc⟩ := hbd
      have hsz' : c.sz b = i.size := hH.esz hesz
      rw [hsz] at hsz'; subst hsz'
      have hlenl := hl.length
      split at hb
      · rename_i h0
        subst h0
        injection hb with hb; injection hb with hb1 hb2; subst hb1 hb2
        have hnil : news = [] := List.eq_nil_of_length_eq_zero (by simpa using hnl)
        subst hnil
        have hrun := append_room (P := P) (ty := ty) ht hxt hd hi hxd (base := some p) (sLen := len) (sCap := cap) (w' := c.w) hlen (hnf c.w rfl) (by omega) (.inl ⟨p, rfl, by simp [storeCells]⟩)
        exact ⟨_, c, hrun, hH, hs', Later.refl c⟩
      · rename_i h0
        injection hb with hb; injection hb with hb1 hb2; subst hb1 hb2
        by_cases hroom : len + m ≤ cap
        · -- there is room
          obtain ⟨rfl, hoff⟩ := (hp hg).resolve_left (by omega)
          have hone := scalar_all hsc hnr
          have hprel : pre.length = off + len * i.size := by omega
          have htot : c.base b + off + len * i.size + news.length ≤ (p0 ++ pre ++ rest).length := by
            rw [← hcsz, ← hoff, hnl, hsz, Nat.add_assoc (c.base b + off), ← Nat.add_mul]
            exact Nat.add_le_add_left (Nat.mul_le_mul_right _ hroom) _
          have hst := run_storeCells_at P (c.al b) (c.base b + off + len * i.size) e' news 0 (p0 ++ pre ++ rest).toArray c.w hw (by simpa using htot) hone
          have hrun := append_room (P := P) (ty := ty) ht hxt hd hi hxd (base := some ⟨c.al b, c.base b + off, none⟩) (sLen := len) (sCap := cap) hlen (hnf c.w rfl) hroom (.inl ⟨_, rfl, by rw [Addr.add_at]; exact hst⟩)
          have hcells : (p0 ++ pre ++ rest).toArray.toList.take (c.base b + off + len * i.size + 0) ++ news ++ (p0 ++ pre ++ rest).toArray.toList.drop (c.base b + off + len * i.size + 0 + news.length) = (p0 ++ pre.take off) ++ (pre.drop off ++ news) ++ rest.drop news.length := by
            have e0 : c.base b + off + len * i.size = (p0 ++ pre).length := by simp; omega
            simp only [Nat.add_zero, e0]
            rw [cut_mid]
            simp only [List.append_assoc]
            rw [← List.append_assoc (pre.take off), List.take_append_drop]
          have hlr : (p0 ++ pre ++ rest).length = p0.length + pre.length + rest.length := by simp only [List.length_append]
          have hnr' : news.length ≤ rest.length := by omega
          obtain ⟨c', h1, h2, h3, h5⟩ := hH.regenC (k := c.al b) (cs' := cs.drop off ++ new) (p0 := p0 ++ pre.take off) (pre := pre.drop off ++ news) (rest := rest.drop news.length) (e := e') (w' := c.w.setRow (c.al b) ((p0 ++ pre.take off) ++ (pre.drop off ++ news) ++ rest.drop news.length).toArray) hbk (.inl rfl)
            (by rw [setRow_is hw, Array.getElem?_setIfInBounds]; simp [hH.lt b (hH.live' hbk)]) (fun j hj _ => setRow_other hj) (by simp [World.setRow]) rfl rfl rfl ((hl.drop off).append hnr)
          have hp0' : (p0 ++ pre.take off).length = c.base b + off := by simp; omega
          have hv := h5 0 (len + m) cap (by
            rw [hp0', Nat.add_zero, ← hsz, hoff, hcsz]
            simp only [List.length_append, List.length_drop, List.length_take]
            omega) hroom
          rw [hp0', Nat.add_zero] at hv
          exact ⟨_, c', by rw [hrun, h1, hcells], h2, hv, h3⟩
        · -- it must grow
          have hold : ∀ w' : World, w'.heap = c.w.heap → (Builtin.firstCells i.size len (.slice (some p) len cap)).run P w' = .ok ((pre.drop off)).toArray w' := by
            intro w' hw'
            have hlen2 : (pre.drop off).length = len * i.size := by simp; omega
            rcases Nat.eq_zero_or_pos len with h00 | hpos
            · subst h00
              have : pre.drop off = [] := List.eq_nil_of_length_eq_zero (by simpa using hlen2)
              simp [Builtin.firstCells, loadCells, loadCellsFrom, this]
            · obtain ⟨rfl, hoff⟩ := (hp hg).resolve_left (by omega)
              have := run_loadCells_list (P := P) w' ⟨c.al b, c.base b + off, none⟩ (pre.drop off) (fun j u hj => by
                rw [Addr.add_at, cell_of_heap (show w'.heap[c.al b]? = c.w.heap[c.al b]? by rw [hw']), cell_of_block hw, ← hp0, Nat.add_assoc]
                rw [List.getElem?_drop] at hj
                exact mid_get hj)
              rw [hlen2] at this
              simp only [Builtin.firstCells, this]
          obtain ⟨nc, hcap, hrun⟩ := append_grow (P := P) (ty := ty) ht hxt hd hi hxd hzv (base := some p) (sLen := len) (sCap := cap) (w := c.w) hlen hnf hold (by omega) hby hmo
          obtain ⟨k1, k2⟩ := hH.heap_eq (w' := c.w.drew) rfl rfl rfl rfl
          obtain ⟨c', h1, h2, h3, h5⟩ := k1.regenC (k := c.w.heap.size) (cs' := cs.drop off ++ new) (p0 := []) (pre := pre.drop off ++ news) (rest := (Builtin.zeroCells zv.cells (nc - (len + m))).toList) (e := e)
            (w' := c.w.drew.alloc (.cells (pre.drop off ++ (news ++ (Builtin.zeroCells zv.cells (nc - (len + m))).toList)).toArray e)) hbk (.inr rfl)
            (by simp only [List.nil_append, List.append_assoc]; exact heap_alloc_new' c.w.drew _) (fun j _ hj => heap_alloc_old _ _ _ hj) (by simp) rfl rfl rfl (((hl.drop off).append hnr).le k2.le)
          have hv := h5 0 (len + m) nc (by
            have hlen2 : pre.length - off = len * i.size := by omega
            simp [hnl, Builtin.zeroCells, hzs, hlen2]
            rw [← Nat.add_mul, ← Nat.add_mul]; congr 1; omega) (by omega)
          exact ⟨_, c', by rw [hrun, h1]; rfl, h2, hv, k2.trans h3⟩
    · cases hb
  · cases hb

theorem appR_sound {t xt e ty : TypeId} {ats : Array TypeId} {n b : Nat} {z : List AV} {s x r : AV} {sv xv : Value} {H' : AH} (ht : ats[0]? = some t) (hxt : ats[1]? = some xt) (he : elemB P t = some (e, n, b)) (hz : zeroB P e = some z)
    (hxd : (∃ e', P.underlying xt = some (.slice e')) ∨ P.underlying xt = some .string) (hH : HRel E c H) (hs : VRel E c s sv) (hx : VRel E c x xv) (hb : AppR n b s x H r H') :
    ∃ v c', (Builtin.append_ ats ty #[sv, xv]).run P c.w = .ok v c'.w ∧ HRel E c' H' ∧ VRel E c' r v ∧ Later c c' := by
  cases hb with
  | old hb => exact append_sound ht hxt he hz hxd hH hs hx hb
  | @first k m new new' h0 hf hcells hm hsub hby hmo =>
    obtain ⟨i, hd, hi, rfl, rfl⟩ := elemB_some he
    obtain ⟨zv, hzv, hzs⟩ := zero_some hz hi
    obtain ⟨hlen, news, hnl, hnr, hnf⟩ := cellsOfA_sound (P := P) hcells hH hx
    subst h0
    simp only [VRel] at hs; subst hs
    obtain ⟨cap, hcap, hrun⟩ := append_grow (P := P) (ty := ty) ht hxt hd hi hxd hzv (base := none) (sLen := 0) (sCap := 0) (olds := []) (w := c.w) hlen hnf (fun w _ => by simp [Builtin.firstCells]) (by omega) (by simpa using hby) (by simpa using hmo)
    obtain ⟨k1, k2⟩ := hH.heap_eq (w' := c.w.drew) rfl rfl rfl rfl
    obtain ⟨c', h1, h2, h3, h5⟩ := k1.newTail hf i.size e news (Builtin.zeroCells zv.cells (cap - (0 + m))).toList new' (hsub.rel (hnr.le k2.le))
    refine ⟨_, c', ?_, h2, h5 m cap ?_ (by omega), k2.trans h3⟩
    · rw [hrun, h1]; simp
    · simp [hnl, Builtin.zeroCells, hzs]
      rw [← Nat.add_mul]; congr 1; omega
  | @grow k len g m cs new new' h0 htl hcl hcells hsub hsc hby hmo =>
    obtain ⟨i, hd, hi, rfl, rfl⟩ := elemB_some he
    obtain ⟨zv, hzv, hzs⟩ := zero_some hz hi
    obtain ⟨hlen, news, hnl, hnr, hnf⟩ := cellsOfA_sound (P := P) hcells hH hx
    subst h0
    simp only [VRel] at hs
    obtain ⟨hgc, p, cap, rfl, hlc, hp⟩ := hs
    obtain ⟨_, hg, hsz, arr, e', hw, hcsz⟩ := hH.blk k _ htl
    have hlt := hH.lt k (by rw [hg]; simp)
    by_cases hroom : len + m ≤ cap
    · rcases Nat.eq_zero_or_pos cap with hc0 | hcpos
      · -- nothing at all
        have e1 : len = 0 := by omega
        have e2 : m = 0 := by omega
        subst e1 e2
        have hcs : cs = [] := List.eq_nil_of_length_eq_zero (by simpa using hcl)
        have hnil : news = [] := List.eq_nil_of_length_eq_zero (by simpa using hnl)
        have hnew : new' = [] := by
          subst hnil
          have h1 := hnr.length
          have h2 := hsub.length
          exact List.eq_nil_of_length_eq_zero (by rw [← h2, h1]; rfl)
        subst hcs hnil hnew
        have hrun := append_room (P := P) (ty := ty) ht hxt hd hi hxd (base := some p) (sLen := 0) (sCap := cap) (w' := c.w) hlen (hnf c.w rfl) (by omega) (.inl ⟨p, rfl, by simp [storeCells]⟩)
        obtain ⟨h1, h2⟩ := hH.regen (x' := .tail H.ctr i.size) (sz := i.size) (k := c.al k) (nf := 0) (o := 0) (p0 := 0) (arr := arr) (e := e') (w' := c.w) htl (by simp) (.inl rfl) hw (fun _ _ _ => rfl) (Nat.le_refl _) (fun _ _ => rfl) rfl rfl rfl (by simp) (fun hh => by simp [Blk.isTail] at hh) fun hle => by
          refine ⟨?_, ?_, ?_, arr, e', ?_, ?_⟩
          · simp [hH.ctr]
          · simp [hH.ctr]
          · simp
          · simp only [if_true]; exact hw
          · simp
        refine ⟨_, { w := c.w, al := fun j => if j = k then c.al k else c.al j, base := fun j => if j = k then 0 else c.base j, gen := fun j => if j = k then some c.ctr else c.gen j, sz := fun j => if j = k then i.size else c.sz j, csz := fun j => if j = k then arr.length else c.csz j, fz := c.fz, fc := fun i j => c.fc i j ∨ (i = c.al k ∧ 0 ≤ j ∧ j < 0 + 0), ctr := c.ctr + 1 }, hrun, h1, ?_, h2⟩
        simp only [VRel]
        exact ⟨by rw [← hH.ctr]; exact Nat.lt_succ_self _, p, cap, rfl, by omega, .inl hc0⟩
      · obtain ⟨kk, o', rfl, hcr, hown⟩ := hp.resolve_left (by omega)
        obtain ⟨rfl, hfr, hoff⟩ := hown hg
        have hone := scalar_all hsc hnr
        have htot : o' + len * i.size + news.length ≤ arr.length := by
          rw [← hcsz, ← hoff, hnl, hsz, Nat.add_assoc, ← Nat.add_mul]
          exact Nat.add_le_add_left (Nat.mul_le_mul_right _ hroom) _
        have hst := run_storeCells_at P (c.al k) (o' + len * i.size) e' news 0 arr.toArray c.w hw (by simpa using htot) hone
        have hrun := append_room (P := P) (ty := ty) ht hxt hd hi hxd (base := some ⟨c.al k, o', none⟩) (sLen := len) (sCap := cap) hlen (hnf c.w rfl) hroom (.inl ⟨_, rfl, by rw [Addr.add_at]; exact hst⟩)
        have harr : (arr.toArray.toList.take (o' + len * i.size + 0) ++ news ++ arr.toArray.toList.drop (o' + len * i.size + 0 + news.length)) = arr.take (o' + len * i.size) ++ news ++ arr.drop (o' + len * i.size + news.length) := by simp
        have hl2 : (arr.take (o' + len * i.size) ++ news ++ arr.drop (o' + len * i.size + news.length)).length = arr.length := by simp; omega
        have hbefore : ∀ j, j < o' + len * i.size → (arr.take (o' + len * i.size) ++ news ++ arr.drop (o' + len * i.size + news.length))[j]? = arr[j]? := fun j hj => by
          rw [List.append_assoc, List.getElem?_append_left (by simp; omega), List.getElem?_take_of_lt hj]
        have hheap : (c.w.setRow (c.al k) (arr.take (o' + len * i.size) ++ news ++ arr.drop (o' + len * i.size + news.length)).toArray).heap[c.al k]? = some (.cells (arr.take (o' + len * i.size) ++ news ++ arr.drop (o' + len * i.size + news.length)).toArray e' (0, 0)) := by
          rw [setRow_is hw, Array.getElem?_setIfInBounds]; simp [hlt]
        obtain ⟨us, u1, u2, u3⟩ := hcr.sub 0 cs.length (by omega)
        have hus : LRel E c cs us := by simpa using u2
        have hnn := hsub.length
        have hnn2 := hnr.length
        obtain ⟨c', h1, h2, h3, h5⟩ := hH.regenT (k := c.al k) (o := o') (cs := cs ++ new') (us := us ++ news) (e := e') (arr := arr.take (o' + len * i.size) ++ news ++ arr.drop (o' + len * i.size + news.length))
          (w' := c.w.setRow (c.al k) (arr.take (o' + len * i.size) ++ news ++ arr.drop (o' + len * i.size + news.length)).toArray) htl (.inl rfl) hheap (fun j hj _ => setRow_other hj) (by simp [World.setRow])
          (fun j hj => by
            have hjl : j < o' + cs.length := by
              by_cases hx : j < o' + cs.length
              · exact hx
              · exact absurd hj (hfr j (by omega))
            simp only [World.cell?, hheap, hw]
            have := hbefore j (by omega)
            simpa using this)
          (fun j hj hf => hfr j (by simp at hj; omega) hf) rfl rfl rfl (hus.append (hsub.rel hnr))
          (fun j v hj => by
            by_cases hjl : j < us.length
            · rw [List.getElem?_append_left hjl] at hj
              rw [hbefore (o' + j) (by omega)]
              have := u3 j v hj
              simpa [World.cell?, hw] using this
            · rw [List.getElem?_append_right (by omega)] at hj
              have hjn := lt_of_get hj
              rw [List.append_assoc, List.getElem?_append_right (by simp; omega), List.getElem?_append_left (by simp; omega), ← hj]
              congr 1
              simp; omega)
        have hv := h5 (len + m) cap (by rw [hl2, ← hcsz, ← hsz]; exact hoff) hroom
        refine ⟨_, c', ?_, h2, hv, h3⟩
        rw [hrun, h1, harr]
    · -- it must grow
      have holds : ∃ olds : List Value, olds.length = len * i.size ∧ LRel E c cs olds ∧ ∀ w' : World, w'.heap = c.w.heap → (Builtin.firstCells i.size len (.slice (some p) len cap)).run P w' = .ok olds.toArray w' := by
        rcases Nat.eq_zero_or_pos len with h00 | hpos
        · subst h00
          have hcs : cs = [] := List.eq_nil_of_length_eq_zero (by simpa using hcl)
          subst hcs
          exact ⟨[], by simp, by simp [LRel], fun w' _ => by simp [Builtin.firstCells, loadCells, loadCellsFrom]⟩
        · obtain ⟨kk, o', rfl, hcr, hown⟩ := hp.resolve_left (by omega)
          obtain ⟨us, u1, u2, u3⟩ := hcr.sub 0 cs.length (by omega)
          refine ⟨us, by omega, by simpa using u2, fun w' hw' => ?_⟩
          have := run_loadCells_list (P := P) w' ⟨kk, o', none⟩ us (fun j u hj => by
            rw [Addr.add_at, cell_of_heap (show w'.heap[kk]? = c.w.heap[kk]? by rw [hw'])]; exact u3 j u hj)
          rw [show us.length = len * i.size by omega] at this
          simp only [Builtin.firstCells, this]
      obtain ⟨olds, hol, hor, hof⟩ := holds
      obtain ⟨nc, hcap, hrun⟩ := append_grow (P := P) (ty := ty) ht hxt hd hi hxd hzv (base := some p) (sLen := len) (sCap := cap) (w := c.w) hlen hnf hof (by omega) hby hmo
      obtain ⟨k1, k2⟩ := hH.heap_eq (w' := c.w.drew) rfl rfl rfl rfl
      obtain ⟨c', h1, h2, h3, h5⟩ := k1.regenT (k := c.w.heap.size) (o := 0) (cs := cs ++ new') (us := olds ++ news) (e := e) (arr := olds ++ (news ++ (Builtin.zeroCells zv.cells (nc - (len + m))).toList))
        (w' := c.w.drew.alloc (.cells (olds ++ (news ++ (Builtin.zeroCells zv.cells (nc - (len + m))).toList)).toArray e)) htl (.inr rfl) (heap_alloc_new' c.w.drew _) (fun j _ hj => heap_alloc_old _ _ _ hj) (by simp)
        (fun j hj => absurd (hH.fclt _ j hj) (Nat.lt_irrefl _)) (fun j _ hj => absurd (hH.fclt _ j hj) (Nat.lt_irrefl _)) rfl rfl rfl ((hor.append (hsub.rel hnr)).le k2.le)
        (fun j v hj => by
          have := lt_of_get hj
          rw [← List.append_assoc, Nat.zero_add, List.getElem?_append_left this]; exact hj)
      have hv := h5 (len + m) nc (by
        simp [hnl, hol, Builtin.zeroCells, hzs]
        have e9 : nc = len + (m + (nc - (len + m))) := by omega
        calc nc * i.size = (len + (m + (nc - (len + m)))) * i.size := by rw [← e9]
          _ = _ := by rw [Nat.add_mul, Nat.add_mul]) hcap
      exact ⟨_, c', by rw [hrun, h1], h2, hv, k2.trans h3⟩

theorem does_append {cl : Call} (ho : o.op = .call cl) (hc : cl.callee = .builtin .append) (hH : HRel E c H) (hr : LRel E c ts a.tmps.toList) (h : opW E P o ts H K) : Does E P c H o a K := by
  simp only [opW, ho, hc] at h
  have key : ∀ t xt s x e n b z, cl.argTypes[0]? = some t → cl.argTypes[1]? = some xt → cl.args.toList = [s, x] → elemB P t = some (e, n, b) → zeroB P e = some z → ((∃ e', P.underlying xt = some (.slice e')) ∨ P.underlying xt = some .string) →
      wApp n b (ev E ts s) (ev E ts x) H K → Does E P c H o a K := by
    intro t xt s x e n b z ht hxt hargs he hz hxd h
    obtain ⟨r, H', hb, hk⟩ := h
    have hargs' := args_two hargs
    obtain ⟨v, c', h1, h2, h3, h4⟩ := appR_sound (P := P) (ty := o.type) ht hxt he hz hxd hH (ev_rel hH hr s) (ev_rel hH hr x) hb
    refine ⟨v, c', H', r, .inl ?_, hk, h2, h3, h4, .inr (by simp [ho, hc, readOp])⟩
    simp [execOp, ho, resolve, hc, invoke, builtin, hargs', h1]
  split at h
  · rename_i e n b e' s x h1 h2 h3
    obtain ⟨t, ht, h1⟩ := Option.bind_eq_some_iff.1 h1
    obtain ⟨xt, hxt, h2⟩ := Option.bind_eq_some_iff.1 h2
    split at h
    · rename_i hz
      obtain ⟨z, hz⟩ := Option.isSome_iff_exists.1 hz
      exact key t xt s x e n b z ht hxt h3 h1 hz (.inl ⟨e', h2⟩) h
    · exact h.elim
  · rename_i e n b s x h1 h2 h3
    obtain ⟨t, ht, h1⟩ := Option.bind_eq_some_iff.1 h1
    obtain ⟨xt, hxt, h2⟩ := Option.bind_eq_some_iff.1 h2
    split at h
    · rename_i hz
      obtain ⟨z, hz⟩ := Option.isSome_iff_exists.1 hz
      exact key t xt s x e n b z ht hxt h3 h1 hz (.inr h2) h
    · exact h.elim
  · exact h.elim
end
end Go.Sc
