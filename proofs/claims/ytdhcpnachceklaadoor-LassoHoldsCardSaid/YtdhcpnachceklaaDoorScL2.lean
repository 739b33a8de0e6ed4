/-
  A REGION WHOSE ORDER IS OPEN DOES WHAT ITS NODES SAY: the theorem.
-/
import Derived.Test.YtdhcpnachceklaaDoorScL
namespace Go.Sc
open Go
set_option linter.unusedVariables false

section
variable {E : Env} {P : Program} {ops : Array Oper}

def Closed (ops : Array Oper) (b : Array Bool) : Prop := ∀ (i : Nat) (o : Oper), ops[i]? = some o → b.getD i false = true → ∀ e ∈ o.after, Region.binds .any e = true → b.getD e.on false = true

theorem mem_ready {b : Array Bool} {i : Nat} : i ∈ Region.ready .any ops b ↔ ∃ o, ops[i]? = some o ∧ b.getD i true = false ∧ ∀ e ∈ o.after, Region.binds .any e = true → b.getD e.on false = true := by
  unfold Region.ready
  simp only [List.mem_filter, List.mem_range, Bool.and_eq_true, Bool.not_eq_true']
  constructor
  · rintro ⟨hi, hb, ha⟩
    refine ⟨ops[i], by simp [hi], hb, fun e he hbd => ?_⟩
    simp [hi] at ha
    obtain ⟨k, hk, rfl⟩ := Array.mem_iff_getElem.1 he
    have := ha k hk
    simpa [hbd] using this
  · rintro ⟨o, ho, hb, ha⟩
    have hi := (Array.getElem?_eq_some_iff.1 ho).1
    refine ⟨hi, hb, ?_⟩
    have hoi : ops[i] = o := (Array.getElem?_eq_some_iff.1 ho).2
    simp [hi, hoi]
    intro k hk
    have := ha o.after[k] (Array.getElem_mem hk)
    cases hbd : Region.binds .any o.after[k] with
    | false => simp
    | true => simpa [Array.getD_eq_getD_getElem?] using this hbd

theorem waits_iff {y : Oper} {i : Nat} : waits y i = true ↔ ∃ e ∈ y.after, Region.binds .any e = true ∧ e.on = i := by
  unfold waits
  rw [Array.any_eq_true']
  constructor
  · rintro ⟨e, he, h⟩; simp at h; exact ⟨e, he, h.1, h.2⟩
  · rintro ⟨e, he, h1, h2⟩; exact ⟨e, he, by simp [h1, h2]⟩

structure Pairs (ops : Array Oper) : Prop where
  low : ∀ (i : Nat) (x : Oper), ops[i]? = some x → ∀ e ∈ x.after, Region.binds .any e = true → e.on < i
  look : ∀ (i : Nat) (x : Oper), ops[i]? = some x → lookOp x.op = true → ∃ d, x.dst = some d ∧ d ∉ x.looksAt ops ∧ ∀ (j : Nat) (y : Oper), j ≠ i → ops[j]? = some y → y.dst ≠ some d ∧ (d ∈ y.looksAt ops → waits y i = true)
  other : ∀ (i : Nat) (x : Oper), ops[i]? = some x → lookOp x.op = false → ∀ d, x.dst = some d → ∀ (j : Nat) (y : Oper), j ≠ i → ops[j]? = some y → lookOp y.op = true → d ∈ y.looksAt ops → waits y i = true ∨ waits x j = true

theorem pairs_of (h : pairsOk ops = true) : Pairs ops := by
  have key : ∀ (i : Nat) (x : Oper), ops[i]? = some x → (x.after.all fun e => !Region.binds .any e || decide (e.on < i)) = true ∧
      (if lookOp x.op then (match x.dst with
          | none => false
          | some d => !(x.looksAt ops).contains d && (List.range ops.size).all fun j => i == j || match ops[j]? with
            | none => true
            | some y => y.dst != some d && (!(y.looksAt ops).contains d || waits y i))
        else (match x.dst with
          | none => true
          | some d => (List.range ops.size).all fun j => i == j || match ops[j]? with
            | none => true
            | some y => !lookOp y.op || !(y.looksAt ops).contains d || waits y i || waits x j)) = true := by
    intro i x hx
    have hi := (Array.getElem?_eq_some_iff.1 hx).1
    have := List.all_eq_true.1 h i (List.mem_range.2 hi)
    simp only [hx, Bool.and_eq_true] at this
    exact this
  refine ⟨?_, ?_, ?_⟩
  · intro i x hx e he hb
    have := Array.all_eq_true_iff_forall_mem.1 (key i x hx).1 e he
    simpa [hb] using this
  · intro i x hx hl
    have h2 := (key i x hx).2
    rw [if_pos hl] at h2
    cases hd : x.dst with
    | none => simp [hd] at h2
    | some d =>
      simp only [hd, Bool.and_eq_true] at h2
      refine ⟨d, rfl, by simpa using h2.1, fun j y hne hy => ?_⟩
      have hj := (Array.getElem?_eq_some_iff.1 hy).1
      have := List.all_eq_true.1 h2.2 j (List.mem_range.2 hj)
      simp only [hy, Bool.or_eq_true, beq_iff_eq, Bool.and_eq_true] at this
      rcases this with h3 | ⟨h3, h4⟩
      · exact absurd h3.symm hne
      · refine ⟨by simpa using h3, fun hmem => ?_⟩
        rcases h4 with h4 | h4
        · simp [hmem] at h4
        · exact h4
  · intro i x hx hl d hd j y hne hy hly hmem
    have h2 := (key i x hx).2
    rw [if_neg (by simp [hl])] at h2
    simp only [hd] at h2
    have hj := (Array.getElem?_eq_some_iff.1 hy).1
    have := List.all_eq_true.1 h2 j (List.mem_range.2 hj)
    simp only [hy, Bool.or_eq_true, beq_iff_eq] at this
    rcases this with h3 | ((h3 | h3) | h3) | h3
    · exact absurd h3.symm hne
    · simp [hly] at h3
    · simp [hmem] at h3
    · exact .inl h3
    · exact .inr h3

theorem anc_closed {b : Array Bool} (hc : Closed ops b) : ∀ (f i : Nat) (o : Oper), ops[i]? = some o → (∀ e ∈ o.after, Region.binds .any e = true → b.getD e.on false = true) → ∀ j ∈ anc ops f i, b.getD j false = true
  | 0, i, o, _, _, j, hj => by simp [anc] at hj
  | f + 1, i, o, ho, hr, j, hj => by
    simp only [anc, ho, List.mem_flatMap, List.mem_filter, List.mem_cons] at hj
    obtain ⟨e, ⟨he, hb⟩, hj⟩ := hj
    have hon := hr e (by simpa using he) hb
    rcases hj with rfl | hj
    · exact hon
    · cases hx : ops[e.on]? with
      | none =>
        cases f with
        | zero => simp [anc] at hj
        | succ f => simp [anc, hx] at hj
      | some y => exact anc_closed hc f e.on y hx (hc e.on y hx hon) j hj

theorem getD_setB {b : Array Bool} {i j : Nat} {d : Bool} (hi : i < b.size) : (b.setIfInBounds i true).getD j d = if j = i then true else b.getD j d := by
  simp only [Array.getD_eq_getD_getElem?, Array.getElem?_setIfInBounds]
  by_cases h : i = j
  · subst h; simp [hi]
  · simp [h, Ne.symm h]

theorem Closed.set {b : Array Bool} (h : Closed ops b) {i : Nat} (hs : b.size = ops.size) (hr : i ∈ Region.ready .any ops b) : Closed ops (b.setIfInBounds i true) := by
  obtain ⟨o, ho, hb, ha⟩ := mem_ready.1 hr
  have hi : i < b.size := by rw [hs]; exact (Array.getElem?_eq_some_iff.1 ho).1
  intro j y hy hj e he hbd
  rw [getD_setB hi]
  split
  · rfl
  · rw [getD_setB hi] at hj
    split at hj
    · rename_i e1; subst e1
      rw [ho] at hy; injection hy with hy; subst hy
      exact ha e he hbd
    · exact h j y hy hj e he hbd

def cntF : List Bool → Nat
  | [] => 0
  | true :: l => cntF l
  | false :: l => cntF l + 1
theorem cntF_set : ∀ (l : List Bool) (i : Nat), l[i]? = some false → cntF (l.set i true) + 1 = cntF l
  | [], i, h => by simp at h
  | b :: l, 0, h => by simp at h; subst h; simp [cntF]
  | b :: l, i + 1, h => by
    have := cntF_set l i (by simpa using h)
    cases b <;> simp [cntF] <;> omega
theorem cntF_zero : ∀ (l : List Bool), cntF l = 0 → ∀ (i : Nat) (b : Bool), l[i]? = some b → b = true
  | [], _, i, b, h => by simp at h
  | false :: l, h, _, _, _ => by simp [cntF] at h
  | true :: l, h, 0, b, hb => by simpa using hb.symm
  | true :: l, h, i + 1, b, hb => cntF_zero l h i b (by simpa using hb)
theorem cntF_replicate : ∀ n, cntF (List.replicate n false) = n
  | 0 => rfl
  | n + 1 => by simp [List.replicate_succ, cntF, cntF_replicate n]

theorem set_same {c : Cx} {ts : List AV} {vs : List Value} (h : LRel E c ts vs) {d : Nat} {v : Value} (hv : VRel E c (ts.getD d undefA) v) : LRel E c ts (vs.set d v) := by
  by_cases hd : d < ts.length
  · have := h.set d (x := ts.getD d undefA) hv
    have e : ts.set d (ts.getD d undefA) = ts := by
      simp only [List.getD, List.getElem?_eq_getElem hd, Option.getD_some]
      exact List.set_getElem_self hd
    rwa [e] at this
  · rw [List.set_eq_of_length_le (by rw [← h.length]; omega)]; exact h

structure DInv (E : Env) (P : Program) (ops : Array Oper) (c0 : Cx) (ts0 : List AV) (listed done : Array Bool) (ts : List AV) (H : AH) (c : Cx) (a ac : Act) : Prop where
  szl : listed.size = ops.size
  szd : done.size = ops.size
  sub : ∀ i, listed.getD i false = true → done.getD i false = true
  cll : Closed ops listed
  cld : Closed ops done
  heap : HRel E c H
  tmps : LRel E c ts ac.tmps.toList
  da : a.defers = []
  asz : a.tmps.size = ac.tmps.size
  same : ∀ t, (∀ (i : Nat) (o : Oper), ops[i]? = some o → done.getD i false = true → listed.getD i false = false → o.dst ≠ some t) → a.tmps[t]? = ac.tmps[t]?
  pend : ∀ (i : Nat) (o : Oper), ops[i]? = some o → done.getD i false = true → listed.getD i false = false → lookOp o.op = true ∧ ∃ d, o.dst = some d ∧ Told E P ops o ts H (ts.getD d undefA)
  later : Later c0 c
  agree : Agree (opWrites ops) ts0 ts

section
variable {c0 : Cx} {ts0 : List AV} {listed done : Array Bool} {ts : List AV} {H : AH} {c : Cx} {a ac : Act}

theorem getD_ft {b : Array Bool} {i : Nat} (hi : i < b.size) (d d' : Bool) : b.getD i d = b.getD i d' := by
  simp [Array.getD_eq_getD_getElem?, hi]

/-- what a ready operation looks at is as it should be -/
theorem DInv.alike (I : DInv E P ops c0 ts0 listed done ts H c a ac) (hp : Pairs ops) {i : Nat} {o : Oper} (ho : ops[i]? = some o) (hr : i ∈ Region.ready .any ops listed) : ∀ t ∈ o.looksAt ops, a.tmps[t]? = ac.tmps[t]? := by
  intro t ht
  refine I.same t fun j y hy hdj hlj hdst => ?_
  obtain ⟨hlk, _⟩ := I.pend j y hy hdj hlj
  obtain ⟨d, hd, hself, hother⟩ := hp.look j y hy hlk
  rw [hd] at hdst; injection hdst with hdst; subst hdst
  by_cases hij : i = j
  · subst hij
    rw [ho] at hy; injection hy with hy; subst hy
    exact hself ht
  · obtain ⟨_, hw⟩ := hother i o hij ho
    obtain ⟨e, he, hb, rfl⟩ := waits_iff.1 (hw ht)
    obtain ⟨o', ho', _, ha⟩ := mem_ready.1 hr
    rw [ho] at ho'; injection ho' with ho'; subst ho'
    rw [ha e he hb] at hlj; cases hlj

theorem actPut_get {a : Act} {d t : Nat} {v : Value} (h : t ≠ d) : (a.put (some d) v).tmps[t]? = a.tmps[t]? := by
  simp [Act.put, Ne.symm h]

/-- the schedule comes to what has been done ahead -/
theorem DInv.list (I : DInv E P ops c0 ts0 listed done ts H c a ac) (hp : Pairs ops) {i : Nat} {o : Oper} (ho : ops[i]? = some o) (hr : i ∈ Region.ready .any ops listed) (hdone : done.getD i false = true) {d : Nat} (hd : o.dst = some d) {v : Value}
    (hv : VRel E c (ts.getD d undefA) v) : DInv E P ops c0 ts0 (listed.setIfInBounds i true) done ts H c (a.put o.dst v) (ac.put o.dst v) := by
  have hi : i < listed.size := by rw [I.szl]; exact (Array.getElem?_eq_some_iff.1 ho).1
  rw [hd]
  refine ⟨by simp [I.szl], I.szd, ?_, I.cll.set I.szl hr, I.cld, I.heap, ?_, put_defers.trans I.da, by simp [Act.put, I.asz], ?_, ?_, I.later, I.agree⟩
  · intro j hj
    rw [getD_setB hi] at hj
    split at hj
    · rename_i e; subst e; exact hdone
    · exact I.sub j hj
  · simpa [Act.put] using set_same I.tmps hv
  · intro t ht
    by_cases htd : t = d
    · subst htd
      simp [Act.put, Array.getElem?_setIfInBounds, I.asz]
    · rw [actPut_get htd, actPut_get htd]
      refine I.same t fun j y hy h1 h2 => ?_
      by_cases hij : j = i
      · subst hij
        rw [ho] at hy; injection hy with hy; subst hy
        rw [hd]; simpa using Ne.symm htd
      · exact ht j y hy h1 (by rw [getD_setB hi, if_neg hij]; exact h2)
  · intro j y hy h1 h2
    rw [getD_setB hi] at h2
    split at h2
    · cases h2
    · exact I.pend j y hy h1 h2

/-- one that only looks is done ahead -/
theorem DInv.ahead (I : DInv E P ops c0 ts0 listed done ts H c a ac) (hp : Pairs ops) (hlen : ∀ (i : Nat) (o : Oper) d, ops[i]? = some o → o.dst = some d → d < ts0.length) {i : Nat} {o : Oper} (ho : ops[i]? = some o) (hr : i ∈ Region.ready .any ops done)
    (hl : lookOp o.op = true) {x : AV} (hx : Told E P ops o ts H x) : ∃ ac', DInv E P ops c0 ts0 listed (done.setIfInBounds i true) (putT ts o.dst x) H c a ac' := by
  obtain ⟨d, hd, hself, hother⟩ := hp.look i o ho hl
  have hi : i < done.size := by rw [I.szd]; exact (Array.getElem?_eq_some_iff.1 ho).1
  obtain ⟨o', ho', hnd, hready⟩ := mem_ready.1 hr
  rw [ho] at ho'; injection ho' with ho'; subst ho'
  have hnd' : done.getD i false = false := by rw [getD_ft hi false true]; exact hnd
  have hval : ∃ u, VRel E c x u := by
    unfold Told opG at hx
    have hone : ∀ {K : Kt}, (∀ y H', K y H' → y = x) → opW E P o ts H K → ∃ u, VRel E c x u := by
      intro K hK h
      obtain ⟨v, c', H', y, _, hk, _, h2, _, h4⟩ := does_all (by cases hop : o.op <;> simp_all [plainOp, lookOp, readOp]; rename_i cl; cases hc : cl.callee <;> simp_all) h I.heap I.tmps
      rcases h4 with ⟨rfl, rfl⟩ | h4
      · exact ⟨v, hK y _ hk ▸ h2⟩
      · cases hop : o.op <;> simp_all [lookOp]
    cases hg : o.guard with
    | none => simp only [hg] at hx; exact hone (fun y H' h => h.1) hx
    | some p =>
      obtain ⟨j, want⟩ := p
      simp only [hg] at hx
      split at hx
      · obtain ⟨hx⟩ := hx
        rcases hx with ⟨b, _, hy, hn⟩ | ⟨_, hk⟩
        · by_cases hw : b = want
          · exact hone (fun y H' h => h.1) (hy hw)
          · exact ⟨undef, by rw [← (hn hw).1]; simp [undefA, undef, VRel]⟩
        · exact ⟨undef, by rw [← hk.1]; simp [undefA, undef, VRel]⟩
      · exact hx.elim
  obtain ⟨u, hu⟩ := hval
  have hdl : d < ts.length := by rw [I.agree.1]; exact hlen i o d ho hd
  rw [hd]
  refine ⟨ac.put (some d) u, I.szl, by simp [I.szd], ?_, I.cll, I.cld.set I.szd hr, I.heap, put_rel I.tmps hu (some d), I.da, by simp [Act.put, I.asz], ?_, ?_, I.later, ?_⟩
  · intro j hj
    rw [getD_setB hi]
    split
    · rfl
    · exact I.sub j hj
  · intro t ht
    have hnl : listed.getD i false = false := by
      cases hli : listed.getD i false with
      | false => rfl
      | true => rw [I.sub i hli] at hnd'; cases hnd'
    have htd : t ≠ d := by
      have := ht i o ho (by rw [getD_setB hi, if_pos rfl]) hnl
      rw [hd] at this
      intro e; exact this (by rw [e])
    rw [actPut_get htd]
    exact I.same t fun j y hy h1 h2 => ht j y hy (by rw [getD_setB hi]; split <;> first | rfl | exact h1) h2
  · intro j y hy h1 h2
    by_cases hij : j = i
    · subst hij
      rw [ho] at hy; injection hy with hy; subst hy
      refine ⟨hl, d, hd, ?_⟩
      have e : (putT ts (some d) x).getD d undefA = x := by simp [putT, List.getD, hdl]
      rw [e]
      refine hx.congr hl fun t ht => ?_
      have htd : d ≠ t := fun e => hself (e ▸ ht)
      simp [putT, List.getD, List.getElem?_set_ne htd]
    · rw [getD_setB hi, if_neg hij] at h1
      obtain ⟨k1, dj, k2, k3⟩ := I.pend j y hy h1 h2
      obtain ⟨h3, h4⟩ := hother j y hij hy
      have hdj : d ≠ dj := fun e => h3 (by rw [k2, e])
      refine ⟨k1, dj, k2, ?_⟩
      have e : (putT ts (some d) x).getD dj undefA = ts.getD dj undefA := by simp [putT, List.getD, List.getElem?_set_ne hdj]
      rw [e]
      refine k3.congr k1 fun t ht => ?_
      have htd : d ≠ t := by
        rintro rfl
        obtain ⟨e1, he1, hb1, h5⟩ := waits_iff.1 (h4 ht)
        have := I.cld j y hy h1 e1 he1 hb1
        rw [h5] at this
        rw [this] at hnd'; cases hnd'
      simp [putT, List.getD, List.getElem?_set_ne htd]
  · exact (I.agree.trans (Agree.put ts (some d) x)).mono fun t ht => by
      rcases List.mem_append.1 ht with ht | ht
      · exact ht
      · rw [← hd] at ht
        exact dst_writes (Array.mem_toList_iff.2 (Array.mem_of_getElem? ho)) t ht

/-- one that does more: in both -/
theorem DInv.both (I : DInv E P ops c0 ts0 listed done ts H c a ac) (hp : Pairs ops) {i : Nat} {o : Oper} (ho : ops[i]? = some o) (hr : i ∈ Region.ready .any ops listed) (hr' : i ∈ Region.ready .any ops done)
    (hl : lookOp o.op = false) {x : AV} {v : Value} {c' : Cx} {H' : AH} (hH : HRel E c' H') (hv : VRel E c' x v) (hL : Later c c')
    (hag : ∀ j ∈ again ops done i, ∀ y d, ops[j]? = some y → y.dst = some d → Told E P ops y (putT ts o.dst x) H' ((putT ts o.dst x).getD d undefA)) :
    DInv E P ops c0 ts0 (listed.setIfInBounds i true) (done.setIfInBounds i true) (putT ts o.dst x) H' c' (a.put o.dst v) (ac.put o.dst v) := by
  have hi : i < listed.size := by rw [I.szl]; exact (Array.getElem?_eq_some_iff.1 ho).1
  have hi' : i < done.size := by rw [I.szd]; exact (Array.getElem?_eq_some_iff.1 ho).1
  obtain ⟨o1, ho1, hnl, hreadyl⟩ := mem_ready.1 hr
  obtain ⟨o2, ho2, hnd, hreadyd⟩ := mem_ready.1 hr'
  rw [ho] at ho1; injection ho1 with ho1; subst ho1
  rw [ho] at ho2; injection ho2 with ho2; subst ho2
  have hnd' : done.getD i false = false := by rw [getD_ft hi' false true]; exact hnd
  refine ⟨by simp [I.szl], by simp [I.szd], ?_, I.cll.set I.szl hr, I.cld.set I.szd hr', hH, put_rel (I.tmps.le hL.le) hv _, put_defers.trans I.da, ?_, ?_, ?_, I.later.trans hL, ?_⟩
  · intro j hj
    rw [getD_setB hi] at hj
    rw [getD_setB hi']
    split
    · rfl
    · rename_i hne; rw [if_neg hne] at hj; exact I.sub j hj
  · cases hd : o.dst <;> simp [Act.put, I.asz]
  · intro t ht
    have old : a.tmps[t]? = ac.tmps[t]? ∨ o.dst = some t := by
      by_cases hdt : o.dst = some t
      · exact .inr hdt
      · refine .inl (I.same t fun j y hy h1 h2 => ?_)
        have hij : j ≠ i := by rintro rfl; rw [h1] at hnd'; cases hnd'
        exact ht j y hy (by rw [getD_setB hi', if_neg hij]; exact h1) (by rw [getD_setB hi, if_neg hij]; exact h2)
    cases hd : o.dst with
    | none => rcases old with h | h
              · exact h
              · rw [hd] at h; cases h
    | some d =>
      by_cases htd : t = d
      · subst htd; simp [Act.put, Array.getElem?_setIfInBounds, I.asz]
      · rw [actPut_get htd, actPut_get htd]
        rcases old with h | h
        · exact h
        · rw [hd] at h; injection h with h; exact absurd h.symm htd
  · intro j y hy h1 h2
    have hij : j ≠ i := by
      rintro rfl
      rw [getD_setB hi, if_pos rfl] at h2; cases h2
    rw [getD_setB hi', if_neg hij] at h1
    rw [getD_setB hi, if_neg hij] at h2
    obtain ⟨k1, dj, k2, k3⟩ := I.pend j y hy h1 h2
    refine ⟨k1, dj, k2, ?_⟩
    by_cases hh : heapOp y.op = true
    · refine hag j ?_ y dj hy k2
      unfold again
      simp only [List.mem_filter, List.mem_range, Bool.and_eq_true, Bool.not_eq_true']
      refine ⟨(Array.getElem?_eq_some_iff.1 hy).1, ⟨h1, by simp [hy, k1, hh]⟩, ?_⟩
      cases hanc : (anc ops ops.size i).contains j with
      | false => rfl
      | true =>
        have := anc_closed I.cll ops.size i o ho hreadyl j (by simpa using hanc)
        rw [this] at h2; cases h2
    · have hh' : heapOp y.op = false := by simpa using hh
      have hdd : ∀ d, o.dst = some d → d ≠ dj := by
        intro d hd e
        obtain ⟨d', hd', _, hoth⟩ := hp.look j y hy k1
        rw [k2] at hd'; injection hd' with hd'
        exact (hoth i o (Ne.symm hij) ho).1 (by rw [hd, e, hd'])
      have e : (putT ts o.dst x).getD dj undefA = ts.getD dj undefA := by
        cases hd : o.dst with
        | none => rfl
        | some d => simp [putT, List.getD, List.getElem?_set_ne (hdd d hd)]
      rw [e]
      refine (k3.free (H2 := H') k1 hh').congr k1 fun t ht => ?_
      cases hd : o.dst with
      | none => rfl
      | some d =>
        have htd : d ≠ t := by
          rintro rfl
          rcases hp.other i o ho hl d hd j y hij hy k1 ht with hw | hw
          · obtain ⟨e1, he1, hb1, h5⟩ := waits_iff.1 hw
            have := I.cld j y hy h1 e1 he1 hb1
            rw [h5, hnd'] at this; cases this
          · obtain ⟨e1, he1, hb1, h5⟩ := waits_iff.1 hw
            have := hreadyl e1 he1 hb1
            rw [h5, h2] at this; cases this
        simp [putT, List.getD, List.getElem?_set_ne htd]
  · exact (I.agree.trans (Agree.put ts o.dst x)).mono fun t ht => by
      rcases List.mem_append.1 ht with ht | ht
      · exact ht
      · exact dst_writes (Array.mem_toList_iff.2 (Array.mem_of_getElem? ho)) t ht

theorem firstRead_some : ∀ (l : List Nat) (i : Nat), firstRead ops l = some i → i ∈ l ∧ ∃ o, ops[i]? = some o ∧ lookOp o.op = true
  | [], i, h => by simp [firstRead] at h
  | j :: l, i, h => by
    unfold firstRead at h
    split at h
    · rename_i o ho
      split at h
      · rename_i hl; injection h with h; subst h; exact ⟨List.mem_cons_self .., o, ho, hl⟩
      · have := firstRead_some l i h; exact ⟨List.mem_cons_of_mem _ this.1, this.2⟩
    · have := firstRead_some l i h; exact ⟨List.mem_cons_of_mem _ this.1, this.2⟩
theorem firstRead_none : ∀ (l : List Nat), firstRead ops l = none → ∀ i ∈ l, ∀ o, ops[i]? = some o → lookOp o.op = false
  | [], h, i, hi => by simp at hi
  | j :: l, h, i, hi => by
    intro o ho
    unfold firstRead at h
    split at h
    · rename_i o' ho'
      split at h
      · cases h
      · rename_i hl
        rcases List.mem_cons.1 hi with rfl | hi
        · rw [ho] at ho'; injection ho' with ho'; subst ho'; simpa using hl
        · exact firstRead_none l h i hi o ho
    · rename_i hn
      rcases List.mem_cons.1 hi with rfl | hi
      · rw [ho] at hn; cases hn
      · exact firstRead_none l h i hi o ho

theorem allW_mem : ∀ (l : List Prop), allW l → ∀ p ∈ l, p
  | [], h, p, hp => by simp at hp
  | [q], h, p, hp => by rw [List.mem_singleton] at hp; subst hp; exact h
  | q :: r :: l, h, p, hp => by
    simp only [allW] at h
    rcases List.mem_cons.1 hp with rfl | hp
    · exact h.1
    · exact allW_mem (r :: l) h.2 p hp

theorem again_all {ts : List AV} {H : AH} : ∀ (l : List Nat) (p : Prop), againW E P ops ts H l p → p ∧ ∀ j ∈ l, ∀ y d, ops[j]? = some y → y.dst = some d → Told E P ops y ts H (ts.getD d undefA)
  | [], p, h => ⟨h, fun j hj => by simp at hj⟩
  | i :: l, p, h => by
    unfold againW at h
    split at h
    · rename_i o ho
      split at h
      · rename_i d hd
        obtain ⟨h1, h2⟩ := again_all l p h.2
        refine ⟨h1, fun j hj y d' hy hd' => ?_⟩
        rcases List.mem_cons.1 hj with rfl | hj
        · rw [ho] at hy; injection hy with hy; subst hy
          rw [hd] at hd'; injection hd' with hd'; subst hd'
          exact h.1
        · exact h2 j hj y d' hy hd'
      · rename_i hd
        obtain ⟨h1, h2⟩ := again_all l p h
        refine ⟨h1, fun j hj y d' hy hd' => ?_⟩
        rcases List.mem_cons.1 hj with rfl | hj
        · rw [ho] at hy; injection hy with hy; subst hy
          rw [hd] at hd'; cases hd'
        · exact h2 j hj y d' hy hd'
    · rename_i ho
      obtain ⟨h1, h2⟩ := again_all l p h
      refine ⟨h1, fun j hj y d' hy hd' => ?_⟩
      rcases List.mem_cons.1 hj with rfl | hj
      · rw [ho] at hy; cases hy
      · exact h2 j hj y d' hy hd'

/-- ahead as far as it goes -/
theorem norm {c0 : Cx} {ts0 : List AV} {listed : Array Bool} {K : List AV → AH → Prop} {c : Cx} {a : Act} (hp : Pairs ops) (hlen : ∀ (i : Nat) (o : Oper) d, ops[i]? = some o → o.dst = some d → d < ts0.length) : ∀ (f : Nat) (done : Array Bool) (ts : List AV) (H : AH) (ac : Act),
    DInv E P ops c0 ts0 listed done ts H c a ac → drawW E P ops f done ts H K →
    ∃ done' ts' H' ac' f2, DInv E P ops c0 ts0 listed done' ts' H' c a ac' ∧ drawW E P ops f2 done' ts' H' K ∧
      ((Region.ready .any ops done' = [] ∧ K ts' H') ∨ (Region.ready .any ops done' ≠ [] ∧ ∃ f', (∀ i ∈ Region.ready .any ops done', ∀ o, ops[i]? = some o → lookOp o.op = false) ∧
        ∀ i ∈ Region.ready .any ops done', ∀ o, ops[i]? = some o → opG E P ops o ts' H' fun x H2 => againW E P ops (putT ts' o.dst x) H2 (again ops done' i) (drawW E P ops f' (done'.setIfInBounds i true) (putT ts' o.dst x) H2 K)))
  | 0, done, ts, H, ac, I, h => by
    have h0 := h
    simp only [drawW] at h
    split at h
    · rename_i hr; exact ⟨done, ts, H, ac, 0, I, h0, .inl ⟨hr, h⟩⟩
    · exact h.elim
  | f + 1, done, ts, H, ac, I, h => by
    have h0 := h
    simp only [drawW] at h
    split at h
    · rename_i i hi
      obtain ⟨hmem, o, ho, hl⟩ := firstRead_some _ i hi
      simp only [ho] at h
      obtain ⟨x, hk, htold⟩ := told_of hl h
      obtain ⟨ac', I'⟩ := I.ahead hp hlen ho hmem hl htold
      exact norm hp hlen f _ _ _ _ I' hk
    · rename_i hn
      split at h
      · rename_i hr; exact ⟨done, ts, H, ac, f + 1, I, h0, .inl ⟨hr, h⟩⟩
      · rename_i l hne
        refine ⟨done, ts, H, ac, f + 1, I, h0, .inr ⟨fun e => hne e, f, firstRead_none _ hn, fun i hi o ho => ?_⟩⟩
        have := allW_mem _ h _ (List.mem_map.2 ⟨i, hi, rfl⟩)
        simpa only [ho] using this

/-- where nothing is ready all has been done -/
theorem all_listed (hp : Pairs ops) {b : Array Bool} (hs : b.size = ops.size) (hr : Region.ready .any ops b = []) : ∀ i, i < ops.size → b.getD i false = true := by
  intro i
  induction i using Nat.strongRecOn with
  | _ i ih =>
    intro hi
    cases hb : b.getD i false with
    | true => rfl
    | false =>
      have : i ∈ Region.ready .any ops b := by
        refine mem_ready.2 ⟨ops[i], by simp [hi], by rw [getD_ft (by omega) true false]; exact hb, fun e he hbd => ?_⟩
        have hlt := hp.low i ops[i] (by simp [hi]) e he hbd
        exact ih e.on hlt (by omega)
      rw [hr] at this; cases this

theorem draw_any {c0 : Cx} {ts0 : List AV} {K : List AV → AH → Prop} {Q : Exit → Act → World → Prop} (hp : Pairs ops) (hsel : ∀ (j : Nat) (o : Oper) cs b, ops[j]? = some o → o.op ≠ .select cs b) (hlen : ∀ (i : Nat) (o : Oper) d, ops[i]? = some o → o.dst = some d → d < ts0.length)
    (hQ : ∀ ts' H' c' a', K ts' H' → HRel E c' H' → LRel E c' ts' a'.tmps.toList → a'.defers = [] → Later c0 c' → Agree (opWrites ops) ts0 ts' → Q .normal a' c'.w) :
    ∀ (n f : Nat) (listed done : Array Bool) (ts : List AV) (H : AH) (c : Cx) (a ac : Act), cntF listed.toList ≤ n → DInv E P ops c0 ts0 listed done ts H c a ac → drawW E P ops f done ts H K → wpAny P .any ops Q n listed a c.w := by
  have fin : ∀ (f : Nat) (listed done : Array Bool) (ts : List AV) (H : AH) (c : Cx) (a ac : Act), DInv E P ops c0 ts0 listed done ts H c a ac → drawW E P ops f done ts H K → Region.ready .any ops listed = [] → Q .normal a c.w := by
    intro f listed done ts H c a ac I h hr
    obtain ⟨done', ts', H', ac', f2, I', hdraw, hcase⟩ := norm hp hlen f done ts H ac I h
    have hall := all_listed hp I'.szl hr
    have hsame : a.tmps = ac'.tmps := by
      apply Array.ext_getElem?
      intro t
      refine I'.same t fun i o ho h1 h2 => ?_
      rw [hall i (Array.getElem?_eq_some_iff.1 ho).1] at h2; cases h2
    have hrd : Region.ready .any ops done' = [] := by
      cases hx : Region.ready .any ops done' with
      | nil => rfl
      | cons i l =>
        exfalso
        obtain ⟨o, ho, h1, _⟩ := mem_ready.1 (by rw [hx]; exact List.mem_cons_self .. : i ∈ Region.ready .any ops done')
        have hi := (Array.getElem?_eq_some_iff.1 ho).1
        have := I'.sub i (hall i hi)
        rw [getD_ft (by rw [I'.szd]; exact hi) false true, h1] at this; cases this
    rcases hcase with ⟨_, hk⟩ | ⟨hne, _⟩
    · exact hQ ts' H' c a hk I'.heap (by rw [hsame]; exact I'.tmps) I'.da I'.later I'.agree
    · exact absurd hrd hne
  intro n
  induction n with
  | zero =>
    intro f listed done ts H c a ac hn I h
    have hr : Region.ready .any ops listed = [] := by
      cases hx : Region.ready .any ops listed with
      | nil => rfl
      | cons i l =>
        exfalso
        obtain ⟨o, ho, h1, _⟩ := mem_ready.1 (by rw [hx]; exact List.mem_cons_self .. : i ∈ Region.ready .any ops listed)
        have hi : i < listed.size := by rw [I.szl]; exact (Array.getElem?_eq_some_iff.1 ho).1
        have hget : listed.toList[i]? = some false := by
          simp [Array.getD_eq_getD_getElem?, hi] at h1
          simp [hi, h1]
        have := cntF_zero listed.toList (by omega) i false hget
        cases this
    exact ⟨hr, fin f listed done ts H c a ac I h hr⟩
  | succ n ih =>
    intro f listed done ts H c a ac hn I h
    refine ⟨fun hr => fin f listed done ts H c a ac I h hr, fun i hi => ?_⟩
    obtain ⟨done', ts', H', ac', f2, I', hdraw, hcase⟩ := norm hp hlen f done ts H ac I h
    obtain ⟨o, ho, hnl, hrl⟩ := mem_ready.1 hi
    have hil : i < listed.size := by rw [I.szl]; exact (Array.getElem?_eq_some_iff.1 ho).1
    have hcnt : cntF (listed.setIfInBounds i true).toList ≤ n := by
      have hget : listed.toList[i]? = some false := by
        simp [Array.getD_eq_getD_getElem?, hil] at hnl
        simp [hil, hnl]
      have := cntF_set listed.toList i hget
      simp only [Array.toList_setIfInBounds]
      omega
    obtain ⟨hexec, hwant⟩ := run_alike (ops := ops) (a := a) (a' := ac') (fun cs b => hsel i o cs b ho) (I'.alike hp ho hi)
    unfold wpOp
    simp only [ho]
    -- out of what the operation comes to
    have close : ∀ {K' : Kt}, opG E P ops o ts' H' K' → (∀ v w', OpPost E c H' o K' v w' → wpAny P .any ops Q n (listed.setIfInBounds i true) (a.put o.dst v) w') →
        (if Region.wanted o (yielded ops a.tmps) then o.wp P a c.w (wpAny P .any ops Q n (listed.setIfInBounds i true)) Q ∨ (o.asks P a c.w ∧ LetsOut Q) else wpAny P .any ops Q n (listed.setIfInBounds i true) (a.put o.dst undef) c.w) := by
      intro K' hG hk
      obtain ⟨h1, h2⟩ := opG_run hG I'.heap I'.tmps
      rw [hwant]
      split
      · rename_i hw
        left
        unfold Oper.wp
        rw [hexec]
        exact h1 hw o a _ Q hk
      · rename_i hw
        exact hk undef c.w (h2 (by simpa using hw))
    by_cases hd : done'.getD i false = true
    · -- it was done ahead
      have hnl' : listed.getD i false = false := by rw [getD_ft hil false true]; exact hnl
      obtain ⟨hlk, d, hdst, htold⟩ := I'.pend i o ho hd hnl'
      refine close htold ?_
      rintro v w' ⟨x, c', H2, rfl, ⟨rfl, rfl⟩, h2, h3, h4, h5⟩
      rcases h5 with ⟨rfl, _⟩ | h5
      · have I2 := I'.list hp ho hi hd hdst h3
        exact ih f2 _ _ _ _ _ _ _ hcnt I2 hdraw
      · rw [hlk] at h5; cases h5
    · -- it is done now
      have hid : i < done'.size := by rw [I'.szd]; exact (Array.getElem?_eq_some_iff.1 ho).1
      have hrd : i ∈ Region.ready .any ops done' := by
        refine mem_ready.2 ⟨o, ho, ?_, fun e he hb => I'.sub e.on (hrl e he hb)⟩
        rw [getD_ft hid true false]; simpa using hd
      rcases hcase with ⟨hr0, _⟩ | ⟨_, f', hno, hop⟩
      · rw [hr0] at hrd; cases hrd
      · refine close (hop i hrd o ho) ?_
        rintro v w' ⟨x, c', H2, rfl, hk, h2, h3, h4, _⟩
        obtain ⟨hrest, hag⟩ := again_all _ _ hk
        exact ih f' _ _ _ _ _ _ _ hcnt (I'.both hp ho hi hrd (hno i hrd o ho) h2 h3 h4 hag) hrest

theorem region_draw_sound {id : Nat} {K : List AV → AH → Prop} {Q : Exit → Act → World → Prop} {ts : List AV} {H : AH} {c : Cx} {a : Act} (hok : drawOk P ops ts.length = true) (h : drawW E P ops ops.size (Array.replicate ops.size false) ts H K) (hH : HRel E c H)
    (hr : LRel E c ts a.tmps.toList) (hd : a.defers = [])
    (hQ : ∀ ts' H' c' a', K ts' H' → HRel E c' H' → LRel E c' ts' a'.tmps.toList → a'.defers = [] → Later c c' → Agree (opWrites ops) ts ts' → Q .normal a' c'.w) : (Code.region id ops true).wp P Q a c.w := by
  simp only [drawOk, Bool.and_eq_true] at hok
  obtain ⟨⟨⟨hm, hsel⟩, hp⟩, hall⟩ := hok
  obtain ⟨k1, k2⟩ := hH.heap_eq (w' := { c.w with drawn := c.w.drawn + 1 }) rfl rfl rfl rfl
  have hno : ∀ i, (Array.replicate ops.size false).getD i false = false := by
    intro i
    simp only [Array.getD_eq_getD_getElem?, Array.getElem?_replicate]
    split <;> rfl
  refine wp_region_any hm (draw_any (c0 := c) (ts0 := ts) (K := K) (pairs_of hp) (Region.noSelect_spec hsel) ?_ hQ ops.size ops.size (Array.replicate ops.size false) (Array.replicate ops.size false) ts H { c with w := { c.w with drawn := c.w.drawn + 1 } } a a ?_ ?_ h)
  · intro i o d ho hdst
    have := List.all_eq_true.1 hall o (Array.mem_toList_iff.2 (Array.mem_of_getElem? ho))
    simpa [hdst] using this
  · simp [cntF_replicate]
  · exact ⟨by simp, by simp, fun i h => h, fun i o ho hi => (by rw [hno] at hi; cases hi), fun i o ho hi => (by rw [hno] at hi; cases hi), k1, hr.le k2.le, hd, rfl, fun _ _ => rfl, fun i o ho hi => (by rw [hno] at hi; cases hi), k2, Agree.refl _ _⟩
end
end
end Go.Sc
