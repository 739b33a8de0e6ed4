/-
  A REGION WHOSE ORDER IS OPEN, OF STEPS THAT LEAVE MEMORY AS IT IS: one order is enough.
-/
import Derived.Test.YtdhcpnachceklaaDoorScL2
namespace Go.Sc
open Go

section
variable {E : Env} {P : Program} {ops : Array Oper}

theorem opW_congr {o : Oper} {ts ts' : List AV} {H : AH} {K : Kt} (h : ∀ x ∈ o.op.operands.toList, ev E ts x = ev E ts' x) : opW E P o ts H K = opW E P o ts' H K := by
  cases ho : o.op with
  | build t ps =>
    simp only [ho, Op.operands] at h
    have : partsB E P ts t ps.toList = partsB E P ts' t ps.toList := by
      unfold partsB
      have hp : ∀ p ∈ ps.toList, ev E ts p.2 = ev E ts' p.2 := fun p hp => h p.2 (by simpa using ⟨p.1, by simpa using hp⟩)
      simp only [partsP_congr _ hp]
    simp only [opW, ho, this]
  | buildSlice t n ps =>
    simp only [ho, Op.operands] at h
    have hp : ∀ p ∈ ps.toList, ev E ts p.2 = ev E ts' p.2 := fun p hp => h p.2 (by simpa using ⟨p.1, by simpa using hp⟩)
    simp only [opW, ho, partsP_congr _ hp]
  | makeFunc f fs cs =>
    simp only [ho, Op.operands] at h
    have h1 : fs.toList.map (ev E ts) = fs.toList.map (ev E ts') := List.map_congr_left fun x hx => h x (by simp at hx ⊢; exact .inl hx)
    have h2 : cs.toList.map (ev E ts) = cs.toList.map (ev E ts') := List.map_congr_left fun x hx => h x (by simp at hx ⊢; exact .inr hx)
    simp only [opW, ho, h1, h2]
  | slice t x lo hi m =>
    simp only [ho, Op.operands] at h
    have h0 := h x (by simp)
    have h1 : lo.map (ev E ts) = lo.map (ev E ts') := by cases lo <;> simp; exact h _ (by simp)
    have h2 : hi.map (ev E ts) = hi.map (ev E ts') := by cases hi <;> simp; exact h _ (by simp)
    simp only [opW, ho, h0, h1, h2]
  | call cl =>
    simp only [ho, Op.operands] at h
    have h1 : ∀ x ∈ cl.args.toList, ev E ts x = ev E ts' x := fun x hx => h x (by unfold Call.operands; simp at hx ⊢; exact .inr hx)
    have h2 : cl.args.toList.map (ev E ts) = cl.args.toList.map (ev E ts') := List.map_congr_left h1
    cases hc : cl.callee with
    | value x =>
      have h3 : ev E ts x = ev E ts' x := h x (by simp [Call.operands, hc])
      cases x <;> simp only [opW, ho, hc, h2] <;> simp only [h3]
    | invoke r m =>
      have h3 : ev E ts r = ev E ts' r := h r (by simp [Call.operands, hc])
      simp only [opW, ho, hc, h2, h3]
    | builtin b =>
      simp only [opW, ho, hc]
      clear h h2
      revert h1
      generalize (cl.argTypes[0]?).bind (elemB P) = z1
      generalize (cl.argTypes[0]?).bind P.underlying = z2
      generalize (cl.argTypes[1]?).bind P.underlying = z3
      generalize cl.args.toList = l
      intro h1
      rcases l with _ | ⟨x, _ | ⟨y, _ | ⟨z, l⟩⟩⟩
      · cases b <;> simp only
        all_goals first
          | rfl
          | (rcases z1 with _ | ⟨e, n, s⟩ <;> rcases z3 with _ | z3 <;> first | rfl | (cases z3 <;> rfl))
          | (rcases z2 with _ | z2 <;> first | rfl | (cases z2 <;> rfl))
      · have k1 := h1 x (by simp)
        cases b <;> simp only
        all_goals first
          | rfl
          | (rcases z1 with _ | ⟨e, n, s⟩ <;> rcases z3 with _ | z3 <;> first | rfl | (cases z3 <;> rfl))
          | (rcases z2 with _ | z2 <;> first | rfl | (cases z2 <;> first | rfl | simp only [k1]))
      · have k1 := h1 x (by simp)
        have k2 := h1 y (by simp)
        cases b <;> simp only
        all_goals first
          | rfl
          | (rcases z1 with _ | ⟨e, n, s⟩ <;> rcases z3 with _ | z3 <;> first | rfl | (cases z3 <;> first | rfl | simp only [k1, k2]))
          | (rcases z2 with _ | z2 <;> first | rfl | (cases z2 <;> rfl))
          | simp only [k1, k2]
      · cases b <;> simp only
        all_goals first
          | rfl
          | (rcases z1 with _ | ⟨e, n, s⟩ <;> rcases z3 with _ | z3 <;> first | rfl | (cases z3 <;> rfl))
          | (rcases z2 with _ | z2 <;> first | rfl | (cases z2 <;> rfl))
  | _ => simp only [ho, Op.operands] at h; simp_all [opW]

theorem opG_congr {o : Oper} {ts ts' : List AV} {H : AH} {K : Kt} (hs : ∀ t ∈ o.looksAt ops, ts.getD t undefA = ts'.getD t undefA) : opG E P ops o ts H K = opG E P ops o ts' H K := by
  have hr : ∀ K : Kt, opW E P o ts H K = opW E P o ts' H K := fun K => opW_congr (looks_ev (E := E) hs)
  unfold opG
  cases hg : o.guard with
  | none => simp only [hr]
  | some p =>
    obtain ⟨j, want⟩ := p
    simp only
    cases hd : (ops[j]?).bind (·.dst) with
    | none => rfl
    | some d => simp only [hs d (guard_looks hg hd), hr]

theorem Told.run {o : Oper} {ts : List AV} {H : AH} {x : AV} {K : Kt} (hl : lookOp o.op = true) (h : Told E P ops o ts H x) (hk : K x H) : opG E P ops o ts H K := by
  unfold Told opG at *
  cases hg : o.guard with
  | none =>
    simp only [hg] at h ⊢
    obtain ⟨y, hy, rfl, _⟩ := (opW_rd hl).1 h
    exact (opW_rd hl).2 ⟨y, hy, hk⟩
  | some p =>
    obtain ⟨j, want⟩ := p
    simp only [hg] at h ⊢
    cases hd : (ops[j]?).bind (·.dst) with
    | none => simp only [hd] at h
    | some d =>
      simp only [hd] at h ⊢
      obtain ⟨h⟩ := h
      refine ⟨h.imp ?_ ?_⟩
      · rintro ⟨b, hb, hy, hn⟩
        refine ⟨b, hb, fun hw => ?_, fun hw => (hn hw).1 ▸ hk⟩
        obtain ⟨y, hy', rfl, _⟩ := (opW_rd hl).1 (hy hw)
        exact (opW_rd hl).2 ⟨_, hy', hk⟩
      · rintro ⟨h1, h2, _⟩
        exact ⟨h1, h2 ▸ hk⟩

theorem rdA_bs {o : Oper} {ts : List AV} {bs : List Blk} {n m : Nat} : rdA E P o ts ⟨bs, n⟩ = rdA E P o ts ⟨bs, m⟩ := by
  cases ho : o.op with
  | load t x =>
    have h1 : ∀ a, load1 a ⟨bs, n⟩ = load1 a ⟨bs, m⟩ := fun a => by cases a <;> rfl
    have h2 : ∀ k a, loadN k a ⟨bs, n⟩ = loadN k a ⟨bs, m⟩ := fun k a => by cases a <;> rfl
    simp only [rdA, ho, h1, h2]
  | slice t x lo hi mx =>
    have h1 : ∀ k a l h, sliceA k a l h ⟨bs, n⟩ = sliceA k a l h ⟨bs, m⟩ := fun k a l h => by unfold sliceA; cases a <;> rfl
    simp only [rdA, ho, h1]
  | _ => simp only [rdA, ho]

theorem Told.bs {o : Oper} {ts : List AV} {bs : List Blk} {n m : Nat} {x : AV} (hl : lookOp o.op = true) (h : Told E P ops o ts ⟨bs, n⟩ x) : Told E P ops o ts ⟨bs, m⟩ x := by
  unfold Told opG at *
  have hr := rdA_bs (E := E) (P := P) (o := o) (ts := ts) (bs := bs) (n := n) (m := m)
  cases hg : o.guard with
  | none =>
    simp only [hg] at h ⊢
    obtain ⟨y, hy, hk⟩ := (opW_rd hl).1 h
    exact (opW_rd hl).2 ⟨y, by rw [← hr]; exact hy, hk.1, rfl⟩
  | some p =>
    obtain ⟨j, want⟩ := p
    simp only [hg] at h ⊢
    cases hd : (ops[j]?).bind (·.dst) with
    | none => simp only [hd] at h
    | some d =>
      simp only [hd] at h ⊢
      obtain ⟨h⟩ := h
      refine ⟨h.imp ?_ (fun h => ⟨h.1, h.2.1, rfl⟩)⟩
      rintro ⟨b, hb, hy, hn⟩
      refine ⟨b, hb, fun hw => ?_, fun hw => ⟨(hn hw).1, rfl⟩⟩
      obtain ⟨y, hy, hk⟩ := (opW_rd hl).1 (hy hw)
      exact (opW_rd hl).2 ⟨y, by rw [← hr]; exact hy, hk.1, rfl⟩

def Own (ops : Array Oper) : Prop := ∀ (i : Nat) (x : Oper), ops[i]? = some x → ∀ d, x.dst = some d → d ∉ x.looksAt ops ∧ ∀ (j : Nat) (y : Oper), j ≠ i → ops[j]? = some y → y.dst ≠ some d ∧ (d ∈ y.looksAt ops → waits y i = true)
theorem own_of (h : freeOk ops = true) : Own ops := by
  intro i x hx d hd
  have hi := (Array.getElem?_eq_some_iff.1 hx).1
  have := List.all_eq_true.1 h i (List.mem_range.2 hi)
  simp only [hx, hd, Bool.and_eq_true, Bool.not_eq_true'] at this
  refine ⟨fun hm => ?_, fun j y hj hy => ?_⟩
  · have h1 := this.1
    rw [List.contains_iff_mem.2 hm] at h1; cases h1
  · have hjs := (Array.getElem?_eq_some_iff.1 hy).1
    have h2 := List.all_eq_true.1 this.2 j (List.mem_range.2 hjs)
    have hne : (i == j) = false := by simpa using Ne.symm hj
    simp only [hne, hy, Bool.false_or, Bool.and_eq_true, bne_iff_ne, Bool.or_eq_true, Bool.not_eq_true'] at h2
    refine ⟨h2.1, fun hm => ?_⟩
    rcases h2.2 with h3 | h3
    · rw [List.contains_iff_mem.2 hm] at h3; cases h3
    · exact h3

/-- what an operation comes to, whenever it is done -/
def Fact (E : Env) (P : Program) (ops : Array Oper) (tsF : List AV) (bs : List Blk) (o : Oper) : Prop :=
  ∃ x, (∀ d, o.dst = some d → tsF[d]? = some x) ∧ (lookOp o.op = true → ∀ n, Told E P ops o tsF ⟨bs, n⟩ x) ∧ (lookOp o.op = false → ∀ n (K : Kt), (∀ n', K x ⟨bs, n'⟩) → opG E P ops o tsF ⟨bs, n⟩ K)

theorem free_facts {K : List AV → AH → Prop} (hp : Pairs ops) (hw : Own ops) : ∀ (rest pre : List Oper) (ts : List AV) (bs : List Blk) (n : Nat), ops.toList = pre ++ rest → (∀ (i : Nat) (o : Oper) d, ops[i]? = some o → o.dst = some d → d < ts.length) → freeW E P ops rest ts ⟨bs, n⟩ K →
    ∃ tsF, tsF.length = ts.length ∧ (∀ t : Nat, (∀ o ∈ rest, o.dst ≠ some t) → tsF[t]? = ts[t]?) ∧ (∀ n, K tsF ⟨bs, n⟩) ∧ ∀ o ∈ rest, Fact E P ops tsF bs o
  | [], pre, ts, bs, n, _, _, h => ⟨ts, rfl, fun _ _ => rfl, h, by simp⟩
  | o :: rest, pre, ts, bs, n, hpre, hlen, h => by
    have hat : ∀ (j : Nat) (y : Oper), (o :: rest)[j]? = some y → ops[pre.length + j]? = some y := fun j y hy => by
      rw [← Array.getElem?_toList, hpre, List.getElem?_append_right (by omega)]
      simpa using hy
    have ho := hat 0 o rfl
    simp only [Nat.add_zero] at ho
    have go : ∀ (x : AV) (n1 : Nat), freeW E P ops rest (putT ts o.dst x) ⟨bs, n1⟩ K → ((lookOp o.op = true → Told E P ops o ts ⟨bs, n⟩ x) ∧ (lookOp o.op = false → ∀ n (K : Kt), (∀ n', K x ⟨bs, n'⟩) → opG E P ops o ts ⟨bs, n⟩ K)) →
        ∃ tsF, tsF.length = ts.length ∧ (∀ t : Nat, (∀ o' ∈ o :: rest, o'.dst ≠ some t) → tsF[t]? = ts[t]?) ∧ (∀ n, K tsF ⟨bs, n⟩) ∧ ∀ o' ∈ o :: rest, Fact E P ops tsF bs o' := by
      intro x n1 hf hx
      have hpl : (putT ts o.dst x).length = ts.length := by cases o.dst <;> simp [putT]
      obtain ⟨tsF, h1, h2, h3, h4⟩ := free_facts hp hw rest (pre ++ [o]) (putT ts o.dst x) bs n1 (by simp [hpre]) (fun i o' d a b => by rw [hpl]; exact hlen i o' d a b) hf
      -- what 'o' looks at is as it was
      have hlook : ∀ t ∈ o.looksAt ops, ts.getD t undefA = tsF.getD t undefA := by
        intro t ht
        have hno : ∀ o' ∈ rest, o'.dst ≠ some t := by
          intro o' ho' hd
          obtain ⟨j, hj⟩ := List.getElem?_of_mem ho'
          have hy := hat (j + 1) o' (by simpa using hj)
          have := (hw _ o' hy t hd).2 pre.length o (by omega) ho
          obtain ⟨e, he, hb, he2⟩ := waits_iff.1 (this.2 ht)
          have := hp.low _ o ho e he hb
          omega
        have hself : o.dst ≠ some t := fun hd => (hw _ o ho t hd).1 ht
        have := h2 t hno
        simp only [List.getD, this]
        cases hd : o.dst with
        | none => rfl
        | some d =>
          have : d ≠ t := fun e => hself (by rw [hd, e])
          simp [putT, List.getElem?_set_ne this]
      refine ⟨tsF, h1.trans hpl, fun t ht => ?_, h3, fun o' ho' => ?_⟩
      · rw [h2 t fun o' ho' => ht o' (List.mem_cons_of_mem _ ho')]
        cases hd : o.dst with
        | none => rfl
        | some d =>
          have : d ≠ t := fun e => ht o (List.mem_cons_self ..) (by rw [hd, e])
          simp [putT, List.getElem?_set_ne this]
      · rcases List.mem_cons.1 ho' with rfl | ho'
        · refine ⟨x, fun d hd => ?_, fun hl n' => ((hx.1 hl).congr hl hlook).bs hl, fun hl n' K' hk => ?_⟩
          · have hno : ∀ o2 ∈ rest, o2.dst ≠ some d := by
              intro o2 ho2 hd2
              obtain ⟨j, hj⟩ := List.getElem?_of_mem ho2
              have hy := hat (j + 1) o2 (by simpa using hj)
              exact ((hw _ o' ho d hd).2 _ o2 (by omega) hy).1 hd2
            rw [h2 d hno, hd]
            simp [putT, hlen _ o' d ho hd]
          · rw [← opG_congr hlook]
            exact hx.2 hl n' K' hk
        · exact h4 o' ho'
    unfold freeW at h
    split at h
    · rename_i hl
      obtain ⟨x, hk, ht⟩ := told_of hl h
      exact go x n hk ⟨fun _ => ht, fun h => by rw [hl] at h; cases h⟩
    · rename_i hl
      obtain ⟨x, hx, hk⟩ := h
      exact go x n hk ⟨fun h => absurd h hl, fun _ n' K' hk' => hx n' K' hk'⟩

theorem allW_of : ∀ {l : List Prop}, l ≠ [] → (∀ p ∈ l, p) → allW l
  | [], h, _ => absurd rfl h
  | [p], _, h => h p (by simp)
  | p :: q :: l, _, h => ⟨h p (by simp), allW_of (l := q :: l) (by simp) fun r hr => h r (List.mem_cons_of_mem _ hr)⟩
theorem again_of {ts : List AV} {H : AH} {p : Prop} (hp : p) : ∀ (l : List Nat), (∀ j ∈ l, ∀ y d, ops[j]? = some y → y.dst = some d → Told E P ops y ts H (ts.getD d undefA)) → againW E P ops ts H l p
  | [], _ => hp
  | i :: l, h => by
    have ih := again_of hp l fun j hj => h j (List.mem_cons_of_mem _ hj)
    unfold againW
    split
    · rename_i o ho
      split
      · rename_i d hd
        exact ⟨h i (List.mem_cons_self ..) o d ho hd, ih⟩
      · exact ih
    · exact ih

theorem free_draw {K : List AV → AH → Prop} {tsF : List AV} {bs : List Blk} (hp : Pairs ops) (hw : Own ops) (hlen : ∀ (i : Nat) (o : Oper) d, ops[i]? = some o → o.dst = some d → d < tsF.length) (hK : ∀ n, K tsF ⟨bs, n⟩) (hf : ∀ o ∈ ops.toList, Fact E P ops tsF bs o) :
    ∀ (f : Nat) (done : Array Bool) (ts : List AV) (n : Nat), done.size = ops.size → Closed ops done → ts.length = tsF.length → cntF done.toList ≤ f → (∀ t : Nat, (∀ (i : Nat) (o : Oper), ops[i]? = some o → done.getD i false = false → o.dst ≠ some t) → ts[t]? = tsF[t]?) → drawW E P ops f done ts ⟨bs, n⟩ K := by
  intro f
  induction f with
  | zero =>
    intro done ts n hs hc hl hcnt hts
    have hall : ∀ i, i < ops.size → done.getD i false = true := by
      intro i hi
      have := cntF_zero done.toList (by omega) i (done[i]'(by omega)) (by simp [hs, hi])
      simp [Array.getD_eq_getD_getElem?, hs, hi, this]
    have hr : Region.ready .any ops done = [] := by
      cases hx : Region.ready .any ops done with
      | nil => rfl
      | cons i l =>
        exfalso
        obtain ⟨o, ho, h1, _⟩ := mem_ready.1 (by rw [hx]; exact List.mem_cons_self .. : i ∈ Region.ready .any ops done)
        have hi := (Array.getElem?_eq_some_iff.1 ho).1
        have := hall i hi
        rw [getD_ft (by omega) false true, h1] at this; cases this
    simp only [drawW, if_pos hr]
    have : ts = tsF := List.ext_getElem? fun t => hts t fun i o ho hd => by
      rw [hall i (Array.getElem?_eq_some_iff.1 ho).1] at hd; cases hd
    rw [this]; exact hK n
  | succ f ih =>
    intro done ts n hs hc hl hcnt hts
    -- the step of 'i'
    have hlk : ∀ (i : Nat) (o : Oper), ops[i]? = some o → (∀ e ∈ o.after, Region.binds .any e = true → done.getD e.on false = true) → ∀ t ∈ o.looksAt ops, tsF.getD t undefA = ts.getD t undefA := by
      intro i o ho hrd t ht
      have := hts t fun j y hy hdj hd => by
        obtain ⟨h1, h2⟩ := hw j y hy t hd
        by_cases hij : i = j
        · subst hij
          rw [ho] at hy; injection hy with hy; subst hy
          exact h1 ht
        · obtain ⟨e, he, hb, he2⟩ := waits_iff.1 ((h2 i o hij ho).2 ht)
          have := hrd e he hb
          rw [he2, hdj] at this; cases this
      simp only [List.getD, this]
    have step : ∀ (i : Nat) (o : Oper), ops[i]? = some o → i ∈ Region.ready .any ops done → ∀ x, (∀ d, o.dst = some d → tsF[d]? = some x) → ∀ n', drawW E P ops f (done.setIfInBounds i true) (putT ts o.dst x) ⟨bs, n'⟩ K ∧ ∀ t, (∀ (j : Nat) (y : Oper), ops[j]? = some y → (done.setIfInBounds i true).getD j false = false → y.dst ≠ some t) → (putT ts o.dst x)[t]? = tsF[t]? := by
      intro i o ho hr x hx n'
      obtain ⟨o', ho', hnd, hrd⟩ := mem_ready.1 hr
      rw [ho] at ho'; injection ho' with ho'; subst ho'
      have hi : i < done.size := by rw [hs]; exact (Array.getElem?_eq_some_iff.1 ho).1
      have hT : ∀ t, (∀ (j : Nat) (y : Oper), ops[j]? = some y → (done.setIfInBounds i true).getD j false = false → y.dst ≠ some t) → (putT ts o.dst x)[t]? = tsF[t]? := by
        intro t ht
        by_cases hd : o.dst = some t
        · have htl := hlen i o t ho hd
          rw [hd, hx t hd]
          simp [putT, hl, htl]
        · have : (putT ts o.dst x)[t]? = ts[t]? := by
            cases hd2 : o.dst with
            | none => rfl
            | some d =>
              have : d ≠ t := fun e => hd (by rw [hd2, e])
              simp [putT, List.getElem?_set_ne this]
          rw [this]
          refine hts t fun j y hy hdj hdst => ?_
          by_cases hij : j = i
          · subst hij
            rw [ho] at hy; injection hy with hy; subst hy
            exact hd hdst
          · exact ht j y hy (by rw [getD_setB hi, if_neg hij]; exact hdj) hdst
      refine ⟨ih _ _ n' (by simp [hs]) (hc.set hs hr) (by cases o.dst <;> simp [putT, hl]) ?_ hT, hT⟩
      have hget : done.toList[i]? = some false := by
        simp [Array.getD_eq_getD_getElem?, hi] at hnd
        simp [hi, hnd]
      have := cntF_set done.toList i hget
      simp only [Array.toList_setIfInBounds]
      omega
    simp only [drawW]
    cases hfr : firstRead ops (Region.ready .any ops done) with
    | some i =>
      obtain ⟨hmem, o, ho, hlo⟩ := firstRead_some _ i hfr
      simp only [ho]
      obtain ⟨x, hx, htold, _⟩ := hf o (Array.mem_toList_iff.2 (Array.mem_of_getElem? ho))
      obtain ⟨o', ho', _, hrd⟩ := mem_ready.1 hmem
      rw [ho] at ho'; injection ho' with ho'; subst ho'
      exact Told.run hlo ((htold hlo n).congr hlo (hlk i o ho hrd)) (step i o ho hmem x hx n).1
    | none =>
      simp only
      split
      · rename_i hr
        have hall := all_listed hp hs hr
        have : ts = tsF := List.ext_getElem? fun t => hts t fun i o ho hd => by
          rw [hall i (Array.getElem?_eq_some_iff.1 ho).1] at hd; cases hd
        rw [this]; exact hK n
      · rename_i l hne
        refine allW_of (by simpa using hne) ?_
        intro p hpm
        obtain ⟨i, hi, rfl⟩ := List.mem_map.1 hpm
        obtain ⟨o, ho, hnd, hrd⟩ := mem_ready.1 hi
        simp only [ho]
        have hlo := firstRead_none _ hfr i hi o ho
        obtain ⟨x, hx, _, hop⟩ := hf o (Array.mem_toList_iff.2 (Array.mem_of_getElem? ho))
        rw [← opG_congr (hlk i o ho hrd)]
        refine hop hlo n _ fun n' => ?_
        obtain ⟨hs1, hs2⟩ := step i o ho hi x hx n'
        refine again_of hs1 _ fun j hj y d hy hd => ?_
        unfold again at hj
        simp only [List.mem_filter, List.mem_range, Bool.and_eq_true, Bool.not_eq_true', hy] at hj
        obtain ⟨_, ⟨hdj, hlj, _⟩, _⟩ := hj
        obtain ⟨z, hz, htold, _⟩ := hf y (Array.mem_toList_iff.2 (Array.mem_of_getElem? hy))
        have hi' : i < done.size := by rw [hs]; exact (Array.getElem?_eq_some_iff.1 ho).1
        have hpend : ∀ (t : Nat), (∀ (k : Nat) (u : Oper), ops[k]? = some u → done.getD k false = false → u.dst ≠ some t) → (putT ts o.dst x)[t]? = tsF[t]? := fun t ht => hs2 t fun k u hu hk => by
          refine ht k u hu ?_
          rw [getD_setB hi'] at hk
          split at hk
          · cases hk
          · exact hk
        have hval : (putT ts o.dst x).getD d undefA = z := by
          have h1 := hpend d fun k u hu hk hdu => by
            by_cases hkj : k = j
            · subst hkj
              rw [hdj] at hk; cases hk
            · exact ((hw j y hy d hd).2 k u hkj hu).1 hdu
          simp [List.getD, h1, hz d hd]
        rw [hval]
        refine (htold hlj n').congr hlj fun t ht => ?_
        have h1 := hpend t fun k u hu hk hdu => by
          obtain ⟨h2, h3⟩ := hw k u hu t hdu
          by_cases hkj : j = k
          · subst hkj
            rw [hdj] at hk; cases hk
          · obtain ⟨e, he, hb, he2⟩ := waits_iff.1 ((h3 j y hkj hy).2 ht)
            have := hc j y hy hdj e he hb
            rw [he2, hk] at this; cases this
        simp only [List.getD, h1]

theorem free_draw_W {ts : List AV} {H : AH} {K : List AV → AH → Prop} (hok : drawOk P ops ts.length = true) (hfree : freeOk ops = true) (h : freeW E P ops ops.toList ts H K) : drawW E P ops ops.size (Array.replicate ops.size false) ts H K := by
  simp only [drawOk, Bool.and_eq_true] at hok
  obtain ⟨⟨⟨_, _⟩, hp⟩, hall⟩ := hok
  have hp := pairs_of hp
  have hw := own_of hfree
  have hlen : ∀ (i : Nat) (o : Oper) d, ops[i]? = some o → o.dst = some d → d < ts.length := by
    intro i o d ho hdst
    have := List.all_eq_true.1 hall o (Array.mem_toList_iff.2 (Array.mem_of_getElem? ho))
    simpa [hdst] using this
  obtain ⟨bs, n⟩ := H
  obtain ⟨tsF, h1, h2, h3, h4⟩ := free_facts hp hw ops.toList [] ts bs n rfl hlen h
  have hno : ∀ i, (Array.replicate ops.size false).getD i false = false := by
    intro i
    simp only [Array.getD_eq_getD_getElem?, Array.getElem?_replicate]
    split <;> rfl
  refine free_draw hp hw (fun i o d ho hd => by rw [h1]; exact hlen i o d ho hd) h3 h4 ops.size _ ts n (by simp) (fun i o ho hi => by rw [hno] at hi; cases hi) h1.symm (by simp [cntF_replicate]) fun t ht => (h2 t fun o ho hd => ?_).symm
  obtain ⟨i, hi⟩ := List.getElem?_of_mem ho
  rw [Array.getElem?_toList] at hi
  exact ht i o hi (hno i) hd
end
end Go.Sc
