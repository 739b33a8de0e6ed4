/- A REGION WHOSE ORDER IS OPEN, OF STEPS THAT LEAVE MEMORY AS IT IS: one order is enough. A FUNCTION's CODE DOES WHAT ITS NODES SAY. STEPS OF THE PROOF ALONE: blocks of the call's own are frozen. CALLS AMONG BLOCKS OF ONE's OWN: a callee sees some of them ('mv', told by its own numbers), and all others stay as they are. (of the seat YtldomhanfhfonaaGreatDoor) -/
import Derived.Test.YtldomhanfhfonaaGreatDoorCore3
import Derived.Scope
import Derived.ControlIn
import Derived.CallsIn
namespace Go.Sc
open Go
section
variable {E : Env} {P : Program} {ops : Array Oper}
theorem opW_congr {o : Oper} {ts ts' : List AV} {H : AH} {K : Kt} (h : ∀ x ∈ o.op.operands.toList, ev E ts x = ev E ts' x) : opW E P o ts H K = opW E P o ts' H K := by
  cases ho : o.op with
  | build t ps =>
    simp only [ho, Op.operands] at h
    have : partsB E P ts t ps.toList = partsB E P ts' t ps.toList := by
      unfold partsB
      have hp : ∀ p ∈ ps.toList, ev E ts p.2 = ev E ts' p.2 := fun p hp => h p.2 (by simpa using ⟨p.1, by simpa using hp⟩)
      simp only [partsP_congr _ hp]
    simp only [opW, ho, this]
  | buildSlice t n ps =>
    simp only [ho, Op.operands] at h
    have hp : ∀ p ∈ ps.toList, ev E ts p.2 = ev E ts' p.2 := fun p hp => h p.2 (by simpa using ⟨p.1, by simpa using hp⟩)
    simp only [opW, ho, partsP_congr _ hp]
  | makeFunc f fs cs =>
    simp only [ho, Op.operands] at h
    have h1 : fs.toList.map (ev E ts) = fs.toList.map (ev E ts') := List.map_congr_left fun x hx => h x (by simp at hx ⊢; exact .inl hx)
    have h2 : cs.toList.map (ev E ts) = cs.toList.map (ev E ts') := List.map_congr_left fun x hx => h x (by simp at hx ⊢; exact .inr hx)
    simp only [opW, ho, h1, h2]
  | slice t x lo hi m =>
    simp only [ho, Op.operands] at h
    have h0 := h x (by simp)
    have h1 : lo.map (ev E ts) = lo.map (ev E ts') := by cases lo <;> simp; exact h _ (by simp)
    have h2 : hi.map (ev E ts) = hi.map (ev E ts') := by cases hi <;> simp; exact h _ (by simp)
    simp only [opW, ho, h0, h1, h2]
  | call cl =>
    simp only [ho, Op.operands] at h
    have h1 : ∀ x ∈ cl.args.toList, ev E ts x = ev E ts' x := fun x hx => h x (by unfold Call.operands; simp at hx ⊢; exact .inr hx)
    have h2 : cl.args.toList.map (ev E ts) = cl.args.toList.map (ev E ts') := List.map_congr_left h1
    cases hc : cl.callee with
    | value x =>
      have h3 : ev E ts x = ev E ts' x := h x (by simp [Call.operands, hc])
      cases x <;> simp only [opW, ho, hc, h2] <;> simp only [h3]
    | invoke r m =>
      have h3 : ev E ts r = ev E ts' r := h r (by simp [Call.operands, hc])
      simp only [opW, ho, hc, h2, h3]
    | builtin b =>
      simp only [opW, ho, hc]
      clear h h2
      revert h1
      generalize (cl.argTypes[0]?).bind (elemB P) = z1
      generalize (cl.argTypes[0]?).bind P.underlying = z2
      generalize (cl.argTypes[1]?).bind P.underlying = z3
      generalize cl.args.toList = l
      intro h1
      rcases l with _ | ⟨x, _ | ⟨y, _ | ⟨z, l⟩⟩⟩
      · cases b <;> simp only
        all_goals first
          | rfl
          | (rcases z1 with _ | ⟨e, n, s⟩ <;> first | rfl | done)
          | (rcases z1 with _ | ⟨e, n, s⟩ <;> rcases z3 with _ | z3 <;> first | rfl | (cases z3 <;> rfl))
          | (rcases z2 with _ | z2 <;> first | rfl | (cases z2 <;> rfl))
      · have k1 := h1 x (by simp)
        cases b <;> simp only
        all_goals first
          | rfl
          | (rcases z1 with _ | ⟨e, n, s⟩ <;> first | rfl | done)
          | (rcases z1 with _ | ⟨e, n, s⟩ <;> rcases z3 with _ | z3 <;> first | rfl | (cases z3 <;> rfl))
          | (rcases z2 with _ | z2 <;> first | rfl | (cases z2 <;> first | rfl | simp only [k1]))
      · have k1 := h1 x (by simp)
        have k2 := h1 y (by simp)
        cases b <;> simp only
        all_goals first
          | rfl
          | (rcases z1 with _ | ⟨e, n, s⟩ <;> first | rfl | (simp only [k1, k2]; done))
          | (rcases z1 with _ | ⟨e, n, s⟩ <;> rcases z3 with _ | z3 <;> first | rfl | (cases z3 <;> first | rfl | simp only [k1, k2]))
          | (rcases z2 with _ | z2 <;> first | rfl | (cases z2 <;> rfl))
          | simp only [k1, k2]
      · cases b <;> simp only
        all_goals first
          | rfl
          | (rcases z1 with _ | ⟨e, n, s⟩ <;> first | rfl | done)
          | (rcases z1 with _ | ⟨e, n, s⟩ <;> rcases z3 with _ | z3 <;> first | rfl | (cases z3 <;> rfl))
          | (rcases z2 with _ | z2 <;> first | rfl | (cases z2 <;> rfl))
  | _ => simp only [ho, Op.operands] at h; simp_all [opW]

theorem opG_congr {o : Oper} {ts ts' : List AV} {H : AH} {K : Kt} (hs : ∀ t ∈ o.looksAt ops, ts.getD t undefA = ts'.getD t undefA) : opG E P ops o ts H K = opG E P ops o ts' H K := by
  have hr : ∀ K : Kt, opW E P o ts H K = opW E P o ts' H K := fun K => opW_congr (looks_ev (E := E) hs)
  unfold opG
  cases hg : o.guard with
  | none => simp only [hr]
  | some p =>
    obtain ⟨j, want⟩ := p
    simp only
    cases hd : (ops[j]?).bind (·.dst) with
    | none => rfl
    | some d => simp only [hs d (guard_looks hg hd), hr]

theorem Told.run {o : Oper} {ts : List AV} {H : AH} {x : AV} {K : Kt} (hl : lookOp o.op = true) (h : Told E P ops o ts H x) (hk : K x H) : opG E P ops o ts H K := by
  unfold Told opG at *
  cases hg : o.guard with
  | none =>
    simp only [hg] at h ⊢
    obtain ⟨y, hy, rfl, _⟩ := (opW_rd hl).1 h
    exact (opW_rd hl).2 ⟨y, hy, hk⟩
  | some p =>
    obtain ⟨j, want⟩ := p
    simp only [hg] at h ⊢
    cases hd : (ops[j]?).bind (·.dst) with
    | none => simp only [hd] at h
    | some d =>
      simp only [hd] at h ⊢
      obtain ⟨h⟩ := h
      refine ⟨h.imp ?_ ?_⟩
      · rintro ⟨b, hb, hy, hn⟩
        refine ⟨b, hb, fun hw => ?_, fun hw => (hn hw).1 ▸ hk⟩
        obtain ⟨y, hy', rfl, _⟩ := (opW_rd hl).1 (hy hw)
        exact (opW_rd hl).2 ⟨_, hy', hk⟩
      · rintro ⟨h1, h2, _⟩
        exact ⟨h1, h2 ▸ hk⟩

theorem rdA_bs {o : Oper} {ts : List AV} {bs : List Blk} {n m : Nat} : rdA E P o ts ⟨bs, n⟩ = rdA E P o ts ⟨bs, m⟩ := by
  cases ho : o.op with
  | load t x =>
    have h1 : ∀ a, load1 a ⟨bs, n⟩ = load1 a ⟨bs, m⟩ := fun a => by cases a <;> rfl
    have h2 : ∀ k a, loadN k a ⟨bs, n⟩ = loadN k a ⟨bs, m⟩ := fun k a => by cases a <;> rfl
    simp only [rdA, ho, h1, h2]
  | slice t x lo hi mx =>
    have h1 : ∀ k a l h, sliceA k a l h ⟨bs, n⟩ = sliceA k a l h ⟨bs, m⟩ := fun k a l h => by unfold sliceA; cases a <;> rfl
    simp only [rdA, ho, h1]
  | _ => simp only [rdA, ho]

theorem Told.bs {o : Oper} {ts : List AV} {bs : List Blk} {n m : Nat} {x : AV} (hl : lookOp o.op = true) (h : Told E P ops o ts ⟨bs, n⟩ x) : Told E P ops o ts ⟨bs, m⟩ x := by
  unfold Told opG at *
  have hr := rdA_bs (E := E) (P := P) (o := o) (ts := ts) (bs := bs) (n := n) (m := m)
  cases hg : o.guard with
  | none =>
    simp only [hg] at h ⊢
    obtain ⟨y, hy, hk⟩ := (opW_rd hl).1 h
    exact (opW_rd hl).2 ⟨y, by rw [← hr]; exact hy, hk.1, rfl⟩
  | some p =>
    obtain ⟨j, want⟩ := p
    simp only [hg] at h ⊢
    cases hd : (ops[j]?).bind (·.dst) with
    | none => simp only [hd] at h
    | some d =>
      simp only [hd] at h ⊢
      obtain ⟨h⟩ := h
      refine ⟨h.imp ?_ (fun h => ⟨h.1, h.2.1, rfl⟩)⟩
      rintro ⟨b, hb, hy, hn⟩
      refine ⟨b, hb, fun hw => ?_, fun hw => ⟨(hn hw).1, rfl⟩⟩
      obtain ⟨y, hy, hk⟩ := (opW_rd hl).1 (hy hw)
      exact (opW_rd hl).2 ⟨y, by rw [← hr]; exact hy, hk.1, rfl⟩

def Own (ops : Array Oper) : Prop := ∀ (i : Nat) (x : Oper), ops[i]? = some x → ∀ d, x.dst = some d → d ∉ x.looksAt ops ∧ ∀ (j : Nat) (y : Oper), j ≠ i → ops[j]? = some y → y.dst ≠ some d ∧ (d ∈ y.looksAt ops → waits y i = true)
theorem own_of (h : freeOk ops = true) : Own ops := by
  intro i x hx d hd
  have hi := (Array.getElem?_eq_some_iff.1 hx).1
  have := List.all_eq_true.1 h i (List.mem_range.2 hi)
  simp only [hx, hd, Bool.and_eq_true, Bool.not_eq_true'] at this
  refine ⟨fun hm => ?_, fun j y hj hy => ?_⟩
  · have h1 := this.1
    rw [List.contains_iff_mem.2 hm] at h1; cases h1
  · have hjs := (Array.getElem?_eq_some_iff.1 hy).1
    have h2 := List.all_eq_true.1 this.2 j (List.mem_range.2 hjs)
    have hne : (i == j) = false := by simpa using Ne.symm hj
    simp only [hne, hy, Bool.false_or, Bool.and_eq_true, bne_iff_ne, Bool.or_eq_true, Bool.not_eq_true'] at h2
    refine ⟨h2.1, fun hm => ?_⟩
    rcases h2.2 with h3 | h3
    · rw [List.contains_iff_mem.2 hm] at h3; cases h3
    · exact h3

/-- what an operation comes to, whenever it is done -/
def Fact (E : Env) (P : Program) (ops : Array Oper) (tsF : List AV) (bs : List Blk) (o : Oper) : Prop :=
  ∃ x, (∀ d, o.dst = some d → tsF[d]? = some x) ∧ (lookOp o.op = true → ∀ n, Told E P ops o tsF ⟨bs, n⟩ x) ∧ (lookOp o.op = false → ∀ n (K : Kt), (∀ n', K x ⟨bs, n'⟩) → opG E P ops o tsF ⟨bs, n⟩ K)

theorem free_facts {K : List AV → AH → Prop} (hp : Pairs ops) (hw : Own ops) : ∀ (rest pre : List Oper) (ts : List AV) (bs : List Blk) (n : Nat), ops.toList = pre ++ rest → (∀ (i : Nat) (o : Oper) d, ops[i]? = some o → o.dst = some d → d < ts.length) → freeW E P ops rest ts ⟨bs, n⟩ K →
    ∃ tsF, tsF.length = ts.length ∧ (∀ t : Nat, (∀ o ∈ rest, o.dst ≠ some t) → tsF[t]? = ts[t]?) ∧ (∀ n, K tsF ⟨bs, n⟩) ∧ ∀ o ∈ rest, Fact E P ops tsF bs o
  | [], pre, ts, bs, n, _, _, h => ⟨ts, rfl, fun _ _ => rfl, h, by simp⟩
  | o :: rest, pre, ts, bs, n, hpre, hlen, h => by
    have hat : ∀ (j : Nat) (y : Oper), (o :: rest)[j]? = some y → ops[pre.length + j]? = some y := fun j y hy => by
      rw [← Array.getElem?_toList, hpre, List.getElem?_append_right (by omega)]
      simpa using hy
    have ho := hat 0 o rfl
    simp only [Nat.add_zero] at ho
    have go : ∀ (x : AV) (n1 : Nat), freeW E P ops rest (putT ts o.dst x) ⟨bs, n1⟩ K → ((lookOp o.op = true → Told E P ops o ts ⟨bs, n⟩ x) ∧ (lookOp o.op = false → ∀ n (K : Kt), (∀ n', K x ⟨bs, n'⟩) → opG E P ops o ts ⟨bs, n⟩ K)) →
        ∃ tsF, tsF.length = ts.length ∧ (∀ t : Nat, (∀ o' ∈ o :: rest, o'.dst ≠ some t) → tsF[t]? = ts[t]?) ∧ (∀ n, K tsF ⟨bs, n⟩) ∧ ∀ o' ∈ o :: rest, Fact E P ops tsF bs o' := by
      intro x n1 hf hx
      have hpl : (putT ts o.dst x).length = ts.length := by cases o.dst <;> simp [putT]
      obtain ⟨tsF, h1, h2, h3, h4⟩ := free_facts hp hw rest (pre ++ [o]) (putT ts o.dst x) bs n1 (by simp [hpre]) (fun i o' d a b => by rw [hpl]; exact hlen i o' d a b) hf
      -- what 'o' looks at is as it was
      have hlook : ∀ t ∈ o.looksAt ops, ts.getD t undefA = tsF.getD t undefA := by
        intro t ht
        have hno : ∀ o' ∈ rest, o'.dst ≠ some t := by
          intro o' ho' hd
          obtain ⟨j, hj⟩ := List.getElem?_of_mem ho'
          have hy := hat (j + 1) o' (by simpa using hj)
          have := (hw _ o' hy t hd).2 pre.length o (by omega) ho
          obtain ⟨e, he, hb, he2⟩ := waits_iff.1 (this.2 ht)
          have := hp.low _ o ho e he hb
          omega
        have hself : o.dst ≠ some t := fun hd => (hw _ o ho t hd).1 ht
        have := h2 t hno
        simp only [List.getD, this]
        cases hd : o.dst with
        | none => rfl
        | some d =>
          have : d ≠ t := fun e => hself (by rw [hd, e])
          simp [putT, List.getElem?_set_ne this]
      refine ⟨tsF, h1.trans hpl, fun t ht => ?_, h3, fun o' ho' => ?_⟩
      · rw [h2 t fun o' ho' => ht o' (List.mem_cons_of_mem _ ho')]
        cases hd : o.dst with
        | none => rfl
        | some d =>
          have : d ≠ t := fun e => ht o (List.mem_cons_self ..) (by rw [hd, e])
          simp [putT, List.getElem?_set_ne this]
      · rcases List.mem_cons.1 ho' with rfl | ho'
        · refine ⟨x, fun d hd => ?_, fun hl n' => ((hx.1 hl).congr hl hlook).bs hl, fun hl n' K' hk => ?_⟩
          · have hno : ∀ o2 ∈ rest, o2.dst ≠ some d := by
              intro o2 ho2 hd2
              obtain ⟨j, hj⟩ := List.getElem?_of_mem ho2
              have hy := hat (j + 1) o2 (by simpa using hj)
              exact ((hw _ o' ho d hd).2 _ o2 (by omega) hy).1 hd2
            rw [h2 d hno, hd]
            simp [putT, hlen _ o' d ho hd]
          · rw [← opG_congr hlook]
            exact hx.2 hl n' K' hk
        · exact h4 o' ho'
    unfold freeW at h
    split at h
    · rename_i hl
      obtain ⟨x, hk, ht⟩ := told_of hl h
      exact go x n hk ⟨fun _ => ht, fun h => by rw [hl] at h; cases h⟩
    · rename_i hl
      obtain ⟨x, hx, hk⟩ := h
      exact go x n hk ⟨fun h => absurd h hl, fun _ n' K' hk' => hx n' K' hk'⟩

theorem allW_of : ∀ {l : List Prop}, l ≠ [] → (∀ p ∈ l, p) → allW l
  | [], h, _ => absurd rfl h
  | [p], _, h => h p (by simp)
  | p :: q :: l, _, h => ⟨h p (by simp), allW_of (l := q :: l) (by simp) fun r hr => h r (List.mem_cons_of_mem _ hr)⟩
theorem again_of {ts : List AV} {H : AH} {p : Prop} (hp : p) : ∀ (l : List Nat), (∀ j ∈ l, ∀ y d, ops[j]? = some y → y.dst = some d → Told E P ops y ts H (ts.getD d undefA)) → againW E P ops ts H l p
  | [], _ => hp
  | i :: l, h => by
    have ih := again_of hp l fun j hj => h j (List.mem_cons_of_mem _ hj)
    unfold againW
    split
    · rename_i o ho
      split
      · rename_i d hd
        exact ⟨h i (List.mem_cons_self ..) o d ho hd, ih⟩
      · exact ih
    · exact ih

theorem free_draw {K : List AV → AH → Prop} {tsF : List AV} {bs : List Blk} (hp : Pairs ops) (hw : Own ops) (hlen : ∀ (i : Nat) (o : Oper) d, ops[i]? = some o → o.dst = some d → d < tsF.length) (hK : ∀ n, K tsF ⟨bs, n⟩) (hf : ∀ o ∈ ops.toList, Fact E P ops tsF bs o) :
    ∀ (f : Nat) (done : Array Bool) (ts : List AV) (n : Nat), done.size = ops.size → Closed ops done → ts.length = tsF.length → cntF done.toList ≤ f → (∀ t : Nat, (∀ (i : Nat) (o : Oper), ops[i]? = some o → done.getD i false = false → o.dst ≠ some t) → ts[t]? = tsF[t]?) → drawW E P ops f done ts ⟨bs, n⟩ K := by
  intro f
  induction f with
  | zero =>
    intro done ts n hs hc hl hcnt hts
    have hall : ∀ i, i < ops.size → done.getD i false = true := by
      intro i hi
      have := cntF_zero done.toList (by omega) i (done[i]'(by omega)) (by simp [hs, hi])
      simp [Array.getD_eq_getD_getElem?, hs, hi, this]
    have hr : Region.ready .any ops done = [] := by
      cases hx : Region.ready .any ops done with
      | nil => rfl
      | cons i l =>
        exfalso
        obtain ⟨o, ho, h1, _⟩ := mem_ready.1 (by rw [hx]; exact List.mem_cons_self .. : i ∈ Region.ready .any ops done)
        have hi := (Array.getElem?_eq_some_iff.1 ho).1
        have := hall i hi
        rw [getD_ft (by omega) false true, h1] at this; cases this
    simp only [drawW, if_pos hr]
    have : ts = tsF := List.ext_getElem? fun t => hts t fun i o ho hd => by
      rw [hall i (Array.getElem?_eq_some_iff.1 ho).1] at hd; cases hd
    rw [this]; exact hK n
  | succ f ih =>
    intro done ts n hs hc hl hcnt hts
    -- the step of 'i'
    have hlk : ∀ (i : Nat) (o : Oper), ops[i]? = some o → (∀ e ∈ o.after, Region.binds .any e = true → done.getD e.on false = true) → ∀ t ∈ o.looksAt ops, tsF.getD t undefA = ts.getD t undefA := by
      intro i o ho hrd t ht
      have := hts t fun j y hy hdj hd => by
        obtain ⟨h1, h2⟩ := hw j y hy t hd
        by_cases hij : i = j
        · subst hij
          rw [ho] at hy; injection hy with hy; subst hy
          exact h1 ht
        · obtain ⟨e, he, hb, he2⟩ := waits_iff.1 ((h2 i o hij ho).2 ht)
          have := hrd e he hb
          rw [he2, hdj] at this; cases this
      simp only [List.getD, this]
    have step : ∀ (i : Nat) (o : Oper), ops[i]? = some o → i ∈ Region.ready .any ops done → ∀ x, (∀ d, o.dst = some d → tsF[d]? = some x) → ∀ n', drawW E P ops f (done.setIfInBounds i true) (putT ts o.dst x) ⟨bs, n'⟩ K ∧ ∀ t, (∀ (j : Nat) (y : Oper), ops[j]? = some y → (done.setIfInBounds i true).getD j false = false → y.dst ≠ some t) → (putT ts o.dst x)[t]? = tsF[t]? := by
      intro i o ho hr x hx n'
      obtain ⟨o', ho', hnd, hrd⟩ := mem_ready.1 hr
      rw [ho] at ho'; injection ho' with ho'; subst ho'
      have hi : i < done.size := by rw [hs]; exact (Array.getElem?_eq_some_iff.1 ho).1
      have hT : ∀ t, (∀ (j : Nat) (y : Oper), ops[j]? = some y → (done.setIfInBounds i true).getD j false = false → y.dst ≠ some t) → (putT ts o.dst x)[t]? = tsF[t]? := by
        intro t ht
        by_cases hd : o.dst = some t
        · have htl := hlen i o t ho hd
          rw [hd, hx t hd]
          simp [putT, hl, htl]
        · have : (putT ts o.dst x)[t]? = ts[t]? := by
            cases hd2 : o.dst with
            | none => rfl
            | some d =>
              have : d ≠ t := fun e => hd (by rw [hd2, e])
              simp [putT, List.getElem?_set_ne this]
          rw [this]
          refine hts t fun j y hy hdj hdst => ?_
          by_cases hij : j = i
          · subst hij
            rw [ho] at hy; injection hy with hy; subst hy
            exact hd hdst
          · exact ht j y hy (by rw [getD_setB hi, if_neg hij]; exact hdj) hdst
      refine ⟨ih _ _ n' (by simp [hs]) (hc.set hs hr) (by cases o.dst <;> simp [putT, hl]) ?_ hT, hT⟩
      have hget : done.toList[i]? = some false := by
        simp [Array.getD_eq_getD_getElem?, hi] at hnd
        simp [hi, hnd]
      have := cntF_set done.toList i hget
      simp only [Array.toList_setIfInBounds]
      omega
    simp only [drawW]
    cases hfr : firstRead ops (Region.ready .any ops done) with
    | some i =>
      obtain ⟨hmem, o, ho, hlo⟩ := firstRead_some _ i hfr
      simp only [ho]
      obtain ⟨x, hx, htold, _⟩ := hf o (Array.mem_toList_iff.2 (Array.mem_of_getElem? ho))
      obtain ⟨o', ho', _, hrd⟩ := mem_ready.1 hmem
      rw [ho] at ho'; injection ho' with ho'; subst ho'
      exact Told.run hlo ((htold hlo n).congr hlo (hlk i o ho hrd)) (step i o ho hmem x hx n).1
    | none =>
      simp only
      split
      · rename_i hr
        have hall := all_listed hp hs hr
        have : ts = tsF := List.ext_getElem? fun t => hts t fun i o ho hd => by
          rw [hall i (Array.getElem?_eq_some_iff.1 ho).1] at hd; cases hd
        rw [this]; exact hK n
      · rename_i l hne
        refine allW_of (by simpa using hne) ?_
        intro p hpm
        obtain ⟨i, hi, rfl⟩ := List.mem_map.1 hpm
        obtain ⟨o, ho, hnd, hrd⟩ := mem_ready.1 hi
        simp only [ho]
        have hlo := firstRead_none _ hfr i hi o ho
        obtain ⟨x, hx, _, hop⟩ := hf o (Array.mem_toList_iff.2 (Array.mem_of_getElem? ho))
        rw [← opG_congr (hlk i o ho hrd)]
        refine hop hlo n _ fun n' => ?_
        obtain ⟨hs1, hs2⟩ := step i o ho hi x hx n'
        refine again_of hs1 _ fun j hj y d hy hd => ?_
        unfold again at hj
        simp only [List.mem_filter, List.mem_range, Bool.and_eq_true, Bool.not_eq_true', hy] at hj
        obtain ⟨_, ⟨hdj, hlj, _⟩, _⟩ := hj
        obtain ⟨z, hz, htold, _⟩ := hf y (Array.mem_toList_iff.2 (Array.mem_of_getElem? hy))
        have hi' : i < done.size := by rw [hs]; exact (Array.getElem?_eq_some_iff.1 ho).1
        have hpend : ∀ (t : Nat), (∀ (k : Nat) (u : Oper), ops[k]? = some u → done.getD k false = false → u.dst ≠ some t) → (putT ts o.dst x)[t]? = tsF[t]? := fun t ht => hs2 t fun k u hu hk => by
          refine ht k u hu ?_
          rw [getD_setB hi'] at hk
          split at hk
          · cases hk
          · exact hk
        have hval : (putT ts o.dst x).getD d undefA = z := by
          have h1 := hpend d fun k u hu hk hdu => by
            by_cases hkj : k = j
            · subst hkj
              rw [hdj] at hk; cases hk
            · exact ((hw j y hy d hd).2 k u hkj hu).1 hdu
          simp [List.getD, h1, hz d hd]
        rw [hval]
        refine (htold hlj n').congr hlj fun t ht => ?_
        have h1 := hpend t fun k u hu hk hdu => by
          obtain ⟨h2, h3⟩ := hw k u hu t hdu
          by_cases hkj : j = k
          · subst hkj
            rw [hdj] at hk; cases hk
          · obtain ⟨e, he, hb, he2⟩ := waits_iff.1 ((h3 j y hkj hy).2 ht)
            have := hc j y hy hdj e he hb
            rw [he2, hk] at this; cases this
        simp only [List.getD, h1]

theorem free_draw_W {ts : List AV} {H : AH} {K : List AV → AH → Prop} (hok : drawOk P ops ts.length = true) (hfree : freeOk ops = true) (h : freeW E P ops ops.toList ts H K) : drawW E P ops ops.size (Array.replicate ops.size false) ts H K := by
  simp only [drawOk, Bool.and_eq_true] at hok
  obtain ⟨⟨⟨_, _⟩, hp⟩, hall⟩ := hok
  have hp := pairs_of hp
  have hw := own_of hfree
  have hlen : ∀ (i : Nat) (o : Oper) d, ops[i]? = some o → o.dst = some d → d < ts.length := by
    intro i o d ho hdst
    have := List.all_eq_true.1 hall o (Array.mem_toList_iff.2 (Array.mem_of_getElem? ho))
    simpa [hdst] using this
  obtain ⟨bs, n⟩ := H
  obtain ⟨tsF, h1, h2, h3, h4⟩ := free_facts hp hw ops.toList [] ts bs n rfl hlen h
  have hno : ∀ i, (Array.replicate ops.size false).getD i false = false := by
    intro i
    simp only [Array.getD_eq_getD_getElem?, Array.getElem?_replicate]
    split <;> rfl
  refine free_draw hp hw (fun i o d ho hd => by rw [h1]; exact hlen i o d ho hd) h3 h4 ops.size _ ts n (by simp) (fun i o ho hi => by rw [hno] at hi; cases hi) h1.symm (by simp [cntF_replicate]) fun t ht => (h2 t fun o ho hd => ?_).symm
  obtain ⟨i, hi⟩ := List.getElem?_of_mem ho
  rw [Array.getElem?_toList] at hi
  exact ht i o hi (hno i) hd
end
end Go.Sc
namespace Go.Sc
open Go
section
variable {E : Env} {P : Program}
/-- how a way out stands to ours -/
def exitRel : Exit → AX → Prop
  | .normal, .normal => True
  | .exit i, .exit j => i = j
  | .ret, .ret => True
  | _, _ => False

def QRd (d0 : List Deferred) (E : Env) (c : Cx) (W : List Nat) (ts : List AV) (Q : AX → List AV → AH → Prop) : Exit → Act → World → Prop := fun e a' w' =>
  ∃ e' ts' c' H', c'.w = w' ∧ exitRel e e' ∧ Q e' ts' H' ∧ HRel E c' H' ∧ LRel E c' ts' a'.tmps.toList ∧ a'.defers = d0 ∧ Later c c' ∧ Agree W ts ts'

abbrev QR := QRd []
/-- no scope stands in it -/
def noScope : Code → Bool
  | .seq x y => noScope x && noScope y
  | .cond _ x y => noScope x && noScope y
  | .block _ x => noScope x
  | .loop x => noScope x
  | .scope _ => false
  | _ => true
theorem KN.app_of : ∀ (n : Nat) (f : List AV → AH → Prop) (xs : List AV) (H : AH), xs.length = n → KN.app n (KN.of n f) xs H → f xs H
  | 0, f, xs, H, hl, h => by
    have : xs = [] := List.eq_nil_of_length_eq_zero hl
    subst this; exact h
  | n + 1, f, [], H, hl, h => by simp at hl
  | n + 1, f, x :: xs, H, hl, h => KN.app_of n (fun xs => f (x :: xs)) xs H (by simpa using hl) h
theorem KN.le_app : ∀ (n : Nat) (j k : KN n) (xs : List AV) (H : AH), KN.le n j k → xs.length = n → KN.app n j xs H → KN.app n k xs H
  | 0, j, k, xs, H, hle, _, h => hle H h
  | n + 1, j, k, [], H, hle, hl, h => by simp at hl
  | n + 1, j, k, x :: xs, H, hle, hl, h => KN.le_app n (j x) (k x) xs H (hle x) (by simpa using hl) h

theorem junk_agree : ∀ (W : List Nat) (ts : List AV), Agree W ts (junkL ts W)
  | [], ts => Agree.refl _ _
  | t :: W, ts => by
    have h1 : Agree [t] ts (ts.set t .junk) := ⟨by simp, fun i hi => by simp at hi; rw [List.getElem?_set_ne (Ne.symm hi)]⟩
    exact h1.trans (junk_agree W _)
theorem junk_get : ∀ (W : List Nat) (ts : List AV) (t : Nat), (junkL ts W)[t]? = if t ∈ W then ts[t]?.map (fun _ => AV.junk) else ts[t]?
  | [], ts, t => by simp [junkL]
  | w :: W, ts, t => by
    simp only [junkL]
    rw [junk_get W]
    by_cases h : t ∈ W
    · simp only [h, if_true, List.mem_cons, or_true]
      by_cases hw : w = t
      · subst hw
        by_cases hl : w < ts.length
        · simp [hl]
        · simp [List.set_eq_of_length_le (Nat.le_of_not_lt hl)]
      · rw [List.getElem?_set_ne hw]
    · by_cases hw : w = t
      · subst hw
        simp only [h, if_false, List.mem_cons, true_or, if_true]
        by_cases hl : w < ts.length
        · simp [hl]
        · simp [List.set_eq_of_length_le (Nat.le_of_not_lt hl), List.getElem?_eq_none (Nat.le_of_not_lt hl)]
      · simp only [h, if_false, List.mem_cons, or_false, Ne.symm hw]
        rw [List.getElem?_set_ne hw]
theorem junk_eq {W : List Nat} {ts ts1 : List AV} (h : Agree W ts ts1) : junkL ts W = junkL ts1 W := by
  apply List.ext_getElem?
  intro t
  rw [junk_get, junk_get]
  by_cases ht : t ∈ W
  · simp only [ht, if_true]
    by_cases hl : t < ts.length
    · have hl1 : t < ts1.length := by rw [h.1]; exact hl
      simp [hl, hl1]
    · have hl1 : ¬ t < ts1.length := by rw [h.1]; exact hl
      simp [hl, hl1]
  · simp only [ht, if_false]; exact (h.2 t ht).symm
theorem junk_rel {c : Cx} : ∀ (W : List Nat) (ts : List AV) (vs : List Value), LRel E c ts vs → LRel E c (junkL ts W) vs
  | [], ts, vs, h => h
  | t :: W, ts, vs, h => by
    refine junk_rel W _ _ ?_
    by_cases ht : t < vs.length
    · have := h.set t (x := .junk) (v := vs[t]) (by simp [VRel])
      rwa [List.set_getElem_self] at this
    · rw [List.set_eq_of_length_le (by rw [h.length]; omega)]; exact h
theorem fill_rel {c : Cx} (W : List Nat) : ∀ (l : List Nat) (ts xs : List AV) (vs : List Value), LRel E c ts vs → LRel E c xs (l.map fun t => vs.getD t undef) → LRel E c (fillW W ts l xs) vs
  | [], ts, xs, vs, h, _ => by cases xs <;> exact h
  | t :: l, ts, [], vs, h, h' => by simp [LRel] at h'
  | t :: l, ts, x :: xs, vs, h, h' => by
    simp only [List.map_cons, LRel, fillW] at h' ⊢
    obtain ⟨u, us, he, hu, h'⟩ := h'
    injection he with e1 e2
    subst e1 e2
    refine fill_rel W l _ xs vs ?_ h'
    cases W.contains t with
    | false => exact h
    | true =>
      simp only [cond_true]
      by_cases ht : t < vs.length
      · have := h.set t hu
        simp only [List.getD, List.getElem?_eq_getElem ht, Option.getD_some] at this
        rwa [List.set_getElem_self] at this
      · rw [List.set_eq_of_length_le (by rw [h.length]; omega)]; exact h
theorem looks_rel {c : Cx} {ts : List AV} {vs : List Value} (h : LRel E c ts vs) : ∀ l : List Nat, LRel E c (looks ts l) (l.map fun t => vs.getD t undef)
  | [] => by simp [looks, LRel]
  | t :: l => by
    simp only [looks, List.map_cons, LRel]
    refine ⟨_, _, rfl, ?_, looks_rel h l⟩
    by_cases ht : t < ts.length
    · obtain ⟨v, h1, h2⟩ := h.get (List.getElem?_eq_getElem ht)
      simpa [List.getD, List.getElem?_eq_getElem ht, h1] using h2
    · have h2 : ¬ t < vs.length := by rw [← h.length]; exact ht
      simp [List.getD, List.getElem?_eq_none (Nat.le_of_not_lt ht), List.getElem?_eq_none (Nat.le_of_not_lt h2), undefA, undef, VRel]
theorem fill_agree (W : List Nat) : ∀ (l : List Nat) (ts0 ts xs : List AV), Agree W ts0 ts → Agree W ts0 (fillW W ts l xs)
  | [], ts0, ts, xs, h => by cases xs <;> exact h
  | t :: l, ts0, ts, [], h => h
  | t :: l, ts0, ts, x :: xs, h => by
    simp only [fillW]
    refine fill_agree W l ts0 _ xs ?_
    cases hc : W.contains t with
    | false => exact h
    | true =>
      refine ⟨by simpa using h.1, fun i hi => ?_⟩
      simp only [cond_true]
      by_cases hit : t = i
      · subst hit; simp at hc; exact absurd hc hi
      · rw [List.getElem?_set_ne hit]; exact h.2 i hi

theorem exists_least {p : Nat → Prop} (h : ∃ n, p n) : ∃ n, p n ∧ ∀ m, m < n → ¬ p m := by
  obtain ⟨n, hn⟩ := h
  induction n using Nat.strongRecOn with
  | _ n ih =>
    by_cases hx : ∃ m, m < n ∧ p m
    · obtain ⟨m, hm, hp⟩ := hx; exact ih m hm hp
    · exact ⟨n, hn, fun m hm hp => hx ⟨m, hm, hp⟩⟩

/-- a loop whose relation bears what is left -/
theorem wpIn_loop_left {F : Fence} {nn : Nat} {c : Code} {Q : Exit → Act → World → Prop} {a : Act} {w : World} (I : Nat → Act → World → Prop) (h₀ : ∃ m, I m a w)
    (round : ∀ m a w, I m a w → c.wpIn F nn P (Exit.then (fun a' w' => ∃ m', m' < m ∧ I m' a' w') Q) a w) : (Code.loop c).wpIn F nn P Q a w := by
  classical
  let μ : Act → World → Nat := fun a w => if h : ∃ m, I m a w then (exists_least h).choose else 0
  have hμ : ∀ a w, (∃ m, I m a w) → I (μ a w) a w ∧ ∀ m, I m a w → μ a w ≤ m := by
    intro a w h
    have hs := (exists_least h).choose_spec
    simp only [μ, dif_pos h]
    exact ⟨hs.1, fun m hm => Nat.le_of_not_lt fun hlt => hs.2 m hlt hm⟩
  refine wpIn_loop (fun a w => ∃ m, I m a w) μ h₀ fun a w h => ?_
  refine wpIn_mono (round _ a w (hμ a w h).1) fun e a' w' hq => ?_
  cases e <;> try exact hq
  obtain ⟨m', hlt, hI⟩ := hq
  exact ⟨⟨m', hI⟩, Nat.lt_of_le_of_lt ((hμ a' w' ⟨m', hI⟩).2 m' hI) hlt⟩

theorem QR.after {d0 : List Deferred} {c c1 : Cx} {W W1 W2 : List Nat} {ts ts1 : List AV} {Q : AX → List AV → AH → Prop} (hL : Later c c1) (hA : Agree W1 ts ts1) (hs : ∀ t ∈ W1 ++ W2, t ∈ W) {e : Exit} {a : Act} {w : World} (h : QRd d0 E c1 W2 ts1 Q e a w) : QRd d0 E c W ts Q e a w := by
  obtain ⟨e', ts', c', H', h1, h2, h3, h4, h5, h6, h7, h8⟩ := h
  exact ⟨e', ts', c', H', h1, h2, h3, h4, h5, h6, hL.trans h7, (hA.trans h8).mono hs⟩

theorem wpC_soundIn {ro : Option Nat} {nn : Nat} {d0 : List Deferred} : ∀ (code : Code), (ro = none ∨ noScope code = true) → ∀ (n : Ann) (Q : AX → List AV → AH → Prop) (ts : List AV) (H : AH), wpC E P code n Q ts H → ∀ (c : Cx) (a : Act), HRel E c H → LRel E c ts a.tmps.toList → a.defers = d0 → code.wpIn (roundF ro) nn P (QRd d0 E c (Code.writes code) ts Q) a c.w := by
  intro code
  induction code with
  | skip =>
    intro hs n Q ts H h c a hH hr hd
    simp only [wpC] at h
    exact wpIn_skip ⟨.normal, ts, c, H, rfl, trivial, h, hH, hr, hd, Later.refl c, Agree.refl _ _⟩
  | region id ops draw =>
    intro hs n Q ts H h c a hH hr hd
    cases draw with
    | false =>
      simp only [wpC] at h
      exact region_sound h hH hr hd fun ts' H' c' a' h1 h2 h3 h4 h5 h6 => ⟨.normal, ts', c', H', rfl, trivial, h1, h2, h3, h4, h5, h6⟩
    | true =>
      cases n with
      | draw =>
        simp only [wpC] at h
        split at h
        · rename_i hok
          exact region_draw_sound hok h hH hr hd fun ts' H' c' a' h1 h2 h3 h4 h5 h6 => ⟨.normal, ts', c', H', rfl, trivial, h1, h2, h3, h4, h5, h6⟩
        · exact h.elim
      | free =>
        simp only [wpC] at h
        split at h
        · rename_i hok
          rw [Bool.and_eq_true] at hok
          exact region_draw_sound hok.1 (free_draw_W hok.1 hok.2 h) hH hr hd fun ts' H' c' a' h1 h2 h3 h4 h5 h6 => ⟨.normal, ts', c', H', rfl, trivial, h1, h2, h3, h4, h5, h6⟩
        · exact h.elim
      | _ => simp only [wpC] at h
  | seq x y ihx ihy =>
    intro hs n Q ts H h c a hH hr hd
    cases n with
    | seq j nx ny =>
      cases j with
      | none =>
        simp only [wpC] at h
        refine wpIn_seq (wpIn_mono (ihx (hs.imp id fun h => by simp only [noScope, Bool.and_eq_true] at h; exact h.1) nx _ ts H h c a hH hr hd) fun e a1 w1 hq => ?_)
        obtain ⟨e', ts1, c1, H1, rfl, he, hq, h1, h2, h3, h4, h5⟩ := hq
        cases e with
        | normal =>
          cases e' <;> simp only [exitRel] at he
          refine wpIn_mono (ihy (hs.imp id fun h => by simp only [noScope, Bool.and_eq_true] at h; exact h.2) ny Q ts1 H1 hq c1 a1 h1 h2 h3) fun e2 a2 w2 hq2 => ?_
          exact QR.after h4 h5 (fun t ht => by simpa [Code.writes] using ht) hq2
        | exit i => cases e' <;> simp only [exitRel] at he; subst he; exact ⟨.exit i, ts1, c1, H1, rfl, rfl, hq, h1, h2, h3, h4, h5.mono fun t ht => by simp [Code.writes, ht]⟩
        | ret => cases e' <;> simp only [exitRel] at he; exact ⟨.ret, ts1, c1, H1, rfl, trivial, hq, h1, h2, h3, h4, h5.mono fun t ht => by simp [Code.writes, ht]⟩
        | goto l => simp only [exitRel] at he
        | panic ch => simp only [exitRel] at he
        | outgrown => simp only [exitRel] at he
      | some l =>
        simp only [wpC] at h
        obtain ⟨J, hm, hle⟩ := h
        refine wpIn_seq (wpIn_mono (ihx (hs.imp id fun h => by simp only [noScope, Bool.and_eq_true] at h; exact h.1) nx _ ts H hm c a hH hr hd) fun e a1 w1 hq => ?_)
        obtain ⟨e', ts1, c1, H1, rfl, he, hq, h1, h2, h3, h4, h5⟩ := hq
        cases e with
        | normal =>
          cases e' <;> simp only [exitRel] at he
          obtain ⟨xs', H1', hlen, hgh, hJ⟩ := KN.app_of _ _ _ _ (by simp [looks]) hq
          obtain ⟨c1', hw1, hL1, hH1, hx1⟩ := hgh E c1 h1
          have hq' := KN.app_of _ _ _ _ hlen (KN.le_app _ _ _ _ _ hle hlen hJ)
          have hrel : LRel E c1' (fillW (Code.writes x) (junkL ts (Code.writes x)) l xs') a1.tmps.toList := by
            rw [junk_eq h5]; exact fill_rel _ l _ _ _ (LRel.le hL1.le _ _ (junk_rel _ _ _ h2)) (hx1 _ (looks_rel h2 l))
          rw [← hw1]
          refine wpIn_mono (ihy (hs.imp id fun h => by simp only [noScope, Bool.and_eq_true] at h; exact h.2) ny Q _ H1' hq' c1' a1 hH1 hrel h3) fun e2 a2 w2 hq2 => ?_
          exact QR.after (h4.trans hL1) (fill_agree _ _ _ _ _ (junk_agree _ _)) (fun t ht => by simpa [Code.writes] using ht) hq2
        | exit i => cases e' <;> simp only [exitRel] at he; subst he; exact ⟨.exit i, ts1, c1, H1, rfl, rfl, hq, h1, h2, h3, h4, h5.mono fun t ht => by simp [Code.writes, ht]⟩
        | ret => cases e' <;> simp only [exitRel] at he; exact ⟨.ret, ts1, c1, H1, rfl, trivial, hq, h1, h2, h3, h4, h5.mono fun t ht => by simp [Code.writes, ht]⟩
        | goto l => simp only [exitRel] at he
        | panic ch => simp only [exitRel] at he
        | outgrown => simp only [exitRel] at he
    | _ => simp only [wpC] at h
  | cond x a1 a2 ih1 ih2 =>
    intro hs n Q ts H h c a hH hr hd
    cases n with
    | two n1 n2 =>
      simp only [wpC] at h
      obtain ⟨b, hb, ht, hf⟩ := h
      have hv := ev_rel hH hr x
      rw [hb] at hv; simp only [VRel] at hv
      refine wpIn_cond_split hv (fun hbt => ?_) (fun hbf => ?_)
      · exact wpIn_mono (ih1 (hs.imp id fun h => by simp only [noScope, Bool.and_eq_true] at h; exact h.1) n1 Q ts H (ht hbt) c a hH hr hd) fun e a' w' hq => QR.after (W1 := []) (Later.refl c) (Agree.refl _ _) (fun t ht => by simp at ht; simp [Code.writes, ht]) hq
      · exact wpIn_mono (ih2 (hs.imp id fun h => by simp only [noScope, Bool.and_eq_true] at h; exact h.2) n2 Q ts H (hf hbf) c a hH hr hd) fun e a' w' hq => QR.after (W1 := []) (Later.refl c) (Agree.refl _ _) (fun t ht => by simp at ht; simp [Code.writes, ht]) hq
    | _ => simp only [wpC] at h
  | block id x ih =>
    intro hs n Q ts H h c a hH hr hd
    cases n with
    | one nx =>
      simp only [wpC] at h
      refine wpIn_block (wpIn_mono (ih (hs.imp (fun h => h) fun h => by simpa only [noScope] using h) nx _ ts H h c a hH hr hd) fun e a1 w1 hq => ?_)
      obtain ⟨e', ts1, c1, H1, rfl, he, hq, h1, h2, h3, h4, h5⟩ := hq
      cases e with
      | normal => cases e' <;> simp only [exitRel] at he; exact ⟨.normal, ts1, c1, H1, rfl, trivial, hq, h1, h2, h3, h4, h5⟩
      | exit i =>
        cases e' <;> simp only [exitRel] at he
        subst he
        simp only [Exit.inBlock, AX.inBlock] at hq ⊢
        split
        · rename_i hi; rw [if_pos hi] at hq; exact ⟨.normal, ts1, c1, H1, rfl, trivial, hq, h1, h2, h3, h4, h5⟩
        · rename_i hi; rw [if_neg hi] at hq; exact ⟨.exit i, ts1, c1, H1, rfl, rfl, hq, h1, h2, h3, h4, h5⟩
      | ret => cases e' <;> simp only [exitRel] at he; exact ⟨.ret, ts1, c1, H1, rfl, trivial, hq, h1, h2, h3, h4, h5⟩
      | goto l => simp only [exitRel] at he
      | panic ch => simp only [exitRel] at he
      | outgrown => simp only [exitRel] at he
    | _ => simp only [wpC] at h
  | scope x ih =>
    intro hs n Q ts H h c a hH hr hd
    cases n with
    | one nx =>
      simp only [wpC] at h
      have hs0 : ro = none := hs.resolve_right (by simp [noScope])
      subst hs0
      refine wpIn_wide.2 (wp_scope_straight (wpIn_wide.1 (wpIn_mono (ih (.inl rfl) nx _ ts H h c a hH hr hd) fun e a1 w1 hq => ?_)))
      obtain ⟨e', ts1, c1, H1, rfl, he, hq, h1, h2, h3, h4, h5⟩ := hq
      cases e with
      | normal => exact ⟨e', ts1, c1, H1, rfl, he, hq, h1, h2, h3, h4, h5⟩
      | exit i => exact ⟨e', ts1, c1, H1, rfl, he, hq, h1, h2, h3, h4, h5⟩
      | ret => exact ⟨e', ts1, c1, H1, rfl, he, hq, h1, h2, h3, h4, h5⟩
      | goto l => cases e' <;> simp only [exitRel] at he
      | panic ch => cases e' <;> simp only [exitRel] at he
      | outgrown => cases e' <;> simp only [exitRel] at he
    | _ => simp only [wpC] at h
  | loop x ih =>
    intro hs n Q ts H h c a hH hr hd
    cases n with
    | loop l nx =>
      simp only [wpC] at h
      obtain ⟨I, ⟨m0, hm0⟩, hbody⟩ := h
      refine wpIn_loop_left (fun m a' w' => ∃ ts' c' H', c'.w = w' ∧ KN.app l.length (KN.gh l.length (I m)) (looks ts' l) H' ∧ HRel E c' H' ∧ LRel E c' ts' a'.tmps.toList ∧ a'.defers = d0 ∧ Later c c' ∧ Agree (Code.writes x) ts ts')
        ⟨m0, ts, c, H, rfl, hm0, hH, hr, hd, Later.refl c, Agree.refl _ _⟩ ?_
      rintro m a1 w1 ⟨ts1, c0, H0, rfl, hI, h10, h2, h3, h40, h5⟩
      obtain ⟨xs', H1, hlen, hgh, hJ⟩ := KN.app_of _ _ _ _ (by simp [looks]) hI
      obtain ⟨c1, hw1, hL1, h1, hx1⟩ := hgh E c0 h10
      have h4 := h40.trans hL1
      have hb := KN.app_of _ _ _ _ hlen (KN.le_app _ _ _ _ _ (hbody m) hlen hJ)
      have hrel : LRel E c1 (fillW (Code.writes x) (junkL ts (Code.writes x)) l xs') a1.tmps.toList := by
        rw [junk_eq h5]; exact fill_rel _ l _ _ _ (LRel.le hL1.le _ _ (junk_rel _ _ _ h2)) (hx1 _ (looks_rel h2 l))
      have hag : Agree (Code.writes x) ts (fillW (Code.writes x) (junkL ts (Code.writes x)) l xs') := fill_agree _ _ _ _ _ (junk_agree _ _)
      rw [← hw1]
      refine wpIn_mono (ih (hs.imp id fun h => by simpa only [noScope] using h) nx _ _ H1 hb c1 a1 h1 hrel h3) fun e a2 w2 hq => ?_
      obtain ⟨e', ts2, c2, H2, rfl, he, hq, k1, k2, k3, k4, k5⟩ := hq
      have hag2 : Agree (Code.writes x) ts ts2 := (hag.trans k5).mono fun t ht => by simpa using ht
      cases e with
      | normal =>
        cases e' <;> simp only [exitRel] at he
        obtain ⟨m', hlt, hq⟩ := KN.app_of _ _ _ _ (by simp [looks]) hq
        exact ⟨m', hlt, ts2, c2, H2, rfl, hq, k1, k2, k3, h4.trans k4, hag2⟩
      | exit i => cases e' <;> simp only [exitRel] at he; subst he; exact ⟨.exit i, ts2, c2, H2, rfl, rfl, hq, k1, k2, k3, h4.trans k4, hag2⟩
      | ret => cases e' <;> simp only [exitRel] at he; exact ⟨.ret, ts2, c2, H2, rfl, trivial, hq, k1, k2, k3, h4.trans k4, hag2⟩
      | goto l => simp only [exitRel] at he
      | panic ch => simp only [exitRel] at he
      | outgrown => simp only [exitRel] at he
    | _ => simp only [wpC] at h
  | exit id =>
    intro hs n Q ts H h c a hH hr hd
    simp only [wpC] at h
    exact wpIn_exit ⟨.exit id, ts, c, H, rfl, rfl, h, hH, hr, hd, Later.refl c, Agree.refl _ _⟩
  | ret =>
    intro hs n Q ts H h c a hH hr hd
    simp only [wpC] at h
    exact wpIn_ret ⟨.ret, ts, c, H, rfl, trivial, h, hH, hr, hd, Later.refl c, Agree.refl _ _⟩
  | _ => intro hs n Q ts H h; simp only [wpC] at h

theorem wpC_sound (code : Code) (n : Ann) (Q : AX → List AV → AH → Prop) (ts : List AV) (H : AH) (h : wpC E P code n Q ts H) (c : Cx) (a : Act) (hH : HRel E c H) (hr : LRel E c ts a.tmps.toList) (hd : a.defers = []) : code.wp P (QR E c (Code.writes code) ts Q) a c.w :=
  wpIn_wide.1 (wpC_soundIn (ro := none) (nn := 0) code (.inl rfl) n Q ts H h c a hH hr hd)

def tmpV (a : Act) : ResultVar → Value
  | .tmp t => a.tmps.getD t undef
  | _ => undef
theorem results_list {ts : List AV} {c : Cx} {H : AH} {a : Act} (hH : HRel E c H) (hr : LRel E c ts a.tmps.toList) (f : ResultVar → Sem Value) (hf : ∀ t, f (.tmp t) = pure (a.tmps.getD t undef)) : ∀ (l : List ResultVar), l.all isTmpR = true →
    (l.mapM f).run P c.w = Result.ok (l.map (tmpV a)) c.w ∧ LRel E c (l.map (tmpA ts)) (l.map (tmpV a))
  | [], _ => ⟨by simp, by simp [LRel]⟩
  | .tmp t :: l, h => by
    obtain ⟨i1, i2⟩ := results_list hH hr f hf l (by simpa [isTmpR] using h)
    refine ⟨?_, ?_⟩
    · simp only [List.mapM_cons, hf, Sem.run_bind, Sem.run_pure, Result.andThen_ok, i1, List.map_cons, tmpV]
    · simp only [List.map_cons, LRel]
      exact ⟨_, _, rfl, by simpa [ev, Act.eval, tmpV, tmpA] using ev_rel hH hr (.tmp t), i2⟩
  | .cell ad t :: l, h => by simp [isTmpR] at h

def resF (tmps : Array Value) : ResultVar → Sem Value
  | .tmp t => pure (tmps.getD t undef)
  | .cell a t => do loadVar t (← asAddr (tmps.getD a undef))
theorem results_eq (fn : Func) (tmps : Array Value) : results fn tmps = (do
    let vs ← fn.results.mapM (resF tmps)
    pure (if h : vs.size = 1 then vs[0] else .tuple vs)) := by
  unfold results
  congr 1

theorem results_any {ts : List AV} {H : AH} {c : Cx} {a : Act} (hH : HRel E c H) (hr : LRel E c ts a.tmps.toList) (f : ResultVar → Sem Value) (hf : ∀ t, f (.tmp t) = pure (a.tmps.getD t undef)) (hg : ∀ ad t, f (.cell ad t) = (do loadVar t (← asAddr (a.tmps.getD ad undef)))) :
    ∀ (l : List ResultVar) (xs : List AV), allSome (l.map (retA P ts H)) = some xs → ∃ vs, (l.mapM f).run P c.w = Result.ok vs c.w ∧ LRel E c xs vs
  | [], xs, h => by simp [allSome] at h; subst h; exact ⟨[], by simp, by simp [LRel]⟩
  | r :: l, xs, h => by
    simp only [List.map_cons] at h
    cases hr1 : retA P ts H r with
    | none => rw [hr1] at h; simp [allSome] at h
    | some x =>
      rw [hr1] at h
      simp only [allSome, Option.map_eq_some_iff] at h
      obtain ⟨ys, hy, rfl⟩ := h
      obtain ⟨vs, i1, i2⟩ := results_any hH hr f hf hg l ys hy
      have key : ∃ v, (f r).run P c.w = Result.ok v c.w ∧ VRel E c x v := by
        cases r with
        | tmp t =>
          simp only [retA] at hr1; injection hr1 with hr1; subst hr1
          exact ⟨a.tmps.getD t undef, by simp [hf], by simpa [ev, Act.eval] using ev_rel hH hr (.tmp t)⟩
        | cell ad t =>
          simp only [retA] at hr1
          have hv : VRel E c (ts.getD ad undefA) (a.tmps.getD ad undef) := by simpa [ev, Act.eval] using ev_rel hH hr (.tmp ad)
          split at hr1
          · rename_i n ht
            obtain ⟨b, o', us, l', he, rfl, hlen, hl, hc⟩ := loadN_sound hH hr1 hv
            exact ⟨.agg us.toArray, by simp [hg, he, asAddr, run_loadVarN ht hlen hc], by simp only [VRel]; exact ⟨us, rfl, hl⟩⟩
          · rename_i n ht
            obtain ⟨b, o', u, he, hc, hu⟩ := load1_sound hH hr1 hv
            exact ⟨u, by simp [hg, he, asAddr, run_loadVar1 ht hc], hu⟩
          · cases hr1
      obtain ⟨v, k1, k2⟩ := key
      exact ⟨v :: vs, by simp only [List.mapM_cons, Sem.run_bind, k1, Result.andThen_ok, i1, Sem.run_pure], by simp only [LRel]; exact ⟨v, vs, rfl, k2, i2⟩⟩

theorem results_sound {fn : Func} {ts : List AV} {H : AH} {R : Kt} {c : Cx} {a : Act} (h : retW P fn ts H R) (hH : HRel E c H) (hr : LRel E c ts a.tmps.toList) : ∃ v r, (results fn a.tmps).run P c.w = .ok v c.w ∧ R r H ∧ VRel E c r v := by
  unfold retW at h
  split at h
  · rename_i t ht
    have hres : fn.results = #[.tmp t] := by
      have := congrArg List.toArray ht
      simpa using this
    refine ⟨a.tmps.getD t undef, _, ?_, h, by simpa [ev, Act.eval] using ev_rel hH hr (.tmp t)⟩
    simp [results, hres]
  · split at h
    · rename_i hc
      simp only [Bool.and_eq_true, bne_iff_ne] at hc
      refine ⟨.tuple (fn.results.toList.map (tmpV a)).toArray, _, ?_, h, ?_⟩
      · simp only [results, Array.mapM_eq_mapM_toList, Sem.run_bind, Sem.run_map]
        rw [(results_list (P := P) hH hr _ (fun t => rfl) fn.results.toList hc.1).1]
        simp only [Result.andThen_ok]
        have : ¬ ((fn.results.toList.map (tmpV a)).toArray.size = 1) := by simpa using hc.2
        rw [dif_neg this]
        rfl
      · simp only [VRel]; exact ⟨_, rfl, (results_list (P := P) hH hr (fun r => pure (tmpV a r)) (fun t => rfl) fn.results.toList hc.1).2⟩
    · obtain ⟨r, hp, hR⟩ := h
      unfold retPack at hp
      split at hp
      · rename_i x hx
        injection hp with hp; subst hp
        obtain ⟨vs, k1, k2⟩ := results_any (P := P) hH hr (resF a.tmps) (fun t => rfl) (fun ad t => rfl) fn.results.toList _ hx
        simp only [LRel] at k2
        obtain ⟨u, us, rfl, k2, rfl⟩ := k2
        refine ⟨u, x, ?_, hR, k2⟩
        simp only [results_eq, Array.mapM_eq_mapM_toList, Sem.run_bind, Sem.run_map]
        rw [k1]
        simp
      · rename_i xs hne hx
        injection hp with hp; subst hp
        obtain ⟨vs, k1, k2⟩ := results_any (P := P) hH hr (resF a.tmps) (fun t => rfl) (fun ad t => rfl) fn.results.toList _ hx
        refine ⟨.tuple vs.toArray, _, ?_, hR, by simp only [VRel]; exact ⟨vs, rfl, k2⟩⟩
        simp only [results_eq, Array.mapM_eq_mapM_toList, Sem.run_bind, Sem.run_map]
        rw [k1]
        simp only [Result.andThen_ok]
        have : ¬ (vs.toArray.size = 1) := by
          intro h1
          have hl := k2.length
          have : xs.length = 1 := by rw [hl]; simpa using h1
          obtain ⟨y, rfl⟩ := List.length_eq_one_iff.1 this
          exact hne y rfl
        rw [dif_neg this]
        rfl
      · cases hp

/-- A FUNCTION's CONTRACT OUT OF ITS CODE. -/
theorem calls_of_body {f : FuncId} {fn : Func} {n : Ann} {args : List AV} {H : AH} {R : Kt} (hf : P.funcs[f]? = some fn) (h : bodyW E P fn n args H R) {c : Cx} {vs : List Value} (hH : HRel E c H) (hv : LRel E c args vs) :
    Calls P f vs.toArray c.w fun e w' => ∃ r v c' H', e = .returned v ∧ c'.w = w' ∧ R r H' ∧ HRel E c' H' ∧ VRel E c' r v ∧ Later c c' := by
  unfold bodyW at h
  split at h
  · rename_i code hb
    refine calls_of_wp hf hb (wp_mono (wpC_sound code n _ _ H h c _ hH ?_ rfl) ?_)
    · have hlen := hv.length
      simp only [Array.toList_append, Array.toList_replicate, List.size_toArray]
      rw [hlen]
      exact hv.append (LRel.replicate (by simp [undefA, undef, VRel]) _)
    · rintro e a' w' ⟨e', ts', c', H', rfl, he, hq, h1, h2, h3, h4, h5⟩
      have fin : retW P fn ts' H' R → a'.defers = [] ∧ ∃ v, (results fn a'.tmps).run P c'.w = .ok v c'.w ∧ ∃ r u c'' H'', Ending.returned v = .returned u ∧ c''.w = c'.w ∧ R r H'' ∧ HRel E c'' H'' ∧ VRel E c'' r u ∧ Later c c'' := by
        intro hq
        obtain ⟨v, r, k1, k2, k3⟩ := results_sound (P := P) hq h1 h2
        exact ⟨h3, v, k1, r, v, c', H', rfl, rfl, k2, h1, k3, h4⟩
      cases e with
      | normal => cases e' <;> simp only [exitRel] at he; exact fin hq
      | ret => cases e' <;> simp only [exitRel] at he; exact fin hq
      | exit i => cases e' <;> simp only [exitRel] at he; exact hq.elim
      | goto l => simp only [exitRel] at he
      | panic ch => simp only [exitRel] at he
      | outgrown => simp only [exitRel] at he
  · exact h.elim

theorem acalls_of_body {k : Nat} {fn : Func} {n : Ann} {args : List AV} {H : AH} {R : Kt} (hf : P.funcs[E.fn k]? = some fn) (hn : (fn.name == "runtime.NumGoroutine") = false) (h : bodyW E P fn n args H R) : ACalls E P k args H R := by
  intro c vs hH hv o a next Q hnext
  have hb : fn.body.isNone = false := by
    unfold bodyW at h
    split at h
    · rename_i code hb; simp [hb]
    · exact h.elim
  have hrun : (callFunc (E.fn k) vs.toArray).run P c.w = .ok (.enter (E.fn k) vs.toArray) c.w := by
    have hn' : ¬ ((fn.name == "runtime.NumGoroutine") = true) := by rw [hn]; simp
    have hb' : ¬ (fn.body.isNone = true) := by rw [hb]; simp
    simp only [callFunc, Sem.run_bind, run_program, Result.andThen_ok, hf, if_neg hn', if_neg hb', Sem.run_pure]
  rw [hrun]
  simp only [Oper.upon]
  refine (calls_of_body hf h hH hv).mono ?_
  rintro e w' ⟨r, v, c', H', rfl, rfl, h1, h2, h3, h4⟩
  exact hnext v c'.w ⟨r, c', H', rfl, h1, h2, h3, h4⟩
end
end Go.Sc
namespace Go.Sc
open Go
/-! ### values without memory -/
mutual
def AV.flat : AV → Prop
  | .junk => True
  | .val _ => True
  | .ptrL _ _ _ => False
  | .ptrF _ _ => False
  | .slL _ _ _ _ => False
  | .slF _ _ _ => False
  | .slN _ _ => False
  | .slT _ _ _ _ => False
  | .agg cs => AV.flatL cs
  | .tup cs => AV.flatL cs
  | .ifc _ a => AV.flat a
  | .fn _ fs cs => AV.flatL fs ∧ AV.flatL cs
  | .mapL _ _ => False
  | .mapF _ _ => False
def AV.flatL : List AV → Prop
  | [] => True
  | x :: xs => AV.flat x ∧ AV.flatL xs
end
theorem AV.closedL_iff : ∀ {l : List AV}, AV.closedL l ↔ ∀ x ∈ l, x.closed
  | [] => by simp [AV.closedL]
  | x :: l => by simp [AV.closedL, AV.closedL_iff (l := l)]
/-- what is frozen stays -/
structure Cx.fle (c c' : Cx) : Prop where
  fz : ∀ b, c.fz b → c'.fz b ∧ c'.w.heap[b]? = c.w.heap[b]?
  fc : ∀ b o, c.fc b o → (c'.fz b ∨ c'.fc b o) ∧ c'.w.cell? ⟨b, o, none⟩ = c.w.cell? ⟨b, o, none⟩
theorem Cx.le.fle {c c' : Cx} (h : c.le c') : c.fle c' := ⟨h.fz, h.fc⟩
theorem Cx.fle.cell {c c' : Cx} (h : c.fle c') {b o : Nat} (hf : c.fz b ∨ c.fc b o) : (c'.fz b ∨ c'.fc b o) ∧ c'.w.cell? ⟨b, o, none⟩ = c.w.cell? ⟨b, o, none⟩ := by
  rcases hf with hf | hf
  · exact ⟨.inl (h.fz b hf).1, cell_of_heap (h.fz b hf).2 _ _⟩
  · exact h.fc b o hf

mutual
theorem VRel.fle {E : Env} {c c' : Cx} (h : c.fle c') : ∀ (a : AV) (v : Value), a.closed → VRel E c a v → VRel E c' a v
  | .junk, _, _, _ => by simp [VRel]
  | .val u, v, _, r => by simpa [VRel] using r
  | .ptrL b off g, v, k, r => by simp [AV.closed] at k
  | .ptrF cs off, v, k, r => by
    simp only [VRel] at r ⊢
    obtain ⟨b, o, rfl, hc⟩ := r
    exact ⟨b, o, rfl, CRel.fle h cs b o (by simpa [AV.closed] using k) hc⟩
  | .slL b off len g, v, k, r => by simp [AV.closed] at k
  | .slF cs off len, v, k, r => by
    simp only [VRel] at r ⊢
    obtain ⟨p, cap, rfl, hl, r⟩ := r
    refine ⟨p, cap, rfl, hl, r.imp id ?_⟩
    rintro ⟨b, o, rfl, hc⟩
    exact ⟨b, o, rfl, CRel.fle h cs b o (by simpa [AV.closed] using k) hc⟩
  | .slN cs len, v, k, r => by
    simp only [VRel] at r ⊢
    refine r.imp id ?_
    rintro ⟨p, cap, rfl, hl, r⟩
    refine ⟨p, cap, rfl, hl, r.imp id ?_⟩
    rintro ⟨b, o, rfl, hc⟩
    exact ⟨b, o, rfl, CRel.fle h cs b o (by simpa [AV.closed] using k) hc⟩
  | .slT b cs len g, v, k, r => by simp [AV.closed] at k
  | .agg cs, v, k, r => by
    simp only [VRel] at r ⊢
    obtain ⟨vs, rfl, hl⟩ := r
    exact ⟨vs, rfl, LRel.fle h cs vs (by simpa [AV.closed] using k) hl⟩
  | .tup cs, v, k, r => by
    simp only [VRel] at r ⊢
    obtain ⟨vs, rfl, hl⟩ := r
    exact ⟨vs, rfl, LRel.fle h cs vs (by simpa [AV.closed] using k) hl⟩
  | .ifc _ a, v, k, r => by
    simp only [VRel] at r ⊢
    obtain ⟨u, rfl, hk, hl⟩ := r
    exact ⟨u, rfl, hk, VRel.fle h a u (by simpa [AV.closed] using k) hl⟩
  | .fn _ fs cs, v, k, r => by
    simp only [VRel] at r ⊢
    simp only [AV.closed] at k
    obtain ⟨gs, ds, rfl, h1, h2⟩ := r
    exact ⟨gs, ds, rfl, LRel.fle h fs gs k.1 h1, LRel.fle h cs ds k.2 h2⟩
  | .mapL b g, v, k, r => by simp [AV.closed] at k
  | .mapF ks xs, v, k, r => by
    simp only [VRel] at r ⊢
    simp only [AV.closed] at k
    obtain ⟨m, es, clock, rfl, hf, hm, h1, h2⟩ := r
    exact ⟨m, es, clock, rfl, (h.fz m hf).1, by rw [(h.fz m hf).2]; exact hm, LRel.fle h ks _ k.1 h1, LRel.fle h xs _ k.2 h2⟩
theorem LRel.fle {E : Env} {c c' : Cx} (h : c.fle c') : ∀ (xs : List AV) (vs : List Value), AV.closedL xs → LRel E c xs vs → LRel E c' xs vs
  | [], vs, _, r => by simpa [LRel] using r
  | x :: xs, vs, k, r => by
    simp only [LRel] at r ⊢
    simp only [AV.closedL] at k
    obtain ⟨u, us, rfl, h1, h2⟩ := r
    exact ⟨u, us, rfl, VRel.fle h x u k.1 h1, LRel.fle h xs us k.2 h2⟩
theorem CRel.fle {E : Env} {c c' : Cx} (h : c.fle c') : ∀ (xs : List AV) (b o : Nat), AV.closedL xs → CRel E c xs b o → CRel E c' xs b o
  | [], _, _, _, _ => by simp [CRel]
  | x :: xs, b, o, k, r => by
    simp only [CRel] at r ⊢
    simp only [AV.closedL] at k
    obtain ⟨⟨hf, u, h1, h2⟩, h3⟩ := r
    obtain ⟨k1, k2⟩ := h.cell hf
    exact ⟨⟨k1, u, by rw [k2]; exact h1, VRel.fle h x u k.1 h2⟩, CRel.fle h xs b (o + 1) k.2 h3⟩
end
mutual
theorem VRel.ofFlat {E : Env} {c c' : Cx} : ∀ (a : AV) (v : Value), a.flat → VRel E c a v → VRel E c' a v
  | .junk, _, _, _ => by simp [VRel]
  | .val u, v, _, r => by simpa [VRel] using r
  | .ptrL b off g, v, k, r => by simp [AV.flat] at k
  | .ptrF cs off, v, k, r => by simp [AV.flat] at k
  | .slL b off len g, v, k, r => by simp [AV.flat] at k
  | .slF cs off len, v, k, r => by simp [AV.flat] at k
  | .slN cs len, v, k, r => by simp [AV.flat] at k
  | .slT b cs len g, v, k, r => by simp [AV.flat] at k
  | .agg cs, v, k, r => by
    simp only [VRel] at r ⊢
    obtain ⟨vs, rfl, hl⟩ := r
    exact ⟨vs, rfl, LRel.ofFlat cs vs (by simpa [AV.flat] using k) hl⟩
  | .tup cs, v, k, r => by
    simp only [VRel] at r ⊢
    obtain ⟨vs, rfl, hl⟩ := r
    exact ⟨vs, rfl, LRel.ofFlat cs vs (by simpa [AV.flat] using k) hl⟩
  | .ifc _ a, v, k, r => by
    simp only [VRel] at r ⊢
    obtain ⟨u, rfl, hk, hl⟩ := r
    exact ⟨u, rfl, hk, VRel.ofFlat a u (by simpa [AV.flat] using k) hl⟩
  | .fn _ fs cs, v, k, r => by
    simp only [VRel] at r ⊢
    simp only [AV.flat] at k
    obtain ⟨gs, ds, rfl, h1, h2⟩ := r
    exact ⟨gs, ds, rfl, LRel.ofFlat fs gs k.1 h1, LRel.ofFlat cs ds k.2 h2⟩
  | .mapL b g, v, k, r => by simp [AV.flat] at k
  | .mapF ks xs, v, k, r => by simp [AV.flat] at k
theorem LRel.ofFlat {E : Env} {c c' : Cx} : ∀ (xs : List AV) (vs : List Value), AV.flatL xs → LRel E c xs vs → LRel E c' xs vs
  | [], vs, _, r => by simpa [LRel] using r
  | x :: xs, vs, k, r => by
    simp only [LRel] at r ⊢
    simp only [AV.flatL] at k
    obtain ⟨u, us, rfl, h1, h2⟩ := r
    exact ⟨u, us, rfl, VRel.ofFlat x u k.1 h1, LRel.ofFlat xs us k.2 h2⟩
end
/-! ### freezing -/
def Cx.kill (c : Cx) (S : Nat → Bool) : Cx :=
  { c with gen := fun i => if S i then none else c.gen i, fz := fun k => c.fz k ∨ ∃ b, c.gen b ≠ none ∧ S b = true ∧ c.al b = k }
theorem Cx.kill_le (c : Cx) (S : Nat → Bool) : c.le (c.kill S) where
  ctr := Nat.le_refl _
  fz := fun _ h => ⟨.inl h, rfl⟩
  fc := fun _ _ h => ⟨.inr h, rfl⟩
  gen := fun b g hg e => by
    simp only [Cx.kill] at e ⊢
    split at e
    · cases e
    · simp [e]
  room := fun _ _ _ _ _ h => h
theorem Later.kill (c : Cx) (S : Nat → Bool) : Later c (c.kill S) where
  le := c.kill_le S
  os := rfl
  tape := rfl
  output := rfl
  size := Nat.le_refl _
  keep := fun _ _ _ => rfl
  own := fun b hb => .inl ⟨b, fun e => hb (by simp only [Cx.kill]; split <;> simp [e]), rfl⟩
  fz := fun k hk => by
    rcases hk with hk | ⟨b, hb, _, he⟩
    · exact .inl hk
    · exact .inr (.inr ⟨b, hb, he⟩)
  fc := fun _ _ h => .inl h

/-- what a value is told as -/
def Fk (H : AH) (S : Nat → Bool) (x x' : AV) : Prop := ∀ (E : Env) (c : Cx), HRel E c H → ∀ v, VRel E c x v → VRel E (c.kill S) x' v
inductive FkL (H : AH) (S : Nat → Bool) : List AV → List AV → Prop where
  | nil : FkL H S [] []
  | cons {x x' : AV} {xs xs' : List AV} : Fk H S x x' → FkL H S xs xs' → FkL H S (x :: xs) (x' :: xs')

theorem FkL.rel {H : AH} {S : Nat → Bool} {E : Env} {c : Cx} (hH : HRel E c H) : ∀ {xs xs' : List AV}, FkL H S xs xs' → ∀ {vs}, LRel E c xs vs → LRel E (c.kill S) xs' vs
  | [], _, .nil, vs, h => by simpa [LRel] using h
  | x :: xs, _, .cons h1 h2, vs, h => by
    simp only [LRel] at h ⊢
    obtain ⟨u, us, rfl, a, b⟩ := h
    exact ⟨u, us, rfl, h1 E c hH u a, FkL.rel hH h2 b⟩

theorem crel_of_cells {E : Env} {c : Cx} {xs : List AV} {vs : List Value} {b o : Nat} {arr : List Value} {e : TypeId} (h : LRel E c xs vs) (hf : c.fz b) (hw : c.w.heap[b]? = some (.cells arr.toArray e (0, 0))) (ha : ∀ i v, vs[i]? = some v → arr[o + i]? = some v) : CRel E c xs b o :=
  CRel.of fun i x hi => by
    obtain ⟨u, h1, h2⟩ := h.get hi
    refine ⟨.inl hf, u, ?_, h2⟩
    simp only [World.cell?, hw]
    simpa using ha i u h1

section
variable {H : AH} {S : Nat → Bool}
theorem Fk.same (x : AV) : Fk H S x x := fun _ c _ v h => VRel.le (c.kill_le S) x v h
theorem Fk.sub {x y : AV} (h : Sub x y) : Fk H S x y := fun E c _ v r => h E _ v (VRel.le (c.kill_le S) x v r)
theorem Fk.then {x y z : AV} (h : Fk H S x y) (k : Sub y z) : Fk H S x z := fun E c hH v r => k E _ v (h E c hH v r)
theorem FkL.same : ∀ xs : List AV, FkL H S xs xs
  | [] => .nil
  | _ :: xs => .cons (.same _) (FkL.same xs)
theorem FkL.append : ∀ {xs xs' ys ys' : List AV}, FkL H S xs xs' → FkL H S ys ys' → FkL H S (xs ++ ys) (xs' ++ ys')
  | _, _, _, _, .nil, h => h
  | _, _, _, _, .cons h1 h2, h => .cons h1 (FkL.append h2 h)
theorem Fk.agg {xs xs' : List AV} (h : FkL H S xs xs') : Fk H S (.agg xs) (.agg xs') := fun E c hH v r => by
  simp only [VRel] at r ⊢
  obtain ⟨vs, rfl, hl⟩ := r
  exact ⟨vs, rfl, h.rel hH hl⟩
theorem Fk.tup {xs xs' : List AV} (h : FkL H S xs xs') : Fk H S (.tup xs) (.tup xs') := fun E c hH v r => by
  simp only [VRel] at r ⊢
  obtain ⟨vs, rfl, hl⟩ := r
  exact ⟨vs, rfl, h.rel hH hl⟩
theorem Fk.ifc {k : Nat} {x x' : AV} (h : Fk H S x x') : Fk H S (.ifc k x) (.ifc k x') := fun E c hH v r => by
  simp only [VRel] at r ⊢
  obtain ⟨u, rfl, hk, hl⟩ := r
  exact ⟨u, rfl, hk, h E c hH u hl⟩
theorem Fk.fn {k : Nat} {fs fs' cs cs' : List AV} (h : FkL H S fs fs') (h' : FkL H S cs cs') : Fk H S (.fn k fs cs) (.fn k fs' cs') := fun E c hH v r => by
  simp only [VRel] at r ⊢
  obtain ⟨gs, ds, rfl, h1, h2⟩ := r
  exact ⟨gs, ds, rfl, h.rel hH h1, h'.rel hH h2⟩
theorem Fk.cells {b g sz : Nat} {cs ys : List AV} {off k : Nat} (hb : H.bs[b]? = some (.cells g sz cs)) (hs : S b = true) (hy : FkL H S ((cs.drop off).take k) ys)
    {E : Env} {c : Cx} (hH : HRel E c H) : CRel E (c.kill S) ys (c.al b) (c.base b + off) := by
  have hB := hH.blk b _ hb
  simp only [BRel] at hB
  obtain ⟨h1, h2, h3, arr, e, h4, h5, p0, pre, rest, rfl, h7, h8⟩ := hB
  refine crel_of_cells (hy.rel hH ((h8.drop off).take k)) (.inr ⟨b, by rw [h2]; simp, hs, rfl⟩) h4 fun i v hi => ?_
  rw [List.getElem?_take] at hi
  split at hi
  · rw [List.getElem?_drop] at hi
    have := lt_of_get hi
    rw [List.append_assoc, List.getElem?_append_right (by omega), ← hi, List.getElem?_append_left (by omega)]
    congr 1; omega
  · cases hi
/-- a slice of a block is frozen -/
theorem Fk.slF {b g sz : Nat} {cs ys : List AV} {off len : Nat} (k : Nat) (hb : H.bs[b]? = some (.cells g sz cs)) (hs : S b = true) (hy : FkL H S ((cs.drop off).take k) ys) : Fk H S (.slL b off len g) (.slF ys 0 len) := fun E c hH v r => by
  have q2 := Fk.cells hb hs hy hH
  simp only [VRel] at r ⊢
  obtain ⟨_, p, cap, rfl, hl, r⟩ := r
  refine ⟨p, cap, rfl, hl, (r (hH.live hb).1).imp id ?_⟩
  rintro ⟨rfl, _⟩
  exact ⟨c.al b, c.base b + off, by simp, q2⟩
theorem Fk.ptrF {b g sz : Nat} {cs ys : List AV} {off : Nat} (k : Nat) (hb : H.bs[b]? = some (.cells g sz cs)) (hs : S b = true) (hy : FkL H S ((cs.drop off).take k) ys) : Fk H S (.ptrL b off g) (.ptrF ys 0) := fun E c hH v r => by
  have q2 := Fk.cells hb hs hy hH
  simp only [VRel] at r ⊢
  obtain ⟨_, p, rfl, r⟩ := r
  rw [r (hH.live hb).1]
  exact ⟨c.al b, c.base b + off, by simp, q2⟩
theorem Fk.mapF {b g : Nat} {ks xs ks' xs' : List AV} (hb : H.bs[b]? = some (.map g ks xs)) (hs : S b = true) (hk : FkL H S ks ks') (hx : FkL H S xs xs') : Fk H S (.mapL b g) (.mapF ks' xs') := fun E c hH v r => by
  have hB := hH.blk b _ hb
  simp only [BRel] at hB
  obtain ⟨h1, h2, es, clock, h4, h5, h6⟩ := hB
  simp only [VRel] at r ⊢
  obtain ⟨_, p, rfl, r⟩ := r
  exact ⟨p, es, clock, rfl, .inr ⟨b, by rw [h2]; simp, hs, (r h2).symm⟩, by rw [r h2]; exact h4, hk.rel hH h5, hx.rel hH h6⟩
end
/-- a block that stays -/
def KB (H : AH) (S : Nat → Bool) : Blk → Blk → Prop
  | .cells g sz cs, .cells g1 sz1 cs1 => g1 = g ∧ sz1 = sz ∧ FkL H S (cs.take cs1.length) cs1
  | .map g ks xs, .map g1 ks1 xs1 => g1 = g ∧ FkL H S ks ks1 ∧ FkL H S xs xs1
  | .tail g sz, .tail g1 sz1 => g1 = g ∧ sz1 = sz
  | .obj g o, .obj g1 o1 => g1 = g ∧ o1 = o
  | .dead, .dead => True
  | _, _ => False
theorem KB.same {H : AH} {S : Nat → Bool} : ∀ x, KB H S x x
  | .cells _ _ _ => ⟨rfl, rfl, by rw [List.take_length]; exact FkL.same _⟩
  | .map _ _ _ => ⟨rfl, FkL.same _, FkL.same _⟩
  | .tail _ _ => ⟨rfl, rfl⟩
  | .obj _ _ => ⟨rfl, rfl⟩
  | .dead => trivial
/-- the cells behind are forgotten -/
theorem KB.cut {H : AH} {S : Nat → Bool} {g sz n : Nat} {cs : List AV} (h : n ≤ cs.length) : KB H S (.cells g sz cs) (.cells g sz (cs.take n)) :=
  ⟨rfl, rfl, by rw [List.length_take, Nat.min_eq_left h]; exact FkL.same _⟩
theorem KB.kind {H : AH} {S : Nat → Bool} {x x' : Blk} (h : KB H S x x') : (x' = .dead ↔ x = .dead) ∧ x'.isTail = x.isTail := by
  cases x <;> cases x' <;> simp_all [KB, Blk.isTail]
theorem KB.brel {H : AH} {S : Nat → Bool} {E : Env} {c : Cx} (hH : HRel E c H) {i : Nat} {x x' : Blk} (hx : H.bs[i]? = some x) (hs : S i = false) (h : KB H S x x') : BRel E (c.kill S) i x' := by
  have hB := hH.blk i x hx
  have hg : (c.kill S).gen i = c.gen i := by simp [Cx.kill, hs]
  cases x with
  | cells g sz cs =>
    cases x' with
    | cells g1 sz1 cs1 =>
      obtain ⟨rfl, rfl, h3⟩ := h
      obtain ⟨a1, a2, a3, arr, e, a4, a5, p0, pre, rest, a6, a7, a8⟩ := hB
      exact ⟨a1, hg.trans a2, a3, arr, e, a4, a5, p0, pre.take cs1.length, pre.drop cs1.length ++ rest, by rw [a6, List.append_assoc, List.append_assoc, ← List.append_assoc (pre.take _), List.take_append_drop], a7, h3.rel hH (a8.take _)⟩
    | _ => exact h.elim
  | map g ks vs =>
    cases x' with
    | map g1 ks1 vs1 =>
      obtain ⟨rfl, h3, h4⟩ := h
      obtain ⟨a1, a2, es, clock, a4, a5, a6⟩ := hB
      exact ⟨a1, hg.trans a2, es, clock, a4, h3.rel hH a5, h4.rel hH a6⟩
    | _ => exact h.elim
  | tail g sz =>
    cases x' with
    | tail g1 sz1 =>
      obtain ⟨rfl, rfl⟩ := h
      obtain ⟨a1, a2, a3⟩ := hB
      exact ⟨a1, hg.trans a2, a3⟩
    | _ => exact h.elim
  | obj g o =>
    cases x' with
    | obj g1 o1 =>
      obtain ⟨rfl, rfl⟩ := h
      obtain ⟨a1, a2, a3⟩ := hB
      exact ⟨a1, hg.trans a2, a3⟩
    | _ => exact h.elim
  | dead =>
    cases x' with
    | dead => exact hg.trans hB
    | _ => exact h.elim

/-- what a list of blocks is told as: block by block, from the i-th on -/
inductive KBL (H : AH) (S : Nat → Bool) : Nat → List Blk → List Blk → Prop where
  | nil {i : Nat} : KBL H S i [] []
  | keep {i : Nat} {x x' : Blk} {l l' : List Blk} : S i = false → KB H S x x' → KBL H S (i + 1) l l' → KBL H S i (x :: l) (x' :: l')
  | dead {i : Nat} {x : Blk} {l l' : List Blk} : S i = true → KBL H S (i + 1) l l' → KBL H S i (x :: l) (.dead :: l')
  | cut {i : Nat} {l : List Blk} : (∀ j x, l[j]? = some x → S (i + j) = true ∨ x = .dead) → KBL H S i l []
  | room {i : Nat} {l' : List Blk} : (∀ x ∈ l', x = .dead) → KBL H S i [] l'
theorem KBL.get {H : AH} {S : Nat → Bool} {i : Nat} {l l' : List Blk} (h : KBL H S i l l') : ∀ (j : Nat),
    (∀ x', l'[j]? = some x' → (x' = .dead ∧ (S (i + j) = true ∨ l[j]? = none)) ∨ (∃ x, l[j]? = some x ∧ S (i + j) = false ∧ KB H S x x')) ∧
    (l'[j]? = none → ∀ x, l[j]? = some x → S (i + j) = true ∨ x = .dead) := by
  induction h with
  | nil => intro j; simp
  | keep h1 h2 _ ih =>
    intro j
    cases j with
    | zero => simp; exact .inr ⟨h1, h2⟩
    | succ j =>
      have := ih j
      simpa [Nat.add_assoc, Nat.add_comm 1 j] using this
  | dead h1 _ ih =>
    intro j
    cases j with
    | zero => simp [h1]
    | succ j =>
      have := ih j
      simpa [Nat.add_assoc, Nat.add_comm 1 j] using this
  | cut h =>
    intro j
    simpa using h j
  | room h =>
    intro j
    refine ⟨fun x' hx => .inl ⟨h x' (List.mem_of_getElem? hx), .inr (by simp)⟩, fun _ x hx => by simp at hx⟩

theorem ghost_kill {H H' : AH} {S : Nat → Bool} (hc : H'.ctr = H.ctr) (h : KBL H S 0 H.bs H'.bs) {xs xs' : List AV} (hx : FkL H S xs xs') : Ghost xs H xs' H' := by
  intro E c hH
  have hle := c.kill_le S
  have hget := h.get
  simp only [Nat.zero_add] at hget
  have hg : ∀ i, (c.kill S).gen i ≠ none → c.gen i ≠ none ∧ S i = false := by
    intro i hi
    simp only [Cx.kill] at hi
    split at hi
    · exact absurd rfl hi
    · rename_i hs; exact ⟨hi, by simpa using hs⟩
  refine ⟨c.kill S, rfl, Later.kill c S, ⟨by rw [hc]; exact hH.ctr, ?_, ?_, ?_, ?_, ?_, ?_, ?_, ?_, hH.globLe hle⟩, fun vs r => hx.rel hH r⟩
  · intro i hi
    simp only [Cx.kill]
    split
    · rfl
    · rename_i hs
      cases hx : H.bs[i]? with
      | none => exact hH.out i hx
      | some x =>
        rcases (hget i).2 hi x hx with h1 | rfl
        · exact absurd h1 hs
        · exact hH.blk i _ hx
  · intro i x' hi
    rcases (hget i).1 x' hi with ⟨rfl, h1⟩ | ⟨x, h1, h2, h3⟩
    · show (c.kill S).gen i = none
      simp only [Cx.kill]
      rcases h1 with h1 | h1
      · simp [h1]
      · rw [hH.out i h1]; simp
    · exact h3.brel hH h1 h2
  · intro i hi hfz
    obtain ⟨h1, h2⟩ := hg i hi
    rcases hfz with hfz | ⟨b, hb, hs, he⟩
    · exact hH.apart i h1 hfz
    · have := hH.inj b i hb h1 he
      subst this
      rw [h2] at hs; cases hs
  · intro i x' hi hd ht j
    rcases (hget i).1 x' hi with ⟨rfl, h1⟩ | ⟨x, h1, h2, h3⟩
    · exact absurd rfl hd
    · obtain ⟨k1, k2⟩ := h3.kind
      exact hH.solid i x h1 (fun e => hd (k1.2 e)) (k2 ▸ ht) j
  · intro i j hi hj he
    exact hH.inj i j (hg i hi).1 (hg j hj).1 he
  · intro i hi
    exact hH.lt i (hg i hi).1
  · intro k hk
    rcases hk with hk | ⟨b, hb, _, he⟩
    · exact hH.fzlt k hk
    · rw [← he]; exact hH.lt b hb
  · exact hH.fclt

def S0 : Nat → Bool := fun _ => true
/-- all blocks are frozen -/
theorem ghost_all {H : AH} {xs xs' : List AV} (hx : FkL H S0 xs xs') : Ghost xs H xs' ⟨[], H.ctr⟩ :=
  ghost_kill (H := H) (H' := ⟨[], H.ctr⟩) (S := S0) rfl (.cut fun _ _ _ => .inl rfl) hx
theorem ghost_sub {H : AH} {xs xs' : List AV} (h : SubL xs xs') : Ghost xs H xs' H := fun _ c hH => ⟨c, rfl, Later.refl c, hH, fun _ r => h.rel r⟩

/-! ### contracts -/
section
variable {E : Env} {P : Program}
theorem ACalls.mono {k : Nat} {args : List AV} {H : AH} {R R' : Kt} (h : ACalls E P k args H R) (hR : ∀ r H', R r H' → ∃ r' H'', Ghost [r] H' [r'] H'' ∧ R' r' H'') : ACalls E P k args H R' := by
  intro c vs hH hv o a next Q hn
  refine h c vs hH hv o a next Q fun v w' hvw => hn v w' ?_
  obtain ⟨r, c', H', rfl, h1, h2, h3, h4⟩ := hvw
  obtain ⟨r', H'', hg, hr⟩ := hR r H' h1
  obtain ⟨c'', g1, g2, g3, g4⟩ := hg E c' h2
  have := g4 [v] (by simp only [LRel]; exact ⟨v, [], rfl, h3, rfl⟩)
  simp only [LRel] at this
  obtain ⟨u, us, he, hu, _⟩ := this
  injection he with he _
  subst he
  exact ⟨r', c'', H'', g1, hr, g3, hu, h4.trans g2⟩
theorem ACalls.args {k : Nat} {args args' : List AV} {H H' : AH} {R : Kt} (hg : Ghost args H args' H') (h : ACalls E P k args' H' R) : ACalls E P k args H R := by
  intro c vs hH hv o a next Q hn
  obtain ⟨c', g1, g2, g3, g4⟩ := hg E c hH
  rw [← g1]
  refine h c' vs g3 (g4 vs hv) o a next Q fun v w' hvw => hn v w' ?_
  obtain ⟨r, c'', H'', rfl, h1, h2, h3, h4⟩ := hvw
  exact ⟨r, c'', H'', rfl, h1, h2, h3, g2.trans h4⟩

/-- what a call comes to: of blocks 'B' of the caller's, that it may write -/
structure LC (E : Env) (P : Program) (k : Nat) (B : List Blk) (args : List AV) (R0 : AV → List Blk → Prop) : Prop where
  ok : ∀ n, ACalls E P k args ⟨B, n⟩ fun r H' => R0 r H'.bs ∧ H'.bs.length = B.length
theorem LC.mono {k : Nat} {B : List Blk} {args : List AV} {R0 R1 : AV → List Blk → Prop} (h : LC E P k B args R0) (hR : ∀ r B', R0 r B' → R1 r B') : LC E P k B args R1 where
  ok := fun n => (h.ok n).mono fun r H' hr => ⟨r, H', .refl _ _, hR _ _ hr.1, hr.2⟩
/-- of a body -/
theorem LC.of {k : Nat} {B : List Blk} {args : List AV} {R0 : AV → List Blk → Prop}
    (h : ∀ n (R : Kt), (∀ r r' B' (H H' : AH), Ghost [r] H [r'] H' → H'.bs = B' → R0 r' B' → B'.length = B.length → R r H) → ACalls E P k args ⟨B, n⟩ R) : LC E P k B args R0 where
  ok := fun n => (h n (fun r H => ∃ r' H', Ghost [r] H [r'] H' ∧ R0 r' H'.bs ∧ H'.bs.length = B.length) fun r r' B' H H' hg hb hr hl => ⟨r', H', hg, by rw [hb]; exact hr, by rw [hb]; exact hl⟩).mono fun r H' ⟨r', H'', h1, h2, h3⟩ => ⟨r', H'', h1, h2, h3⟩
end
end Go.Sc
namespace Go.Sc
open Go
mutual
/-- blocks told by other numbers -/
def AV.ren (f : Nat → Nat) : AV → AV
  | .junk => .junk
  | .val v => .val v
  | .ptrL b off g => .ptrL (f b) off g
  | .ptrF cs off => .ptrF (AV.renL f cs) off
  | .slL b off len g => .slL (f b) off len g
  | .slF cs off len => .slF (AV.renL f cs) off len
  | .slN cs len => .slN (AV.renL f cs) len
  | .slT b cs len g => .slT (f b) (AV.renL f cs) len g
  | .agg cs => .agg (AV.renL f cs)
  | .tup cs => .tup (AV.renL f cs)
  | .ifc k a => .ifc k (AV.ren f a)
  | .fn k fs cs => .fn k (AV.renL f fs) (AV.renL f cs)
  | .mapL b g => .mapL (f b) g
  | .mapF ks xs => .mapF (AV.renL f ks) (AV.renL f xs)
def AV.renL (f : Nat → Nat) : List AV → List AV
  | [] => []
  | x :: xs => AV.ren f x :: AV.renL f xs
end
def Blk.ren (f : Nat → Nat) : Blk → Blk
  | .cells g sz cs => .cells g sz (AV.renL f cs)
  | .map g ks xs => .map g (AV.renL f ks) (AV.renL f xs)
  | .tail g sz => .tail g sz
  | .obj g o => .obj g o
  | .dead => .dead
theorem Blk.ren_dead {f : Nat → Nat} {x : Blk} : x.ren f = .dead ↔ x = .dead := by cases x <;> simp [Blk.ren]
theorem Blk.ren_tail {f : Nat → Nat} {x : Blk} : (x.ren f).isTail = x.isTail := by cases x <;> rfl
mutual
theorem AV.ren_closed {f : Nat → Nat} : ∀ (a : AV), a.closed → a.ren f = a
  | .junk, _ => rfl
  | .val _, _ => rfl
  | .ptrL _ _ _, h => by simp [AV.closed] at h
  | .ptrF cs off, h => by simp only [AV.ren, AV.closed] at h ⊢; rw [AV.renL_closed cs h]
  | .slL _ _ _ _, h => by simp [AV.closed] at h
  | .slF cs _ _, h => by simp only [AV.ren, AV.closed] at h ⊢; rw [AV.renL_closed cs h]
  | .slN cs _, h => by simp only [AV.ren, AV.closed] at h ⊢; rw [AV.renL_closed cs h]
  | .slT _ _ _ _, h => by simp [AV.closed] at h
  | .agg cs, h => by simp only [AV.ren, AV.closed] at h ⊢; rw [AV.renL_closed cs h]
  | .tup cs, h => by simp only [AV.ren, AV.closed] at h ⊢; rw [AV.renL_closed cs h]
  | .ifc k a, h => by simp only [AV.ren, AV.closed] at h ⊢; rw [AV.ren_closed a h]
  | .fn k fs cs, h => by simp only [AV.ren, AV.closed] at h ⊢; rw [AV.renL_closed fs h.1, AV.renL_closed cs h.2]
  | .mapL _ _, h => by simp [AV.closed] at h
  | .mapF ks xs, h => by simp only [AV.ren, AV.closed] at h ⊢; rw [AV.renL_closed ks h.1, AV.renL_closed xs h.2]
theorem AV.renL_closed {f : Nat → Nat} : ∀ (l : List AV), AV.closedL l → AV.renL f l = l
  | [], _ => rfl
  | x :: xs, h => by simp only [AV.renL, AV.closedL] at h ⊢; rw [AV.ren_closed x h.1, AV.renL_closed xs h.2]
end
theorem AV.renL_map (f : Nat → Nat) : ∀ l : List AV, AV.renL f l = l.map (AV.ren f)
  | [] => rfl
  | x :: xs => by simp [AV.renL, AV.renL_map f xs]
theorem AV.renL_length (f : Nat → Nat) (l : List AV) : (AV.renL f l).length = l.length := by simp [AV.renL_map]

/-- a context and one that sees some of its blocks -/
structure Cx.Sees (f : Nat → Nat) (c c0 : Cx) : Prop where
  ctr : c.ctr = c0.ctr
  fz : ∀ b, c.fz b → c0.fz b ∧ c0.w.heap[b]? = c.w.heap[b]?
  fc : ∀ b o, c.fc b o → c0.fc b o ∧ c0.w.cell? ⟨b, o, none⟩ = c.w.cell? ⟨b, o, none⟩
  fc' : ∀ i, c0.gen i ≠ none → ∀ j, c0.fc (c.al (f i)) j → c.fc (c.al (f i)) j
  gen : ∀ i g, c0.gen i = some g → c.gen (f i) = some g ∧ c0.al i = c.al (f i) ∧ c0.base i = c.base (f i) ∧ c0.sz i = c.sz (f i) ∧ c0.csz i = c.csz (f i)

mutual
theorem VRel.see {E : Env} {f : Nat → Nat} {c c0 : Cx} (h : c.Sees f c0) : ∀ (a : AV) (v : Value), VRel E c (a.ren f) v → VRel E c0 a v
  | .junk, _, _ => by simp [VRel]
  | .val u, v, r => by simpa [VRel, AV.ren] using r
  | .ptrL b off g, v, r => by
    simp only [VRel, AV.ren] at r ⊢
    obtain ⟨hg, p, rfl, r⟩ := r
    exact ⟨h.ctr ▸ hg, p, rfl, fun e => by obtain ⟨e1, e2, e3, -⟩ := h.gen b g e; rw [e2, e3]; exact r e1⟩
  | .ptrF cs off, v, r => by
    simp only [VRel, AV.ren] at r ⊢
    obtain ⟨b, o, rfl, hc⟩ := r
    exact ⟨b, o, rfl, CRel.see h cs b o hc⟩
  | .slL b off len g, v, r => by
    simp only [VRel, AV.ren] at r ⊢
    obtain ⟨hg, p, cap, rfl, hl, r⟩ := r
    exact ⟨h.ctr ▸ hg, p, cap, rfl, hl, fun e => by obtain ⟨e1, e2, e3, e4, e5⟩ := h.gen b g e; rw [e2, e3, e4, e5]; exact r e1⟩
  | .slF cs off len, v, r => by
    simp only [VRel, AV.ren] at r ⊢
    obtain ⟨p, cap, rfl, hl, r⟩ := r
    refine ⟨p, cap, rfl, hl, r.imp id ?_⟩
    rintro ⟨b, o, rfl, hc⟩
    exact ⟨b, o, rfl, CRel.see h cs b o hc⟩
  | .slN cs len, v, r => by
    simp only [VRel, AV.ren] at r ⊢
    refine r.imp id ?_
    rintro ⟨p, cap, rfl, hl, r⟩
    refine ⟨p, cap, rfl, hl, r.imp id ?_⟩
    rintro ⟨b, o, rfl, hc⟩
    exact ⟨b, o, rfl, CRel.see h cs b o hc⟩
  | .slT b cs len g, v, r => by
    simp only [VRel, AV.ren] at r ⊢
    obtain ⟨hg, p, cap, rfl, hl, r⟩ := r
    refine ⟨h.ctr ▸ hg, p, cap, rfl, hl, r.imp id ?_⟩
    rintro ⟨k, o, rfl, hc, r⟩
    refine ⟨k, o, rfl, CRel.see h cs k o hc, fun e => ?_⟩
    obtain ⟨e1, e2, e3, e4, e5⟩ := h.gen b g e
    obtain ⟨r1, r2, r3⟩ := r e1
    refine ⟨r1.trans e2.symm, fun j hj hf => r2 j (by rwa [AV.renL_length]) ?_, by rw [e4, e5]; exact r3⟩
    rw [r1] at hf ⊢
    exact h.fc' b (by rw [e]; simp) j hf
  | .agg cs, v, r => by
    simp only [VRel, AV.ren] at r ⊢
    obtain ⟨vs, rfl, hl⟩ := r
    exact ⟨vs, rfl, LRel.see h cs vs hl⟩
  | .tup cs, v, r => by
    simp only [VRel, AV.ren] at r ⊢
    obtain ⟨vs, rfl, hl⟩ := r
    exact ⟨vs, rfl, LRel.see h cs vs hl⟩
  | .ifc k a, v, r => by
    simp only [VRel, AV.ren] at r ⊢
    obtain ⟨u, rfl, hk, hl⟩ := r
    exact ⟨u, rfl, hk, VRel.see h a u hl⟩
  | .fn k fs cs, v, r => by
    simp only [VRel, AV.ren] at r ⊢
    obtain ⟨gs, ds, rfl, h1, h2⟩ := r
    exact ⟨gs, ds, rfl, LRel.see h fs gs h1, LRel.see h cs ds h2⟩
  | .mapL b g, v, r => by
    simp only [VRel, AV.ren] at r ⊢
    obtain ⟨hg, p, rfl, r⟩ := r
    exact ⟨h.ctr ▸ hg, p, rfl, fun e => by obtain ⟨e1, e2, -⟩ := h.gen b g e; rw [e2]; exact r e1⟩
  | .mapF ks xs, v, r => by
    simp only [VRel, AV.ren] at r ⊢
    obtain ⟨m, es, clock, rfl, hf, hm, h1, h2⟩ := r
    exact ⟨m, es, clock, rfl, (h.fz m hf).1, by rw [(h.fz m hf).2]; exact hm, LRel.see h ks _ h1, LRel.see h xs _ h2⟩
theorem LRel.see {E : Env} {f : Nat → Nat} {c c0 : Cx} (h : c.Sees f c0) : ∀ (xs : List AV) (vs : List Value), LRel E c (AV.renL f xs) vs → LRel E c0 xs vs
  | [], vs, r => by simpa [LRel, AV.renL] using r
  | x :: xs, vs, r => by
    simp only [LRel, AV.renL] at r ⊢
    obtain ⟨u, us, rfl, h1, h2⟩ := r
    exact ⟨u, us, rfl, VRel.see h x u h1, LRel.see h xs us h2⟩
theorem CRel.see {E : Env} {f : Nat → Nat} {c c0 : Cx} (h : c.Sees f c0) : ∀ (xs : List AV) (b o : Nat), CRel E c (AV.renL f xs) b o → CRel E c0 xs b o
  | [], _, _, _ => by simp [CRel]
  | x :: xs, b, o, r => by
    simp only [CRel, AV.renL] at r ⊢
    obtain ⟨⟨hf, u, h1, h2⟩, h3⟩ := r
    refine ⟨?_, CRel.see h xs b (o + 1) h3⟩
    rcases hf with hf | hf
    · obtain ⟨k1, k2⟩ := h.fz b hf
      exact ⟨.inl k1, u, by rw [cell_of_heap k2]; exact h1, VRel.see h x u h2⟩
    · obtain ⟨k1, k2⟩ := h.fc b o hf
      exact ⟨.inr k1, u, by rw [k2]; exact h1, VRel.see h x u h2⟩
end
/-- a context that is seen by another's numbers -/
structure Cx.Back (f : Nat → Nat) (c1 c2 : Cx) : Prop where
  w : c2.w = c1.w
  ctr : c2.ctr = c1.ctr
  fz : ∀ b, c1.fz b → c2.fz b
  fc : ∀ b o, c1.fc b o ↔ c2.fc b o
  gen : ∀ i g, c2.gen (f i) = some g → c1.gen i = some g ∧ c1.al i = c2.al (f i) ∧ c1.base i = c2.base (f i) ∧ c1.sz i = c2.sz (f i) ∧ c1.csz i = c2.csz (f i)
mutual
theorem VRel.back {E : Env} {f : Nat → Nat} {c1 c2 : Cx} (h : c1.Back f c2) : ∀ (a : AV) (v : Value), VRel E c1 a v → VRel E c2 (a.ren f) v
  | .junk, _, _ => by simp [VRel, AV.ren]
  | .val u, v, r => by simpa [VRel, AV.ren] using r
  | .ptrL b off g, v, r => by
    simp only [VRel, AV.ren] at r ⊢
    obtain ⟨hg, p, rfl, r⟩ := r
    exact ⟨h.ctr ▸ hg, p, rfl, fun e => by obtain ⟨e1, e2, e3, -⟩ := h.gen b g e; rw [← e2, ← e3]; exact r e1⟩
  | .ptrF cs off, v, r => by
    simp only [VRel, AV.ren] at r ⊢
    obtain ⟨b, o, rfl, hc⟩ := r
    exact ⟨b, o, rfl, CRel.back h cs b o hc⟩
  | .slL b off len g, v, r => by
    simp only [VRel, AV.ren] at r ⊢
    obtain ⟨hg, p, cap, rfl, hl, r⟩ := r
    exact ⟨h.ctr ▸ hg, p, cap, rfl, hl, fun e => by obtain ⟨e1, e2, e3, e4, e5⟩ := h.gen b g e; rw [← e2, ← e3, ← e4, ← e5]; exact r e1⟩
  | .slF cs off len, v, r => by
    simp only [VRel, AV.ren] at r ⊢
    obtain ⟨p, cap, rfl, hl, r⟩ := r
    refine ⟨p, cap, rfl, hl, r.imp id ?_⟩
    rintro ⟨b, o, rfl, hc⟩
    exact ⟨b, o, rfl, CRel.back h cs b o hc⟩
  | .slN cs len, v, r => by
    simp only [VRel, AV.ren] at r ⊢
    refine r.imp id ?_
    rintro ⟨p, cap, rfl, hl, r⟩
    refine ⟨p, cap, rfl, hl, r.imp id ?_⟩
    rintro ⟨b, o, rfl, hc⟩
    exact ⟨b, o, rfl, CRel.back h cs b o hc⟩
  | .slT b cs len g, v, r => by
    simp only [VRel, AV.ren] at r ⊢
    obtain ⟨hg, p, cap, rfl, hl, r⟩ := r
    refine ⟨h.ctr ▸ hg, p, cap, rfl, hl, r.imp id ?_⟩
    rintro ⟨k, o, rfl, hc, r⟩
    refine ⟨k, o, rfl, CRel.back h cs k o hc, fun e => ?_⟩
    obtain ⟨e1, e2, e3, e4, e5⟩ := h.gen b g e
    obtain ⟨r1, r2, r3⟩ := r e1
    exact ⟨r1.trans e2, fun j hj hf => r2 j (by rwa [AV.renL_length] at hj) ((h.fc _ _).2 hf), by rw [← e4, ← e5]; exact r3⟩
  | .agg cs, v, r => by
    simp only [VRel, AV.ren] at r ⊢
    obtain ⟨vs, rfl, hl⟩ := r
    exact ⟨vs, rfl, LRel.back h cs vs hl⟩
  | .tup cs, v, r => by
    simp only [VRel, AV.ren] at r ⊢
    obtain ⟨vs, rfl, hl⟩ := r
    exact ⟨vs, rfl, LRel.back h cs vs hl⟩
  | .ifc k a, v, r => by
    simp only [VRel, AV.ren] at r ⊢
    obtain ⟨u, rfl, hk, hl⟩ := r
    exact ⟨u, rfl, hk, VRel.back h a u hl⟩
  | .fn k fs cs, v, r => by
    simp only [VRel, AV.ren] at r ⊢
    obtain ⟨gs, ds, rfl, h1, h2⟩ := r
    exact ⟨gs, ds, rfl, LRel.back h fs gs h1, LRel.back h cs ds h2⟩
  | .mapL b g, v, r => by
    simp only [VRel, AV.ren] at r ⊢
    obtain ⟨hg, p, rfl, r⟩ := r
    exact ⟨h.ctr ▸ hg, p, rfl, fun e => by obtain ⟨e1, e2, -⟩ := h.gen b g e; rw [← e2]; exact r e1⟩
  | .mapF ks xs, v, r => by
    simp only [VRel, AV.ren] at r ⊢
    obtain ⟨m, es, clock, rfl, hf, hm, h1, h2⟩ := r
    exact ⟨m, es, clock, rfl, h.fz m hf, by rw [h.w]; exact hm, LRel.back h ks _ h1, LRel.back h xs _ h2⟩
theorem LRel.back {E : Env} {f : Nat → Nat} {c1 c2 : Cx} (h : c1.Back f c2) : ∀ (xs : List AV) (vs : List Value), LRel E c1 xs vs → LRel E c2 (AV.renL f xs) vs
  | [], vs, r => by simpa [LRel, AV.renL] using r
  | x :: xs, vs, r => by
    simp only [LRel, AV.renL] at r ⊢
    obtain ⟨u, us, rfl, h1, h2⟩ := r
    exact ⟨u, us, rfl, VRel.back h x u h1, LRel.back h xs us h2⟩
theorem CRel.back {E : Env} {f : Nat → Nat} {c1 c2 : Cx} (h : c1.Back f c2) : ∀ (xs : List AV) (b o : Nat), CRel E c1 xs b o → CRel E c2 (AV.renL f xs) b o
  | [], _, _, _ => by simp [CRel, AV.renL]
  | x :: xs, b, o, r => by
    simp only [CRel, AV.renL] at r ⊢
    obtain ⟨⟨hf, u, h1, h2⟩, h3⟩ := r
    exact ⟨⟨hf.imp (h.fz b) (h.fc b o).1, u, by rw [h.w]; exact h1, VRel.back h x u h2⟩, CRel.back h xs b (o + 1) h3⟩
end
/-- numbers: the callee's i is the caller's mv[i]; beyond them there is none -/
def rmap (mv : List Nat) (n : Nat) (i : Nat) : Nat := mv.getD i n
/-- blocks put back -/
def setL : List Blk → List Nat → List Blk → List Blk
  | l, i :: mv, x :: xs => setL (l.set i x) mv xs
  | l, _, _ => l
theorem setL_length : ∀ (l : List Blk) (mv : List Nat) (xs : List Blk), (setL l mv xs).length = l.length
  | l, [], _ => by simp [setL]
  | l, _ :: _, [] => by simp [setL]
  | l, i :: mv, x :: xs => by simp only [setL]; rw [setL_length]; simp
theorem setL_out : ∀ (mv : List Nat) (l : List Blk) (xs : List Blk) (b : Nat), b ∉ mv → (setL l mv xs)[b]? = l[b]?
  | [], l, _, b, _ => by simp [setL]
  | _ :: _, l, [], b, _ => by simp [setL]
  | i :: mv, l, x :: xs, b, h => by
    simp only [List.mem_cons, not_or] at h
    simp only [setL]
    rw [setL_out mv _ xs b h.2, List.getElem?_set_ne (Ne.symm h.1)]
theorem setL_in : ∀ (mv : List Nat) (l : List Blk) (xs : List Blk) (i b : Nat), mv.Nodup → mv.length = xs.length → mv[i]? = some b → b < l.length → (setL l mv xs)[b]? = xs[i]?
  | [], l, _, i, b, _, _, h, _ => by simp at h
  | _ :: _, l, [], i, b, _, hl, _, _ => by simp at hl
  | j :: mv, l, x :: xs, i, b, hn, hl, h, hb => by
    simp only [List.nodup_cons] at hn
    simp only [setL]
    cases i with
    | zero =>
      simp at h; subst h
      rw [setL_out mv _ xs j hn.1]
      simp [hb]
    | succ i =>
      simp at h
      rw [setL_in mv _ xs i b hn.2 (by simpa using hl) h (by simpa using hb)]
      simp

section
variable {E : Env} {P : Program}
theorem rmap_out {mv : List Nat} {i n : Nat} (h : mv.length ≤ i) : rmap mv n i = n := by simp [rmap, List.getD, List.getElem?_eq_none h]

set_option maxHeartbeats 1000000 in
/-- A CALL THAT SEES SOME BLOCKS. -/
theorem ACalls.frame {k : Nat} {mv : List Nat} {B : List Blk} {args0 args : List AV} {H : AH} {R0 : AV → List Blk → Prop} (h : ∀ n, ACalls E P k args0 ⟨B, n⟩ fun r H' => R0 r H'.bs ∧ H'.bs.length = B.length)
    (hn : mv.Nodup) (hl : mv.length = B.length) (hB : ∀ (i : Nat) b x, mv[i]? = some b → B[i]? = some x → H.bs[b]? = some (x.ren (rmap mv H.bs.length))) (ha : args = AV.renL (rmap mv H.bs.length) args0) :
    ACalls E P k args H fun r H' => ∃ r0 B' n, R0 r0 B' ∧ B'.length = B.length ∧ r = r0.ren (rmap mv H.bs.length) ∧ H' = ⟨setL H.bs mv (B'.map (Blk.ren (rmap mv H.bs.length))), n⟩ := by
  intro c vs hH hv o a next Q hnext
  generalize hf : rmap mv H.bs.length = f at *
  have hmv : ∀ i, i < mv.length → mv[i]? = some (f i) := fun i hi => by rw [← hf]; simp [rmap, List.getD, List.getElem?_eq_getElem hi]
  have hmvb : ∀ i, i < mv.length → f i < H.bs.length := fun i hi => by
    have := hB i _ _ (hmv i hi) (List.getElem?_eq_getElem (by omega))
    exact lt_of_get this
  have hout : ∀ i, mv.length ≤ i → f i = H.bs.length := fun i hi => by rw [← hf]; exact rmap_out hi
  have hfin : ∀ i j, i < mv.length → j < mv.length → f i = f j → i = j := by
    intro i j hi hj he
    have h1 := hmv i hi
    have h2 := hmv j hj
    rw [List.getElem?_eq_getElem hi] at h1
    rw [List.getElem?_eq_getElem hj] at h2
    injection h1 with h1
    injection h2 with h2
    exact (List.getElem_inj hn).1 (by rw [h1, h2, he])
  let c0 : Cx := { w := c.w, al := fun i => c.al (f i), base := fun i => c.base (f i), gen := fun i => if i < mv.length then c.gen (f i) else none, sz := fun i => c.sz (f i), csz := fun i => c.csz (f i), fz := c.fz, fc := c.fc, ctr := c.ctr }
  have hgen0 : ∀ i, c0.gen i ≠ none → i < mv.length ∧ c.gen (f i) ≠ none := by
    intro i hi
    simp only [c0] at hi
    split at hi
    · exact ⟨by assumption, hi⟩
    · exact absurd rfl hi
  have hsee : c.Sees f c0 := ⟨rfl, fun _ hb => ⟨hb, rfl⟩, fun _ _ hb => ⟨hb, rfl⟩, fun _ _ _ hj => hj, fun i g e => by
    have := hgen0 i (by rw [e]; simp)
    simp only [c0, if_pos this.1] at e
    exact ⟨e, rfl, rfl, rfl, rfl⟩⟩
  have hBx : ∀ (i : Nat) x, B[i]? = some x → i < mv.length ∧ H.bs[f i]? = some (x.ren f) := fun i x hx => by
    have hi : i < mv.length := by rw [hl]; exact lt_of_get hx
    exact ⟨hi, hB i _ x (hmv i hi) hx⟩
  have hH0 : HRel E c0 ⟨B, c.ctr⟩ := by
    refine ⟨rfl, ?_, ?_, ?_, ?_, ?_, ?_, hH.fzlt, hH.fclt, fun g cs e => ⟨(hH.glob g cs e).1, CRel.see hsee _ _ _ (by rw [AV.renL_closed cs (hH.glob g cs e).1]; exact (hH.glob g cs e).2)⟩⟩
    · intro i hi
      have : mv.length ≤ i := by rw [hl]; simpa using hi
      simp only [c0, if_neg (show ¬ i < mv.length by omega)]
    · intro i x hx
      obtain ⟨hi, hx'⟩ := hBx i x hx
      have hb := hH.blk _ _ hx'
      have hg : c0.gen i = c.gen (f i) := by simp only [c0, if_pos hi]
      cases x with
      | cells g sz cs =>
        obtain ⟨a1, a2, a3, arr, e, a4, a5, p0, pre, rest, a6, a7, a8⟩ := hb
        exact ⟨a1, hg.trans a2, a3, arr, e, a4, a5, p0, pre, rest, a6, a7, LRel.see hsee _ _ a8⟩
      | map g ks xs =>
        obtain ⟨a1, a2, es, clock, a4, a5, a6⟩ := hb
        exact ⟨a1, hg.trans a2, es, clock, a4, LRel.see hsee _ _ a5, LRel.see hsee _ _ a6⟩
      | tail g sz =>
        obtain ⟨a1, a2, a3⟩ := hb
        exact ⟨a1, hg.trans a2, a3⟩
      | obj g o =>
        obtain ⟨a1, a2, a3⟩ := hb
        exact ⟨a1, hg.trans a2, a3⟩
      | dead => exact hg.trans hb
    · intro i hi
      exact hH.apart _ (hgen0 i hi).2
    · intro i x hx hd ht j
      obtain ⟨hi, hx'⟩ := hBx i x hx
      exact hH.solid _ _ hx' (fun e => hd (Blk.ren_dead.1 e)) (by rw [Blk.ren_tail]; exact ht) j
    · intro i j hi hj he
      exact hfin i j (hgen0 i hi).1 (hgen0 j hj).1 (hH.inj _ _ (hgen0 i hi).2 (hgen0 j hj).2 he)
    · intro i hi
      exact hH.lt _ (hgen0 i hi).2
  refine h c.ctr c0 vs hH0 (LRel.see hsee _ _ (ha ▸ hv)) o a next Q fun v w' hvw => hnext v w' ?_
  obtain ⟨r0, c1, H1, rfl, ⟨hR, hlen1⟩, hH1, hr1, hL⟩ := hvw
  have hc1in : ∀ i, c1.gen i ≠ none → i < mv.length := by
    intro i hi
    obtain ⟨x, hx⟩ := hH1.gen_lt hi
    have := lt_of_get hx
    omega
  classical
  let pos : Nat → Nat := fun b => mv.idxOf b
  have hpos : ∀ i, i < mv.length → f i ∈ mv ∧ pos (f i) = i := by
    intro i hi
    have hm : f i ∈ mv := List.mem_of_getElem? (hmv i hi)
    refine ⟨hm, ?_⟩
    have hlt : mv.idxOf (f i) < mv.length := List.idxOf_lt_length_iff.2 hm
    have h1 : mv[mv.idxOf (f i)] = f i := List.getElem_idxOf hlt
    have h2 := hmv (mv.idxOf (f i)) hlt
    rw [List.getElem?_eq_getElem hlt, h1] at h2
    injection h2 with h2
    exact hfin _ _ hlt hi h2.symm
  have hmem : ∀ b, b ∈ mv → ∃ i, i < mv.length ∧ b = f i ∧ pos b = i := by
    intro b hb
    obtain ⟨i, hi, rfl⟩ := List.getElem_of_mem hb
    have := hmv i hi
    rw [List.getElem?_eq_getElem hi] at this
    injection this with this
    exact ⟨i, hi, this, by rw [this]; exact (hpos i hi).2⟩
  let c2 : Cx := { w := c1.w, al := fun b => if b ∈ mv then c1.al (pos b) else c.al b, base := fun b => if b ∈ mv then c1.base (pos b) else c.base b, gen := fun b => if b ∈ mv then c1.gen (pos b) else c.gen b, sz := fun b => if b ∈ mv then c1.sz (pos b) else c.sz b, csz := fun b => if b ∈ mv then c1.csz (pos b) else c.csz b, fz := c1.fz, fc := c1.fc, ctr := c1.ctr }
  have hfoc : ∀ i, c0.gen i ≠ none → c.gen (f i) ≠ none ∧ f i ∈ mv := fun i hi => ⟨(hgen0 i hi).2, (hpos i (hgen0 i hi).1).1⟩
  -- what is frozen now and was not is none of the others
  have hhid : ∀ b, c.gen b ≠ none → b ∉ mv → (¬ c1.fz (c.al b)) ∧ (∀ j, c1.fc (c.al b) j → c.fc (c.al b) j) := by
    intro b hb hbm
    have hlt := hH.lt b hb
    have hne : ∀ i, c0.gen i ≠ none → c0.al i ≠ c.al b := by
      intro i hi he
      obtain ⟨k1, k2⟩ := hfoc i hi
      have := hH.inj _ _ k1 hb he
      exact hbm (this ▸ k2)
    refine ⟨fun hz => ?_, fun j hz => ?_⟩
    · rcases hL.fz _ hz with h1 | h1 | ⟨i, hi, he⟩
      · exact hH.apart b hb h1
      · exact absurd h1 (Nat.not_le.2 hlt)
      · exact hne i hi he
    · rcases hL.fc _ j hz with h1 | h1 | ⟨i, hi, he⟩
      · exact h1
      · exact absurd h1 (Nat.not_le.2 hlt)
      · exact absurd he (hne i hi)
  have hheap : ∀ b, c.gen b ≠ none → b ∉ mv → c1.w.heap[c.al b]? = c.w.heap[c.al b]? := by
    intro b hb hbm
    refine hL.keep _ (hH.lt b hb) fun i hi he => ?_
    obtain ⟨k1, k2⟩ := hfoc i hi
    have := hH.inj _ _ k1 hb he
    exact hbm (this ▸ k2)
  have hback : c1.Back f c2 := ⟨rfl, rfl, fun _ h => h, fun _ _ => Iff.rfl, fun i g e => by
    by_cases hi : i < mv.length
    · obtain ⟨h1, h2⟩ := hpos i hi
      simp only [c2, if_pos h1, h2] at e ⊢
      exact ⟨e, trivial, trivial, trivial, trivial⟩
    · have := hout i (by omega)
      have hnm : f i ∉ mv := fun hm => by
        obtain ⟨j, hj, he, _⟩ := hmem _ hm
        have := hmvb j hj
        omega
      simp only [c2, if_neg hnm] at e
      rw [this, hH.out _ (by simp)] at e
      cases e⟩
  have hle : c.le c2 := {
    ctr := hL.le.ctr
    fz := fun b hb => hL.le.fz b hb
    fc := fun b j hb => hL.le.fc b j hb
    gen := fun b g hg e => by
      by_cases hb : b ∈ mv
      · obtain ⟨i, hi, rfl, hp⟩ := hmem b hb
        simp only [c2, if_pos hb, hp] at e ⊢
        obtain ⟨e1, e2, e3, e4, e5⟩ := hL.le.gen i g hg e
        simp only [c0, if_pos hi] at e1
        exact ⟨e1, e2, e3, e4, e5⟩
      · simp only [c2, if_neg hb] at e ⊢
        simp [e]
    room := fun b g hg e j hj => by
      by_cases hb : b ∈ mv
      · obtain ⟨i, hi, rfl, hp⟩ := hmem b hb
        simp only [c2, if_pos hb, hp] at e
        exact hL.le.room i g hg e j hj
      · simp only [c2, if_neg hb] at e
        exact (hhid b (by rw [e]; simp) hb).2 j hj }
  have hg2 : ∀ b, c2.gen b ≠ none → (b ∈ mv ∧ c1.gen (pos b) ≠ none ∧ c2.al b = c1.al (pos b)) ∨ (b ∉ mv ∧ c.gen b ≠ none ∧ c2.al b = c.al b) := by
    intro b hb
    by_cases hm : b ∈ mv
    · simp only [c2, if_pos hm] at hb ⊢; exact .inl ⟨hm, hb, trivial⟩
    · simp only [c2, if_neg hm] at hb ⊢; exact .inr ⟨hm, hb, trivial⟩
  have hsz : c.w.heap.size ≤ c1.w.heap.size := hL.size
  refine ⟨r0.ren f, c2, ⟨setL H.bs mv (H1.bs.map (Blk.ren f)), H1.ctr⟩, rfl, ⟨r0, H1.bs, H1.ctr, hR, hlen1, rfl, rfl⟩, ⟨hH1.ctr, ?_, ?_, ?_, ?_, ?_, ?_, hH1.fzlt, hH1.fclt, hH.globLe hle⟩, VRel.back hback _ _ hr1, ?_⟩
  · intro b hb
    have hb' : H.bs.length ≤ b := by
      have := List.getElem?_eq_none_iff.1 hb
      rwa [setL_length] at this
    have hnm : b ∉ mv := fun hm => by
      obtain ⟨i, hi, rfl, _⟩ := hmem b hm
      have := hmvb i hi
      omega
    simp only [c2, if_neg hnm]
    exact hH.out b (List.getElem?_eq_none hb')
  · intro b y hy
    by_cases hm : b ∈ mv
    · obtain ⟨i, hi, rfl, hp⟩ := hmem b hm
      simp only at hy
      rw [setL_in mv _ _ i (f i) hn (by simp; omega) (hmv i hi) (hmvb i hi), List.getElem?_map, Option.map_eq_some_iff] at hy
      obtain ⟨x, hx, rfl⟩ := hy
      have hb := hH1.blk i x hx
      have hga : c2.gen (f i) = c1.gen i ∧ c2.al (f i) = c1.al i ∧ c2.base (f i) = c1.base i ∧ c2.sz (f i) = c1.sz i ∧ c2.csz (f i) = c1.csz i := by
        simp only [c2, if_pos hm, hp]; exact ⟨trivial, trivial, trivial, trivial, trivial⟩
      obtain ⟨g1, g2, g3, g4, g5⟩ := hga
      cases x with
      | cells g sz cs =>
        obtain ⟨a1, a2, a3, arr, e, a4, a5, p0, pre, rest, a6, a7, a8⟩ := hb
        exact ⟨a1, g1.trans a2, g4.trans a3, arr, e, by rw [g2]; exact a4, g5.trans a5, p0, pre, rest, a6, a7.trans g3.symm, LRel.back hback _ _ a8⟩
      | map g ks xs =>
        obtain ⟨a1, a2, es, clock, a4, a5, a6⟩ := hb
        exact ⟨a1, g1.trans a2, es, clock, by rw [g2]; exact a4, LRel.back hback _ _ a5, LRel.back hback _ _ a6⟩
      | tail g sz =>
        obtain ⟨a1, a2, a3, arr, e, a4, a5⟩ := hb
        exact ⟨a1, g1.trans a2, g4.trans a3, arr, e, by rw [g2]; exact a4, g5.trans a5⟩
      | obj g o =>
        obtain ⟨a1, a2, a3⟩ := hb
        exact ⟨a1, g1.trans a2, by rw [g2]; exact a3⟩
      | dead => exact g1.trans hb
    · simp only at hy
      rw [setL_out mv _ _ b hm] at hy
      refine (hH.blk b y hy).mono hle (by simp only [c2, if_neg hm]) (by simp only [c2, if_neg hm]) (by simp only [c2, if_neg hm]) (by simp only [c2, if_neg hm]) (by simp only [c2, if_neg hm]) fun hd => ?_
      exact hheap b (hH.live' hy hd) hm
  · intro b hb
    rcases hg2 b hb with ⟨hm, h1, h2⟩ | ⟨hm, h1, h2⟩
    · rw [h2]; exact hH1.apart _ h1
    · rw [h2]; exact (hhid b h1 hm).1
  · intro b y hy hd ht j
    by_cases hm : b ∈ mv
    · obtain ⟨i, hi, rfl, hp⟩ := hmem b hm
      simp only at hy
      rw [setL_in mv _ _ i (f i) hn (by simp; omega) (hmv i hi) (hmvb i hi), List.getElem?_map, Option.map_eq_some_iff] at hy
      obtain ⟨x, hx, rfl⟩ := hy
      have : c2.al (f i) = c1.al i := by simp only [c2, if_pos hm, hp]
      rw [this]
      exact hH1.solid i x hx (fun e => hd (Blk.ren_dead.2 e)) (by rw [Blk.ren_tail] at ht; exact ht) j
    · simp only at hy
      rw [setL_out mv _ _ b hm] at hy
      have : c2.al b = c.al b := by simp only [c2, if_neg hm]
      rw [this]
      intro hj
      exact hH.solid b y hy hd ht j ((hhid b (hH.live' hy hd) hm).2 j hj)
  · have mixed : ∀ b b', b ∈ mv → c1.gen (pos b) ≠ none → b' ∉ mv → c.gen b' ≠ none → c1.al (pos b) ≠ c.al b' := by
      intro b b' hb h1 hb' h2 he
      rcases hL.own _ h1 with ⟨i, hi, he'⟩ | h3
      · obtain ⟨k1, k2⟩ := hfoc i hi
        have : f i = b' := hH.inj _ _ k1 h2 (show c.al (f i) = c.al b' from he' ▸ he)
        exact hb' (this ▸ k2)
      · have := hH.lt b' h2
        rw [he] at h3
        exact absurd h3 (Nat.not_le.2 this)
    intro b b' hb hb' he
    rcases hg2 b hb with ⟨hm, h1, h2⟩ | ⟨hm, h1, h2⟩ <;> rcases hg2 b' hb' with ⟨hm', h1', h2'⟩ | ⟨hm', h1', h2'⟩ <;> rw [h2, h2'] at he
    · obtain ⟨i, hi, rfl, hp⟩ := hmem b hm
      obtain ⟨j, hj, rfl, hq⟩ := hmem b' hm'
      rw [hp] at h1 he; rw [hq] at h1' he
      rw [hH1.inj i j h1 h1' he]
    · exact absurd he (mixed b b' hm h1 hm' h1')
    · exact absurd he.symm (mixed b' b hm' h1' hm h1)
    · exact hH.inj b b' h1 h1' he
  · intro b hb
    rcases hg2 b hb with ⟨hm, h1, h2⟩ | ⟨hm, h1, h2⟩
    · rw [h2]; exact hH1.lt _ h1
    · rw [h2]; exact Nat.lt_of_lt_of_le (hH.lt b h1) hsz
  · exact {
      le := hle
      os := hL.os
      tape := hL.tape
      output := hL.output
      size := hL.size
      keep := fun k hk hn' => hL.keep k hk fun i hi => hn' (f i) (hfoc i hi).1
      own := fun b hb => by
        rcases hg2 b hb with ⟨hm, h1, h2⟩ | ⟨hm, h1, h2⟩
        · rcases hL.own _ h1 with ⟨i, hi, he⟩ | h3
          · exact .inl ⟨f i, (hfoc i hi).1, h2.trans he⟩
          · exact .inr (h2 ▸ h3)
        · exact .inl ⟨b, h1, h2⟩
      fz := fun k hk => by
        rcases hL.fz k hk with h1 | h1 | ⟨i, hi, he⟩
        · exact .inl h1
        · exact .inr (.inl h1)
        · exact .inr (.inr ⟨f i, (hfoc i hi).1, he⟩)
      fc := fun k j hk => by
        rcases hL.fc k j hk with h1 | h1 | ⟨i, hi, he⟩
        · exact .inl h1
        · exact .inr (.inl h1)
        · exact .inr (.inr ⟨f i, (hfoc i hi).1, he⟩) }
end
end Go.Sc
