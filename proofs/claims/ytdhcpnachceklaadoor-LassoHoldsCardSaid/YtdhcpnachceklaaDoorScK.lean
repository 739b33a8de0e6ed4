/-
  A FUNCTION's CODE DOES WHAT ITS NODES SAY.
-/
import Derived.Test.YtdhcpnachceklaaDoorScJ2
import Derived.StillTail
namespace Go.Sc
open Go
set_option linter.unusedVariables false

section
variable {E : Env} {P : Program}

/-- what a result comes to, wherever it is used -/
def UponN (P : Program) (N : Value → World → Prop) (r : Result Next) : Prop :=
  ∀ (o : Oper) (a : Act) (next : Act → World → Prop) (Q : Exit → Act → World → Prop), (∀ v w', N v w' → next (a.put o.dst v) w') → o.upon P a next Q r
theorem UponN.mono {N N' : Value → World → Prop} {r : Result Next} (h : UponN P N r) (hn : ∀ v w', N v w' → N' v w') : UponN P N' r :=
  fun o a next Q k => h o a next Q fun v w' hv => k v w' (hn v w' hv)

def OpPost (E : Env) (c : Cx) (H : AH) (o : Oper) (K : Kt) (v : Value) (w' : World) : Prop :=
  ∃ x c' H', c'.w = w' ∧ K x H' ∧ HRel E c' H' ∧ VRel E c' x v ∧ Later c c' ∧ ((c' = c ∧ H' = H) ∨ lookOp o.op = false)

theorem Does.run {c : Cx} {H : AH} {o : Oper} {a : Act} {K : Kt} (h : Does E P c H o a K) : UponN P (OpPost E c H o K) ((execOp a.eval o).run P c.w) := by
  obtain ⟨v, c', H', x, hrun, hk, h1, h2, h3, h4⟩ := h
  intro o' a' next Q hn
  have hp : OpPost E c H o K v c'.w := ⟨x, c', H', rfl, hk, h1, h2, h3, h4.imp id fun h => by
    cases ho : o.op <;> simp_all [lookOp, readOp]⟩
  rcases hrun with hrun | ⟨hrun, rfl⟩
  · rw [hrun]; exact hn v c'.w hp
  · rw [hrun]; exact hn undef c'.w hp

/-- operations without a call of a function -/
def plainOp : Op → Bool
  | .call c => match c.callee with
    | .value _ => false
    | .invoke _ _ => false
    | _ => true
  | _ => true
theorem does_all {c : Cx} {o : Oper} {a : Act} {ts : List AV} {H : AH} {K : Kt} (hp : plainOp o.op = true) (h : opW E P o ts H K) (hH : HRel E c H) (hr : LRel E c ts a.tmps.toList) : Does E P c H o a K := by
  cases ho : o.op with
  | move x => exact (does_move (.inl ho) hH hr h)
  | assign x => exact (does_move (.inr ho) hH hr h)
  | pick x y z => exact (does_pick ho hH hr h)
  | alloc t => exact (does_alloc ho hH h)
  | box t x => exact (does_box ho hH hr h)
  | build t ps => exact (does_build ho hH hr h)
  | buildSlice t n ps => exact (does_buildSlice ho hH hr h)
  | load t x => exact (does_load ho hH hr h)
  | store t x y => exact (does_store ho hH hr h)
  | nilCheck x => exact (does_nilCheck ho hH hr h)
  | binOp op t x y t' =>
    cases hs : shpB P t with
    | none => exact (does_bin ho hs hH hr h)
    | some s => exact (does_eq ho hs hH hr h)
  | unOp op t x => exact (does_un ho hH hr h)
  | convert s t x => exact (does_convert ho hH hr h)
  | makeInterface t x => exact (does_makeInterface ho hH hr h)
  | makeFunc f fs cs => exact (does_makeFunc ho hH hr h)
  | makeSlice t x y => exact (does_makeSlice ho hH hr h)
  | slice t x lo hi m => exact (does_slice ho hH hr h)
  | fieldAddr t x f => exact (does_fieldAddr ho hH hr h)
  | field t x f => exact (does_field ho hH hr h)
  | indexAddr t x i => exact (does_indexAddr ho hH hr h)
  | index t x i => exact (does_index ho hH hr h)
  | extract x i => exact (does_extract ho hH hr h)
  | typeAssert x xt t ok => exact (does_typeAssert ho hH hr h)
  | makeMap t r => exact (does_makeMap ho hH h)
  | insert t m k v => exact (does_insert (.inl ho) hH hr h)
  | mapUpdate t m k v => exact (does_insert (.inr ho) hH hr h)
  | lookup t m k ok => exact (does_lookup ho hH hr h)
  | call cl =>
    cases hc : cl.callee with
    | builtin b =>
      cases b with
      | len => exact (does_len ho hc hH hr h)
      | append => exact (does_append ho hc hH hr h)
      | max => exact (does_minmax true ho hc hH hr h)
      | min => exact (does_minmax false ho hc hH hr h)
      | _ => simp only [opW, ho, hc] at h
    | invoke r m => simp [ho, hc, plainOp] at hp
    | value f => simp [ho, hc, plainOp] at hp
  | _ => simp only [opW, ho] at h

theorem op_run {c : Cx} {o : Oper} {a : Act} {ts : List AV} {H : AH} {K : Kt} (h : opW E P o ts H K) (hH : HRel E c H) (hr : LRel E c ts a.tmps.toList) : UponN P (OpPost E c H o K) ((execOp a.eval o).run P c.w) := by
  cases ho : o.op with
  | call cl =>
    cases hc : cl.callee with
    | builtin b => exact (does_all (by simp [ho, hc, plainOp]) h hH hr).run
    | invoke r m =>
      simp only [opW, ho, hc] at h
      obtain ⟨k, x, f, hx, hm, R, hA, hRK⟩ := h
      have hr0 := ev_rel hH hr r
      rw [hx] at hr0; simp only [VRel] at hr0
      obtain ⟨u, hu, _, hxu⟩ := hr0
      have hargs : LRel E c (x :: cl.args.toList.map (ev E ts)) (u :: cl.args.toList.map a.eval) := by
        simp only [LRel]; exact ⟨u, _, rfl, hxu, evs_rel hH hr _⟩
      have this := hA c _ hH hargs
      have e : (execOp a.eval o).run P c.w = (callFunc (E.fn f) (u :: cl.args.toList.map a.eval).toArray).run P c.w := by
        have hm' := hm u c.w
        have e2 : (#[u] ++ (#[a.eval r] ++ cl.args.map a.eval).extract 1 (#[a.eval r] ++ cl.args.map a.eval).size) = (u :: cl.args.toList.map a.eval).toArray := by
          apply Array.ext'; simp [List.take_of_length_le]
        have e3 : (#[a.eval r] ++ cl.args.map a.eval)[0]? = some (.iface (E.ty k) u) := by
          rw [Array.getElem?_append_left (by simp)]; simp [hu]
        simp only [execOp, ho, resolve, hc, Sem.run_bind, Sem.run_pure, Result.andThen_ok, invoke, e3, callMethod, run_program, hm', e2]
      rw [e]
      refine UponN.mono this ?_
      rintro v w' ⟨r', c', H', rfl, h1, h2, h3, h4⟩
      exact ⟨r', c', H', rfl, hRK r' H' h1, h2, h3, h4, .inr (by simp [ho, hc, lookOp, readOp])⟩
    | value f =>
      have args := evs_rel hH hr cl.args.toList
      have key : ∀ k fs cs R (gs ds : List Value), a.eval f = .func (.func (E.fn k)) gs.toArray ds.toArray → LRel E c fs gs → LRel E c cs ds → ACalls E P k (fs ++ cl.args.toList.map (ev E ts) ++ cs) H R → (∀ r H', R r H' → K r H') →
          UponN P (OpPost E c H o K) ((execOp a.eval o).run P c.w) := by
        intro k fs cs R gs ds hf hfs hcs hA hRK
        have := hA c (gs ++ cl.args.toList.map a.eval ++ ds) hH ((hfs.append args).append hcs)
        have e : execOp a.eval o = callFunc (E.fn k) (gs ++ cl.args.toList.map a.eval ++ ds).toArray := by
          simp only [execOp, ho, resolve, hc, hf, Deferred.ofValue]
          have : (gs.toArray ++ cl.args.map a.eval ++ ds.toArray) = (gs ++ cl.args.toList.map a.eval ++ ds).toArray := by
            apply Array.ext'; simp
          rw [← this]
          rfl
        rw [e]
        refine UponN.mono this ?_
        rintro v w' ⟨r, c', H', rfl, h1, h2, h3, h4⟩
        exact ⟨r, c', H', rfl, hRK r H' h1, h2, h3, h4, .inr (by simp [ho, hc, lookOp, readOp])⟩
      cases f with
      | func f =>
        simp only [opW, ho, hc] at h
        split at h
        · rename_i hf
          obtain ⟨R, hA, hRK⟩ := h
          exact key (E.fk f) [] [] R [] [] (by simp [Act.eval, hf]) (by simp [LRel]) (by simp [LRel]) (by simpa using hA) hRK
        · exact h.elim
      | tmp t =>
        simp only [opW, ho, hc] at h
        obtain ⟨k, fs, cs, he, R, hA, hRK⟩ := h
        have hv := ev_rel hH hr (.tmp t)
        rw [he] at hv; simp only [VRel] at hv
        obtain ⟨gs, ds, hv, h1, h2⟩ := hv
        exact key k fs cs R gs ds hv h1 h2 hA hRK
      | const t =>
        simp only [opW, ho, hc] at h
        obtain ⟨k, fs, cs, he, R, hA, hRK⟩ := h
        have hv := ev_rel hH hr (.const t)
        rw [he] at hv; simp only [VRel] at hv
        obtain ⟨gs, ds, hv, h1, h2⟩ := hv
        exact key k fs cs R gs ds hv h1 h2 hA hRK
      | global t =>
        simp only [opW, ho, hc] at h
        obtain ⟨k, fs, cs, he, R, hA, hRK⟩ := h
        have hv := ev_rel hH hr (.global t)
        rw [he] at hv; simp only [VRel] at hv
        obtain ⟨gs, ds, hv, h1, h2⟩ := hv
        exact key k fs cs R gs ds hv h1 h2 hA hRK
  | _ => exact (does_all (by simp [ho, plainOp]) h hH hr).run

theorem op_sound {c : Cx} {o : Oper} {a : Act} {ts : List AV} {H : AH} {K : Kt} (h : opW E P o ts H K) (hH : HRel E c H) (hr : LRel E c ts a.tmps.toList) {next : Act → World → Prop} {Q : Exit → Act → World → Prop}
    (hn : ∀ x v c' H', K x H' → HRel E c' H' → VRel E c' x v → Later c c' → next (a.put o.dst v) c'.w) : o.wp P a c.w next Q :=
  op_run h hH hr o a next Q fun v w' ⟨x, c', H', e, h1, h2, h3, h4, _⟩ => e ▸ hn x v c' H' h1 h2 h3 h4

/-- outside 'W' nothing turns -/
def Agree (W : List Nat) (ts ts' : List AV) : Prop := ts'.length = ts.length ∧ ∀ t, t ∉ W → ts'[t]? = ts[t]?
theorem Agree.refl (W : List Nat) (ts : List AV) : Agree W ts ts := ⟨rfl, fun _ _ => rfl⟩
theorem Agree.trans {W W' : List Nat} {a b c : List AV} (h : Agree W a b) (k : Agree W' b c) : Agree (W ++ W') a c :=
  ⟨k.1.trans h.1, fun t ht => by
    simp only [List.mem_append, not_or] at ht
    rw [k.2 t ht.2, h.2 t ht.1]⟩
theorem Agree.mono {W W' : List Nat} {a b : List AV} (h : Agree W a b) (hs : ∀ t ∈ W, t ∈ W') : Agree W' a b := ⟨h.1, fun t ht => h.2 t fun h' => ht (hs t h')⟩
theorem Agree.put (ts : List AV) (d : Option Tmp) (x : AV) : Agree d.toList ts (putT ts d x) := by
  cases d with
  | none => exact Agree.refl _ _
  | some d => exact ⟨by simp [putT], fun t ht => by simp at ht; simp [putT, List.getElem?_set_ne (Ne.symm ht)]⟩

theorem put_rel {c : Cx} {ts : List AV} {a : Act} {x : AV} {v : Value} (hr : LRel E c ts a.tmps.toList) (hv : VRel E c x v) (d : Option Tmp) : LRel E c (putT ts d x) (a.put d v).tmps.toList := by
  cases d with
  | none => exact hr
  | some d => simpa [putT, Act.put] using hr.set d hv
theorem put_defers {a : Act} {d : Option Tmp} {v : Value} : (a.put d v).defers = a.defers := by cases d <;> rfl

theorem yielded_is {all : Array Oper} {tmps : Array Value} {j : Nat} {d : Tmp} (h : (all[j]?).bind (·.dst) = some d) : yielded all tmps j = (match tmps[d]? with | some (.bool b) => some b | _ => none) := by
  simp only [yielded, h, Option.bind_some]
  rcases tmps[d]? with _ | v
  · rfl
  · cases v <;> rfl

theorem opsW_sound {all : Array Oper} (c0 : Cx) (ts0 : List AV) (W0 : List Nat) {K : List AV → AH → Prop} {Q : Exit → Act → World → Prop} : ∀ (rest : List Oper) (ts : List AV) (H : AH) (c : Cx) (a : Act),
    opsW E P all rest ts H K → HRel E c H → LRel E c ts a.tmps.toList → a.defers = [] → Later c0 c → Agree W0 ts0 ts → (∀ o ∈ rest, ∀ d ∈ o.dst.toList, d ∈ W0) →
    (∀ ts' H' c' a', K ts' H' → HRel E c' H' → LRel E c' ts' a'.tmps.toList → a'.defers = [] → Later c0 c' → Agree W0 ts0 ts' → Q .normal a' c'.w) →
    wpList P all Q rest a c.w
  | [], ts, H, c, a, h, hH, hr, hd, hL, hA, _, hQ => hQ ts H c a h hH hr hd hL hA
  | o :: rest, ts, H, c, a, h, hH, hr, hd, hL, hA, hW, hQ => by
    have hstep : ∀ x v c' H', HRel E c' H' → VRel E c' x v → Later c c' → opsW E P all rest (putT ts o.dst x) H' K → wpList P all Q rest (a.put o.dst v) c'.w := by
      intro x v c' H' h1 h2 h3 h4
      refine opsW_sound c0 ts0 W0 rest _ H' c' _ h4 h1 (put_rel (hr.le h3.le) h2 _) (put_defers.trans hd) (hL.trans h3) ?_ (fun o' ho' => hW o' (List.mem_cons_of_mem _ ho')) hQ
      refine (hA.trans (Agree.put ts o.dst x)).mono fun t ht => ?_
      rcases List.mem_append.1 ht with ht | ht
      · exact ht
      · exact hW o (List.mem_cons_self ..) t ht
    have hskip : opsW E P all rest (putT ts o.dst undefA) H K → wpList P all Q rest (a.put o.dst undef) c.w := fun h4 =>
      hstep undefA undef c H hH (by simp [VRel, undefA, undef]) (Later.refl c) h4
    simp only [opsW] at h
    simp only [wpList]
    cases hg : o.guard with
    | none =>
      simp only [hg] at h
      rw [if_pos (by simp [Region.wanted, hg])]
      exact .inl (op_sound h hH hr fun x v c' H' hk h1 h2 h3 => hstep x v c' H' h1 h2 h3 hk)
    | some p =>
      obtain ⟨j, want⟩ := p
      simp only [hg] at h
      split at h
      · rename_i d hjd
        have hval : ∀ x, ts.getD d undefA = x → ∀ v, a.tmps.getD d undef = v → VRel E c x v := by
          intro x hx v hv
          have := ev_rel hH hr (.tmp d)
          simp only [ev, Act.eval] at this
          rw [← hx, ← hv]; exact this
        obtain ⟨h⟩ := h
        rcases h with ⟨b, hb, hyes, hno⟩ | ⟨hu, hk⟩
        · have hv := hval _ hb _ rfl
          simp only [VRel] at hv
          have hy : yielded all a.tmps j = some b := by
            rw [yielded_is hjd]
            cases htd : a.tmps[d]? with
            | none => simp [Array.getD_eq_getD_getElem?, htd, undef] at hv
            | some u => simp [Array.getD_eq_getD_getElem?, htd] at hv; simp [hv]
          by_cases hbw : b = want
          · rw [if_pos (by simp [Region.wanted, hg, hy, hbw])]
            exact .inl (op_sound (hyes hbw) hH hr fun x v c' H' hk h1 h2 h3 => hstep x v c' H' h1 h2 h3 hk)
          · rw [if_neg (by simp [Region.wanted, hg, hy, hbw])]
            exact hskip (hno hbw)
        · have hv := hval _ hu _ rfl
          simp only [undefA, VRel] at hv
          have hy : yielded all a.tmps j = none := by
            rw [yielded_is hjd]
            cases htd : a.tmps[d]? with
            | none => rfl
            | some u => simp [Array.getD_eq_getD_getElem?, htd] at hv; simp [hv]
          rw [if_neg (by simp [Region.wanted, hg, hy])]
          exact hskip hk
      · exact h.elim

theorem dst_writes {ops : Array Oper} {o : Oper} (ho : o ∈ ops.toList) : ∀ d ∈ o.dst.toList, d ∈ opWrites ops := by
  intro d hd'
  unfold opWrites
  rw [List.mem_filterMap]
  exact ⟨o, ho, by cases hx : o.dst <;> simp_all⟩

theorem region_sound {id : Nat} {ops : Array Oper} {K : List AV → AH → Prop} {Q : Exit → Act → World → Prop} {ts : List AV} {H : AH} {c : Cx} {a : Act} (h : opsW E P ops ops.toList ts H K) (hH : HRel E c H) (hr : LRel E c ts a.tmps.toList) (hd : a.defers = [])
    (hQ : ∀ ts' H' c' a', K ts' H' → HRel E c' H' → LRel E c' ts' a'.tmps.toList → a'.defers = [] → Later c c' → Agree (opWrites ops) ts ts' → Q .normal a' c'.w) : (Code.region id ops false).wp P Q a c.w :=
  wp_region_list (opsW_sound c ts (opWrites ops) ops.toList ts H c a h hH hr hd (Later.refl c) (Agree.refl _ _) (fun o ho => dst_writes ho) hQ)
end
end Go.Sc
