/- A FUNCTION's CODE DOES WHAT ITS NODES SAY. A REGION WHOSE ORDER IS OPEN DOES WHAT ITS NODES SAY, IN WHATEVER ORDER. A REGION WHOSE ORDER IS OPEN DOES WHAT ITS NODES SAY: the theorem. A REGION WHOSE ORDER IS OPEN, OF STEPS THAT LEAVE MEMORY AS IT IS: one order is enough. A FUNCTION's CODE DOES WHAT ITS NODES SAY. (of the seat YtbogoilcfokihaaDoor) -/
import Derived.Test.YtbogoilcfokihaaDoorCore2
import Derived.StillTail
import Derived.Scope
namespace Go.Sc
open Go
set_option linter.unusedVariables false

section
variable {E : Env} {P : Program}

/-- what a result comes to, wherever it is used -/
def UponN (P : Program) (N : Value → World → Prop) (r : Result Next) : Prop :=
  ∀ (o : Oper) (a : Act) (next : Act → World → Prop) (Q : Exit → Act → World → Prop), (∀ v w', N v w' → next (a.put o.dst v) w') → o.upon P a next Q r
theorem UponN.mono {N N' : Value → World → Prop} {r : Result Next} (h : UponN P N r) (hn : ∀ v w', N v w' → N' v w') : UponN P N' r :=
  fun o a next Q k => h o a next Q fun v w' hv => k v w' (hn v w' hv)

def OpPost (E : Env) (c : Cx) (H : AH) (o : Oper) (K : Kt) (v : Value) (w' : World) : Prop :=
  ∃ x c' H', c'.w = w' ∧ K x H' ∧ HRel E c' H' ∧ VRel E c' x v ∧ Later c c' ∧ ((c' = c ∧ H' = H) ∨ lookOp o.op = false)

theorem Does.run {c : Cx} {H : AH} {o : Oper} {a : Act} {K : Kt} (h : Does E P c H o a K) : UponN P (OpPost E c H o K) ((execOp a.eval o).run P c.w) := by
  obtain ⟨v, c', H', x, hrun, hk, h1, h2, h3, h4⟩ := h
  intro o' a' next Q hn
  have hp : OpPost E c H o K v c'.w := ⟨x, c', H', rfl, hk, h1, h2, h3, h4.imp id fun h => by
    cases ho : o.op <;> simp_all [lookOp, readOp]⟩
  rcases hrun with hrun | ⟨hrun, rfl⟩
  · rw [hrun]; exact hn v c'.w hp
  · rw [hrun]; exact hn undef c'.w hp

/-- operations without a call of a function -/
def plainOp : Op → Bool
  | .call c => match c.callee with
    | .value _ => false
    | .invoke _ _ => false
    | _ => true
  | _ => true
theorem does_all {c : Cx} {o : Oper} {a : Act} {ts : List AV} {H : AH} {K : Kt} (hp : plainOp o.op = true) (h : opW E P o ts H K) (hH : HRel E c H) (hr : LRel E c ts a.tmps.toList) : Does E P c H o a K := by
  cases ho : o.op with
  | move x => exact (does_move (.inl ho) hH hr h)
  | assign x => exact (does_move (.inr ho) hH hr h)
  | pick x y z => exact (does_pick ho hH hr h)
  | alloc t => exact (does_alloc ho hH h)
  | box t x => exact (does_box ho hH hr h)
  | build t ps => exact (does_build ho hH hr h)
  | buildSlice t n ps => exact (does_buildSlice ho hH hr h)
  | load t x => exact (does_load ho hH hr h)
  | store t x y => exact (does_store ho hH hr h)
  | nilCheck x => exact (does_nilCheck ho hH hr h)
  | binOp op t x y t' =>
    cases hs : shpB P t with
    | none => exact (does_bin ho hs hH hr h)
    | some s => exact (does_eq ho hs hH hr h)
  | unOp op t x => exact (does_un ho hH hr h)
  | convert s t x => exact (does_convert ho hH hr h)
  | makeInterface t x => exact (does_makeInterface ho hH hr h)
  | makeFunc f fs cs => exact (does_makeFunc ho hH hr h)
  | makeSlice t x y => exact (does_makeSlice ho hH hr h)
  | slice t x lo hi m => exact (does_slice ho hH hr h)
  | fieldAddr t x f => exact (does_fieldAddr ho hH hr h)
  | field t x f => exact (does_field ho hH hr h)
  | indexAddr t x i => exact (does_indexAddr ho hH hr h)
  | index t x i => exact (does_index ho hH hr h)
  | extract x i => exact (does_extract ho hH hr h)
  | typeAssert x xt t ok => exact (does_typeAssert ho hH hr h)
  | makeMap t r => exact (does_makeMap ho hH h)
  | insert t m k v => exact (does_insert (.inl ho) hH hr h)
  | mapUpdate t m k v => exact (does_insert (.inr ho) hH hr h)
  | lookup t m k ok => exact (does_lookup ho hH hr h)
  | call cl =>
    cases hc : cl.callee with
    | builtin b =>
      cases b with
      | len => exact (does_len ho hc hH hr h)
      | append => exact (does_append ho hc hH hr h)
      | max => exact (does_minmax true ho hc hH hr h)
      | min => exact (does_minmax false ho hc hH hr h)
      | _ => simp only [opW, ho, hc] at h
    | invoke r m => simp [ho, hc, plainOp] at hp
    | value f => simp [ho, hc, plainOp] at hp
  | _ => simp only [opW, ho] at h

theorem op_run {c : Cx} {o : Oper} {a : Act} {ts : List AV} {H : AH} {K : Kt} (h : opW E P o ts H K) (hH : HRel E c H) (hr : LRel E c ts a.tmps.toList) : UponN P (OpPost E c H o K) ((execOp a.eval o).run P c.w) := by
  cases ho : o.op with
  | call cl =>
    cases hc : cl.callee with
    | builtin b => exact (does_all (by simp [ho, hc, plainOp]) h hH hr).run
    | invoke r m =>
      simp only [opW, ho, hc] at h
      obtain ⟨k, x, f, hx, hm, R, hA, hRK⟩ := h
      have hr0 := ev_rel hH hr r
      rw [hx] at hr0; simp only [VRel] at hr0
      obtain ⟨u, hu, _, hxu⟩ := hr0
      have hargs : LRel E c (x :: cl.args.toList.map (ev E ts)) (u :: cl.args.toList.map a.eval) := by
        simp only [LRel]; exact ⟨u, _, rfl, hxu, evs_rel hH hr _⟩
      have this := hA c _ hH hargs
      have e : (execOp a.eval o).run P c.w = (callFunc (E.fn f) (u :: cl.args.toList.map a.eval).toArray).run P c.w := by
        have hm' := hm u c.w
        have e2 : (#[u] ++ (#[a.eval r] ++ cl.args.map a.eval).extract 1 (#[a.eval r] ++ cl.args.map a.eval).size) = (u :: cl.args.toList.map a.eval).toArray := by
          apply Array.ext'; simp [List.take_of_length_le]
        have e3 : (#[a.eval r] ++ cl.args.map a.eval)[0]? = some (.iface (E.ty k) u) := by
          rw [Array.getElem?_append_left (by simp)]; simp [hu]
        simp only [execOp, ho, resolve, hc, Sem.run_bind, Sem.run_pure, Result.andThen_ok, invoke, e3, callMethod, run_program, hm', e2]
      rw [e]
      refine UponN.mono this ?_
      rintro v w' ⟨r', c', H', rfl, h1, h2, h3, h4⟩
      exact ⟨r', c', H', rfl, hRK r' H' h1, h2, h3, h4, .inr (by simp [ho, hc, lookOp, readOp])⟩
    | value f =>
      have args := evs_rel hH hr cl.args.toList
      have key : ∀ k fs cs R (gs ds : List Value), a.eval f = .func (.func (E.fn k)) gs.toArray ds.toArray → LRel E c fs gs → LRel E c cs ds → ACalls E P k (fs ++ cl.args.toList.map (ev E ts) ++ cs) H R → (∀ r H', R r H' → K r H') →
          UponN P (OpPost E c H o K) ((execOp a.eval o).run P c.w) := by
        intro k fs cs R gs ds hf hfs hcs hA hRK
        have := hA c (gs ++ cl.args.toList.map a.eval ++ ds) hH ((hfs.append args).append hcs)
        have e : execOp a.eval o = callFunc (E.fn k) (gs ++ cl.args.toList.map a.eval ++ ds).toArray := by
          simp only [execOp, ho, resolve, hc, hf, Deferred.ofValue]
          have : (gs.toArray ++ cl.args.map a.eval ++ ds.toArray) = (gs ++ cl.args.toList.map a.eval ++ ds).toArray := by
            apply Array.ext'; simp
          rw [← this]
          rfl
        rw [e]
        refine UponN.mono this ?_
        rintro v w' ⟨r, c', H', rfl, h1, h2, h3, h4⟩
        exact ⟨r, c', H', rfl, hRK r H' h1, h2, h3, h4, .inr (by simp [ho, hc, lookOp, readOp])⟩
      cases f with
      | func f =>
        simp only [opW, ho, hc] at h
        split at h
        · rename_i hf
          obtain ⟨R, hA, hRK⟩ := h
          exact key (E.fk f) [] [] R [] [] (by simp [Act.eval, hf]) (by simp [LRel]) (by simp [LRel]) (by simpa using hA) hRK
        · exact h.elim
      | tmp t =>
        simp only [opW, ho, hc] at h
        obtain ⟨k, fs, cs, he, R, hA, hRK⟩ := h
        have hv := ev_rel hH hr (.tmp t)
        rw [he] at hv; simp only [VRel] at hv
        obtain ⟨gs, ds, hv, h1, h2⟩ := hv
        exact key k fs cs R gs ds hv h1 h2 hA hRK
      | const t =>
        simp only [opW, ho, hc] at h
        obtain ⟨k, fs, cs, he, R, hA, hRK⟩ := h
        have hv := ev_rel hH hr (.const t)
        rw [he] at hv; simp only [VRel] at hv
        obtain ⟨gs, ds, hv, h1, h2⟩ := hv
        exact key k fs cs R gs ds hv h1 h2 hA hRK
      | global t =>
        simp only [opW, ho, hc] at h
        obtain ⟨k, fs, cs, he, R, hA, hRK⟩ := h
        have hv := ev_rel hH hr (.global t)
        rw [he] at hv; simp only [VRel] at hv
        obtain ⟨gs, ds, hv, h1, h2⟩ := hv
        exact key k fs cs R gs ds hv h1 h2 hA hRK
  | _ => exact (does_all (by simp [ho, plainOp]) h hH hr).run

theorem op_sound {c : Cx} {o : Oper} {a : Act} {ts : List AV} {H : AH} {K : Kt} (h : opW E P o ts H K) (hH : HRel E c H) (hr : LRel E c ts a.tmps.toList) {next : Act → World → Prop} {Q : Exit → Act → World → Prop}
    (hn : ∀ x v c' H', K x H' → HRel E c' H' → VRel E c' x v → Later c c' → next (a.put o.dst v) c'.w) : o.wp P a c.w next Q :=
  op_run h hH hr o a next Q fun v w' ⟨x, c', H', e, h1, h2, h3, h4, _⟩ => e ▸ hn x v c' H' h1 h2 h3 h4

/-- outside 'W' nothing turns -/
def Agree (W : List Nat) (ts ts' : List AV) : Prop := ts'.length = ts.length ∧ ∀ t, t ∉ W → ts'[t]? = ts[t]?
theorem Agree.refl (W : List Nat) (ts : List AV) : Agree W ts ts := ⟨rfl, fun _ _ => rfl⟩
theorem Agree.trans {W W' : List Nat} {a b c : List AV} (h : Agree W a b) (k : Agree W' b c) : Agree (W ++ W') a c :=
  ⟨k.1.trans h.1, fun t ht => by
    simp only [List.mem_append, not_or] at ht
    rw [k.2 t ht.2, h.2 t ht.1]⟩
theorem Agree.mono {W W' : List Nat} {a b : List AV} (h : Agree W a b) (hs : ∀ t ∈ W, t ∈ W') : Agree W' a b := ⟨h.1, fun t ht => h.2 t fun h' => ht (hs t h')⟩
theorem Agree.put (ts : List AV) (d : Option Tmp) (x : AV) : Agree d.toList ts (putT ts d x) := by
  cases d with
  | none => exact Agree.refl _ _
  | some d => exact ⟨by simp [putT], fun t ht => by simp at ht; simp [putT, List.getElem?_set_ne (Ne.symm ht)]⟩

theorem put_rel {c : Cx} {ts : List AV} {a : Act} {x : AV} {v : Value} (hr : LRel E c ts a.tmps.toList) (hv : VRel E c x v) (d : Option Tmp) : LRel E c (putT ts d x) (a.put d v).tmps.toList := by
  cases d with
  | none => exact hr
  | some d => simpa [putT, Act.put] using hr.set d hv
theorem put_defers {a : Act} {d : Option Tmp} {v : Value} : (a.put d v).defers = a.defers := by cases d <;> rfl

theorem yielded_is {all : Array Oper} {tmps : Array Value} {j : Nat} {d : Tmp} (h : (all[j]?).bind (·.dst) = some d) : yielded all tmps j = (match tmps[d]? with | some (.bool b) => some b | _ => none) := by
  simp only [yielded, h, Option.bind_some]
  rcases tmps[d]? with _ | v
  · rfl
  · cases v <;> rfl

theorem opsW_sound {all : Array Oper} (c0 : Cx) (ts0 : List AV) (W0 : List Nat) {K : List AV → AH → Prop} {Q : Exit → Act → World → Prop} : ∀ (rest : List Oper) (ts : List AV) (H : AH) (c : Cx) (a : Act),
    opsW E P all rest ts H K → HRel E c H → LRel E c ts a.tmps.toList → a.defers = [] → Later c0 c → Agree W0 ts0 ts → (∀ o ∈ rest, ∀ d ∈ o.dst.toList, d ∈ W0) →
    (∀ ts' H' c' a', K ts' H' → HRel E c' H' → LRel E c' ts' a'.tmps.toList → a'.defers = [] → Later c0 c' → Agree W0 ts0 ts' → Q .normal a' c'.w) →
    wpList P all Q rest a c.w
  | [], ts, H, c, a, h, hH, hr, hd, hL, hA, _, hQ => hQ ts H c a h hH hr hd hL hA
  | o :: rest, ts, H, c, a, h, hH, hr, hd, hL, hA, hW, hQ => by
    have hstep : ∀ x v c' H', HRel E c' H' → VRel E c' x v → Later c c' → opsW E P all rest (putT ts o.dst x) H' K → wpList P all Q rest (a.put o.dst v) c'.w := by
      intro x v c' H' h1 h2 h3 h4
      refine opsW_sound c0 ts0 W0 rest _ H' c' _ h4 h1 (put_rel (hr.le h3.le) h2 _) (put_defers.trans hd) (hL.trans h3) ?_ (fun o' ho' => hW o' (List.mem_cons_of_mem _ ho')) hQ
      refine (hA.trans (Agree.put ts o.dst x)).mono fun t ht => ?_
      rcases List.mem_append.1 ht with ht | ht
      · exact ht
      · exact hW o (List.mem_cons_self ..) t ht
    have hskip : opsW E P all rest (putT ts o.dst undefA) H K → wpList P all Q rest (a.put o.dst undef) c.w := fun h4 =>
      hstep undefA undef c H hH (by simp [VRel, undefA, undef]) (Later.refl c) h4
    simp only [opsW] at h
    simp only [wpList]
    cases hg : o.guard with
    | none =>
      simp only [hg] at h
      rw [if_pos (by simp [Region.wanted, hg])]
      exact .inl (op_sound h hH hr fun x v c' H' hk h1 h2 h3 => hstep x v c' H' h1 h2 h3 hk)
    | some p =>
      obtain ⟨j, want⟩ := p
      simp only [hg] at h
      split at h
      · rename_i d hjd
        have hval : ∀ x, ts.getD d undefA = x → ∀ v, a.tmps.getD d undef = v → VRel E c x v := by
          intro x hx v hv
          have := ev_rel hH hr (.tmp d)
          simp only [ev, Act.eval] at this
          rw [← hx, ← hv]; exact this
        obtain ⟨h⟩ := h
        rcases h with ⟨b, hb, hyes, hno⟩ | ⟨hu, hk⟩
        · have hv := hval _ hb _ rfl
          simp only [VRel] at hv
          have hy : yielded all a.tmps j = some b := by
            rw [yielded_is hjd]
            cases htd : a.tmps[d]? with
            | none => simp [Array.getD_eq_getD_getElem?, htd, undef] at hv
            | some u => simp [Array.getD_eq_getD_getElem?, htd] at hv; simp [hv]
          by_cases hbw : b = want
          · rw [if_pos (by simp [Region.wanted, hg, hy, hbw])]
            exact .inl (op_sound (hyes hbw) hH hr fun x v c' H' hk h1 h2 h3 => hstep x v c' H' h1 h2 h3 hk)
          · rw [if_neg (by simp [Region.wanted, hg, hy, hbw])]
            exact hskip (hno hbw)
        · have hv := hval _ hu _ rfl
          simp only [undefA, VRel] at hv
          have hy : yielded all a.tmps j = none := by
            rw [yielded_is hjd]
            cases htd : a.tmps[d]? with
            | none => rfl
            | some u => simp [Array.getD_eq_getD_getElem?, htd] at hv; simp [hv]
          rw [if_neg (by simp [Region.wanted, hg, hy])]
          exact hskip hk
      · exact h.elim

theorem dst_writes {ops : Array Oper} {o : Oper} (ho : o ∈ ops.toList) : ∀ d ∈ o.dst.toList, d ∈ opWrites ops := by
  intro d hd'
  unfold opWrites
  rw [List.mem_filterMap]
  exact ⟨o, ho, by cases hx : o.dst <;> simp_all⟩

theorem region_sound {id : Nat} {ops : Array Oper} {K : List AV → AH → Prop} {Q : Exit → Act → World → Prop} {ts : List AV} {H : AH} {c : Cx} {a : Act} (h : opsW E P ops ops.toList ts H K) (hH : HRel E c H) (hr : LRel E c ts a.tmps.toList) (hd : a.defers = [])
    (hQ : ∀ ts' H' c' a', K ts' H' → HRel E c' H' → LRel E c' ts' a'.tmps.toList → a'.defers = [] → Later c c' → Agree (opWrites ops) ts ts' → Q .normal a' c'.w) : (Code.region id ops false).wp P Q a c.w :=
  wp_region_list (opsW_sound c ts (opWrites ops) ops.toList ts H c a h hH hr hd (Later.refl c) (Agree.refl _ _) (fun o ho => dst_writes ho) hQ)
end
end Go.Sc
namespace Go.Sc
open Go

section
variable {E : Env} {P : Program}

/-- what an operation that only looks gives -/
def rdA (E : Env) (P : Program) (o : Oper) (ts : List AV) (H : AH) : Option AV :=
  match o.op with
  | .move x => some (ev E ts x)
  | .pick c a b => pickA (ev E ts c) (ev E ts a) (ev E ts b)
  | .build t parts => match partsB E P ts t parts.toList, zeroB P t with
    | some l, some z => (fillA z l).map .agg
    | _, _ => none
  | .load t a => match tyB P t with
    | some (true, n) => loadN n (ev E ts a) H
    | some (false, _) => load1 (ev E ts a) H
    | none => none
  | .nilCheck x => nilA (ev E ts x)
  | .binOp op t x y _ => match shpB P t with
    | some s => match op with
      | .eql => if s = .iface ∧ !(isConstO x || isConstO y) then none else (eqA s (ev E ts x) (ev E ts y)).map fun b => .val (.bool (b != false))
      | .neq => if s = .iface ∧ !(isConstO x || isConstO y) then none else (eqA s (ev E ts x) (ev E ts y)).map fun b => .val (.bool (b != true))
      | _ => none
    | none => binA op (ev E ts x) (ev E ts y)
  | .unOp op _ x => unA op (ev E ts x)
  | .convert s t x => match P.underlying s, P.underlying t with
    | some _, some d => convA d (ev E ts x)
    | _, _ => none
  | .makeInterface t x => match P.underlying t with
    | some (.interface _) => none
    | some _ => if E.ty (E.tk t) = t then some (.ifc (E.tk t) (ev E ts x)) else none
    | none => none
  | .makeFunc f fs cs => match f with
    | .func f => if E.fn (E.fk f) = f then some (.fn (E.fk f) (fs.toList.map (ev E ts)) (cs.toList.map (ev E ts))) else none
    | _ => none
  | .slice t x lo hi m => match m with
    | some _ => none
    | none => match P.underlying t with
      | some .string => sliceS (ev E ts x) (lo.map (ev E ts)) (hi.map (ev E ts))
      | some (.slice _) => match elemB P t with
        | some (_, n, _) => sliceA n (ev E ts x) (lo.map (ev E ts)) (hi.map (ev E ts)) H
        | none => none
      | _ => none
  | .fieldAddr t x f => match fieldB P t f with
    | some (off, _, n) => if n = 0 then none else faddr off (ev E ts x)
    | none => none
  | .field t x f => match fieldB P t f with
    | some (off, a, n) => fieldA off n a (ev E ts x)
    | none => none
  | .indexAddr t x i => match P.underlying t with
    | some (.slice e) => match tyB P e with
      | some (_, n) => iaddr n (ev E ts x) (ev E ts i)
      | none => none
    | some (.array len e) => match tyB P e with
      | some (_, n) => iaddrArr n len (ev E ts x) (ev E ts i)
      | none => none
    | _ => none
  | .index t x i => match P.underlying t with
    | some .string => idxStr (ev E ts x) (ev E ts i)
    | some (.array len e) => match tyB P e with
      | some (a, n) => idxArr n len a (ev E ts x) (ev E ts i)
      | none => none
    | _ => none
  | .extract t i => extractA (ev E ts t) i
  | .call c => match c.callee with
    | .builtin .len => match (c.argTypes[0]?).bind P.underlying, c.args.toList with
      | some .string, [x] => lenS (ev E ts x)
      | some (.slice _), [x] => lenA (ev E ts x)
      | _, _ => none
    | _ => none
  | _ => none

theorem get_iff {r : Option AV} {H : AH} {K : Kt} : wGet r H K ↔ ∃ x, r = some x ∧ K x H := ⟨fun h => h.ok, fun h => ⟨h⟩⟩
theorem agg_iff {r : Option (List AV)} {H : AH} {K : Kt} : wAgg r H K ↔ ∃ x, r.map .agg = some x ∧ K x H :=
  ⟨fun ⟨l, h, k⟩ => ⟨.agg l, by simp [h], k⟩, fun ⟨x, h, k⟩ => by
    obtain ⟨l, h1, rfl⟩ := Option.map_eq_some_iff.1 h
    exact ⟨l, h1, k⟩⟩
theorem bool_iff {r : Option Bool} {H : AH} {neg : Bool} {K : Kt} : wBool r H neg K ↔ ∃ x, (r.map fun b => AV.val (.bool (b != neg))) = some x ∧ K x H :=
  ⟨fun ⟨l, h, k⟩ => ⟨_, by simp [h], k⟩, fun ⟨x, h, k⟩ => by
    obtain ⟨l, h1, rfl⟩ := Option.map_eq_some_iff.1 h
    exact ⟨l, h1, k⟩⟩
theorem some_iff' {x : AV} {K : Kt} {H : AH} : K x H ↔ ∃ y, some x = some y ∧ K y H := ⟨fun h => ⟨x, rfl, h⟩, fun ⟨y, e, h⟩ => by injection e with e; rw [e]; exact h⟩
theorem none_iff' {K : Kt} {H : AH} : False ↔ ∃ y, (none : Option AV) = some y ∧ K y H := ⟨fun h => h.elim, fun ⟨y, e, _⟩ => by cases e⟩

theorem opW_rd {o : Oper} {ts : List AV} {H : AH} {K : Kt} (hl : lookOp o.op = true) : opW E P o ts H K ↔ ∃ x, rdA E P o ts H = some x ∧ K x H := by
  cases ho : o.op with
  | move x => simp only [opW, rdA, ho]; exact some_iff'
  | pick x y z => simp only [opW, rdA, ho]; exact get_iff
  | build t ps =>
    simp only [opW, rdA, ho]
    generalize partsB E P ts t ps.toList = z
    generalize zeroB P t = z'
    cases z <;> cases z' <;> first | exact agg_iff | exact none_iff'
  | load t x =>
    simp only [opW, rdA, ho]
    generalize tyB P t = z
    rcases z with _ | ⟨_ | _, n⟩ <;> first | exact get_iff | exact none_iff'
  | nilCheck x => simp only [opW, rdA, ho]; exact get_iff
  | binOp op t x y t' =>
    simp only [opW, rdA, ho]
    generalize shpB P t = z
    rcases z with _ | s
    · exact get_iff
    · cases op <;> simp only <;> first
        | exact none_iff'
        | (by_cases hc : s = .iface ∧ (!(isConstO x || isConstO y)) = true
           · rw [if_pos hc, if_pos hc]; exact none_iff'
           · rw [if_neg hc, if_neg hc]; exact bool_iff)
  | unOp op t x => simp only [opW, rdA, ho]; exact get_iff
  | convert s t x =>
    simp only [opW, rdA, ho]
    generalize P.underlying s = z
    generalize P.underlying t = z'
    cases z <;> cases z' <;> first | exact get_iff | exact none_iff'
  | makeInterface t x =>
    simp only [opW, rdA, ho]
    generalize P.underlying t = z
    rcases z with _ | d
    · exact none_iff'
    · cases d <;> simp only <;> first
        | exact none_iff'
        | (by_cases hc : E.ty (E.tk t) = t
           · rw [if_pos hc, if_pos hc]; exact some_iff'
           · rw [if_neg hc, if_neg hc]; exact none_iff')
  | makeFunc f fs cs =>
    simp only [opW, rdA, ho]
    cases f <;> simp only <;> first
      | exact none_iff'
      | (rename_i f
         by_cases hc : E.fn (E.fk f) = f
         · rw [if_pos hc, if_pos hc]; exact some_iff'
         · rw [if_neg hc, if_neg hc]; exact none_iff')
  | slice t x lo hi m =>
    simp only [opW, rdA, ho]
    cases m with
    | some m => exact none_iff'
    | none =>
      simp only
      generalize P.underlying t = z
      generalize elemB P t = z'
      rcases z with _ | d
      · exact none_iff'
      · cases d <;> simp only <;> first
          | exact none_iff'
          | exact get_iff
          | (cases z' <;> first | exact get_iff | exact none_iff')
  | fieldAddr t x f =>
    simp only [opW, rdA, ho]
    generalize fieldB P t f = z
    rcases z with _ | ⟨off, b, n⟩
    · exact none_iff'
    · simp only
      by_cases hc : n = 0
      · rw [if_pos hc, if_pos hc]; exact none_iff'
      · rw [if_neg hc, if_neg hc]; exact get_iff
  | field t x f =>
    simp only [opW, rdA, ho]
    generalize fieldB P t f = z
    rcases z with _ | ⟨off, b, n⟩ <;> first | exact get_iff | exact none_iff'
  | indexAddr t x i =>
    simp only [opW, rdA, ho]
    generalize P.underlying t = z
    rcases z with _ | d
    · exact none_iff'
    · cases d <;> simp only <;> first
        | exact none_iff'
        | (generalize tyB P _ = z'
           rcases z' with _ | ⟨b, n⟩ <;> first | exact get_iff | exact none_iff')
  | index t x i =>
    simp only [opW, rdA, ho]
    generalize P.underlying t = z
    rcases z with _ | d
    · exact none_iff'
    · cases d <;> simp only <;> first
        | exact none_iff'
        | exact get_iff
        | (generalize tyB P _ = z'
           rcases z' with _ | ⟨b, n⟩ <;> first | exact get_iff | exact none_iff')
  | extract x i => simp only [opW, rdA, ho]; exact get_iff
  | call cl =>
    cases hc : cl.callee with
    | builtin b =>
      cases b with
      | len =>
        simp only [opW, rdA, ho, hc]
        generalize (cl.argTypes[0]?).bind P.underlying = z
        generalize cl.args.toList = l
        rcases z with _ | d
        · exact none_iff'
        · rcases l with _ | ⟨x, _ | ⟨y, l⟩⟩ <;> cases d <;> first | exact get_iff | exact none_iff'
      | _ => simp [ho, hc, lookOp, readOp] at hl
    | _ => simp [ho, hc, lookOp, readOp] at hl
  | _ => simp [ho, lookOp, readOp] at hl

theorem rdA_free {o : Oper} {ts : List AV} {H H' : AH} (hl : lookOp o.op = true) (hh : heapOp o.op = false) : rdA E P o ts H = rdA E P o ts H' := by
  cases ho : o.op <;> simp_all [rdA, heapOp, lookOp]

theorem partsP_congr {ts ts' : List AV} {place : Nat → Option (Nat × Nat)} : ∀ (ps : List (Nat × Operand)), (∀ p ∈ ps, ev E ts p.2 = ev E ts' p.2) → partsP E ts place ps = partsP E ts' place ps
  | [], _ => rfl
  | (i, x) :: ps, h => by
    simp only [partsP, partsP_congr ps (fun p hp => h p (List.mem_cons_of_mem _ hp)), h (i, x) (List.mem_cons_self ..)]

theorem rdA_congr {o : Oper} {ts ts' : List AV} {H : AH} (h : ∀ x ∈ o.op.operands.toList, ev E ts x = ev E ts' x) : rdA E P o ts H = rdA E P o ts' H := by
  cases ho : o.op with
  | build t ps =>
    simp only [ho, Op.operands] at h
    have : partsB E P ts t ps.toList = partsB E P ts' t ps.toList := by
      unfold partsB
      have hp : ∀ p ∈ ps.toList, ev E ts p.2 = ev E ts' p.2 := fun p hp => h p.2 (by simpa using ⟨p.1, by simpa using hp⟩)
      simp only [partsP_congr _ hp]
    simp only [rdA, ho, this]
  | makeFunc f fs cs =>
    simp only [ho, Op.operands] at h
    have h1 : fs.toList.map (ev E ts) = fs.toList.map (ev E ts') := List.map_congr_left fun x hx => h x (by simp at hx ⊢; exact .inl hx)
    have h2 : cs.toList.map (ev E ts) = cs.toList.map (ev E ts') := List.map_congr_left fun x hx => h x (by simp at hx ⊢; exact .inr hx)
    simp only [rdA, ho, h1, h2]
  | slice t x lo hi m =>
    simp only [ho, Op.operands] at h
    have h0 := h x (by simp)
    have h1 : lo.map (ev E ts) = lo.map (ev E ts') := by cases lo <;> simp; exact h _ (by simp)
    have h2 : hi.map (ev E ts) = hi.map (ev E ts') := by cases hi <;> simp; exact h _ (by simp)
    simp only [rdA, ho, h0, h1, h2]
  | call cl =>
    simp only [ho, Op.operands, Call.operands] at h
    have h1 : ∀ x ∈ cl.args.toList, ev E ts x = ev E ts' x := fun x hx => h x (by simp at hx ⊢; exact .inr hx)
    simp only [rdA, ho]
    split
    · split
      · rename_i x _ e; rw [h1 x (by rw [e]; simp)]
      · rename_i x _ e; rw [h1 x (by rw [e]; simp)]
      · rfl
    · rfl
  | _ => simp only [ho, Op.operands] at h; simp_all [rdA]

/-- what is looked at, as abstract values -/
theorem looks_ev {ops : Array Oper} {o : Oper} {ts ts' : List AV} (h : ∀ t ∈ o.looksAt ops, ts.getD t undefA = ts'.getD t undefA) : ∀ x ∈ o.op.operands.toList, ev E ts x = ev E ts' x := by
  intro x hx
  cases x with
  | tmp t =>
    refine h t ?_
    unfold Oper.looksAt
    refine List.mem_append.2 (.inl ?_)
    rw [List.mem_filterMap]
    exact ⟨.tmp t, hx, rfl⟩
  | _ => rfl

theorem guard_looks {ops : Array Oper} {o : Oper} {j : Nat} {want : Bool} {d : Tmp} (hg : o.guard = some (j, want)) (hd : (ops[j]?).bind (·.dst) = some d) : d ∈ o.looksAt ops := by
  unfold Oper.looksAt
  refine List.mem_append.2 (.inr ?_)
  simp [hg, hd]

/-- a look at 'H', told as 'x' -/
def Told (E : Env) (P : Program) (ops : Array Oper) (o : Oper) (ts : List AV) (H : AH) (x : AV) : Prop := opG E P ops o ts H fun y H' => y = x ∧ H' = H

theorem told_of {ops : Array Oper} {o : Oper} {ts : List AV} {H : AH} {K : Kt} (hl : lookOp o.op = true) (h : opG E P ops o ts H K) : ∃ x, K x H ∧ Told E P ops o ts H x := by
  unfold Told opG at *
  cases hg : o.guard with
  | none =>
    simp only [hg] at h ⊢
    obtain ⟨x, hx, hk⟩ := (opW_rd hl).1 h
    exact ⟨x, hk, (opW_rd hl).2 ⟨x, hx, rfl, rfl⟩⟩
  | some p =>
    obtain ⟨j, want⟩ := p
    simp only [hg] at h ⊢
    cases hd : (ops[j]?).bind (·.dst) with
    | none => simp only [hd] at h
    | some d =>
      simp only [hd] at h ⊢
      obtain ⟨h⟩ := h
      rcases h with ⟨b, hb, hy, hn⟩ | ⟨hu, hk⟩
      · by_cases hw : b = want
        · obtain ⟨x, hx, hk⟩ := (opW_rd hl).1 (hy hw)
          exact ⟨x, hk, ⟨.inl ⟨b, hb, fun _ => (opW_rd hl).2 ⟨x, hx, rfl, rfl⟩, fun hne => absurd hw hne⟩⟩⟩
        · exact ⟨undefA, hn hw, ⟨.inl ⟨b, hb, fun he => absurd he hw, fun _ => ⟨rfl, rfl⟩⟩⟩⟩
      · exact ⟨undefA, hk, ⟨.inr ⟨hu, rfl, rfl⟩⟩⟩

theorem Told.congr {ops : Array Oper} {o : Oper} {ts ts' : List AV} {H : AH} {x : AV} (hl : lookOp o.op = true) (hs : ∀ t ∈ o.looksAt ops, ts.getD t undefA = ts'.getD t undefA) (h : Told E P ops o ts H x) : Told E P ops o ts' H x := by
  unfold Told opG at *
  have hr := rdA_congr (E := E) (P := P) (o := o) (H := H) (looks_ev (E := E) hs)
  cases hg : o.guard with
  | none =>
    simp only [hg] at h ⊢
    obtain ⟨y, hy, hk⟩ := (opW_rd hl).1 h
    exact (opW_rd hl).2 ⟨y, by rw [← hr]; exact hy, hk⟩
  | some p =>
    obtain ⟨j, want⟩ := p
    simp only [hg] at h ⊢
    cases hd : (ops[j]?).bind (·.dst) with
    | none => simp only [hd] at h
    | some d =>
      simp only [hd] at h ⊢
      rw [← hs d (guard_looks hg hd)]
      obtain ⟨h⟩ := h
      refine ⟨h.imp ?_ id⟩
      rintro ⟨b, hb, hy, hn⟩
      refine ⟨b, hb, fun hw => ?_, hn⟩
      obtain ⟨y, hy, hk⟩ := (opW_rd hl).1 (hy hw)
      exact (opW_rd hl).2 ⟨y, by rw [← hr]; exact hy, hk⟩

theorem Told.free {ops : Array Oper} {o : Oper} {ts : List AV} {H H2 : AH} {x : AV} (hl : lookOp o.op = true) (hh : heapOp o.op = false) (h : Told E P ops o ts H x) : Told E P ops o ts H2 x := by
  unfold Told opG at *
  have hr := rdA_free (E := E) (P := P) (o := o) (ts := ts) (H := H) (H' := H2) hl hh
  cases hg : o.guard with
  | none =>
    simp only [hg] at h ⊢
    obtain ⟨y, hy, hk⟩ := (opW_rd hl).1 h
    exact (opW_rd hl).2 ⟨y, by rw [← hr]; exact hy, hk.1, rfl⟩
  | some p =>
    obtain ⟨j, want⟩ := p
    simp only [hg] at h ⊢
    cases hd : (ops[j]?).bind (·.dst) with
    | none => simp only [hd] at h
    | some d =>
      simp only [hd] at h ⊢
      obtain ⟨h⟩ := h
      refine ⟨h.imp ?_ (fun h => ⟨h.1, h.2.1, rfl⟩)⟩
      rintro ⟨b, hb, hy, hn⟩
      refine ⟨b, hb, fun hw => ?_, fun hw => ⟨(hn hw).1, rfl⟩⟩
      obtain ⟨y, hy, hk⟩ := (opW_rd hl).1 (hy hw)
      exact (opW_rd hl).2 ⟨y, by rw [← hr]; exact hy, hk.1, rfl⟩

/-- an operation under its guard: what it comes to -/
theorem opG_run {ops : Array Oper} {c : Cx} {o : Oper} {a : Act} {ts : List AV} {H : AH} {K : Kt} (h : opG E P ops o ts H K) (hH : HRel E c H) (hr : LRel E c ts a.tmps.toList) :
    (Region.wanted o (yielded ops a.tmps) = true → UponN P (OpPost E c H o K) ((execOp a.eval o).run P c.w)) ∧
    (Region.wanted o (yielded ops a.tmps) = false → OpPost E c H o K undef c.w) := by
  unfold opG at h
  cases hg : o.guard with
  | none =>
    simp only [hg] at h
    exact ⟨fun _ => op_run h hH hr, fun hw => by simp [Region.wanted, hg] at hw⟩
  | some p =>
    obtain ⟨j, want⟩ := p
    simp only [hg] at h
    cases hd : (ops[j]?).bind (·.dst) with
    | none => simp only [hd] at h
    | some d =>
      simp only [hd] at h
      have hval : VRel E c (ts.getD d undefA) (a.tmps.getD d undef) := by simpa [ev, Act.eval] using ev_rel hH hr (.tmp d)
      have hskip : K undefA H → OpPost E c H o K undef c.w := fun hk => ⟨undefA, c, H, rfl, hk, hH, by simp [undefA, undef, VRel], Later.refl c, .inl ⟨rfl, rfl⟩⟩
      obtain ⟨h⟩ := h
      rcases h with ⟨b, hb, hyes, hno⟩ | ⟨hu, hk⟩
      · rw [hb] at hval
        simp only [VRel] at hval
        have hy : yielded ops a.tmps j = some b := by
          rw [yielded_is hd]
          cases htd : a.tmps[d]? with
          | none => simp [Array.getD_eq_getD_getElem?, htd, undef] at hval
          | some u => simp [Array.getD_eq_getD_getElem?, htd] at hval; simp [hval]
        by_cases hbw : b = want
        · exact ⟨fun _ => op_run (hyes hbw) hH hr, fun hw => by simp [Region.wanted, hg, hy, hbw] at hw⟩
        · exact ⟨fun hw => by simp [Region.wanted, hg, hy, hbw] at hw, fun _ => hskip (hno hbw)⟩
      · rw [hu] at hval
        simp only [undefA, VRel] at hval
        have hy : yielded ops a.tmps j = none := by
          rw [yielded_is hd]
          cases htd : a.tmps[d]? with
          | none => rfl
          | some u => simp [Array.getD_eq_getD_getElem?, htd] at hval; simp [hval]
        exact ⟨fun hw => by simp [Region.wanted, hg, hy] at hw, fun _ => hskip hk⟩

/-- two frames that are alike in what is looked at -/
theorem run_alike {ops : Array Oper} {o : Oper} {a a' : Act} (hsel : ∀ cs b, o.op ≠ .select cs b) (hs : ∀ t ∈ o.looksAt ops, a.tmps[t]? = a'.tmps[t]?) :
    execOp a.eval o = execOp a'.eval o ∧ Region.wanted o (yielded ops a.tmps) = Region.wanted o (yielded ops a'.tmps) := by
  refine ⟨execOp_congr o hsel fun x hx => ?_, ?_⟩
  · cases x with
    | tmp t =>
      have : t ∈ o.looksAt ops := by
        unfold Oper.looksAt
        refine List.mem_append.2 (.inl ?_)
        rw [List.mem_filterMap]
        exact ⟨.tmp t, by simpa using hx, rfl⟩
      simp only [Act.eval, Array.getD_eq_getD_getElem?, hs t this]
    | _ => rfl
  · unfold Region.wanted
    cases hg : o.guard with
    | none => rfl
    | some p =>
      obtain ⟨j, want⟩ := p
      simp only
      cases hd : (ops[j]?).bind (·.dst) with
      | none => simp [yielded, hd]
      | some d =>
        rw [yielded_is hd, yielded_is hd, hs d (guard_looks hg hd)]
end
end Go.Sc
namespace Go.Sc
open Go
set_option linter.unusedVariables false

section
variable {E : Env} {P : Program} {ops : Array Oper}

def Closed (ops : Array Oper) (b : Array Bool) : Prop := ∀ (i : Nat) (o : Oper), ops[i]? = some o → b.getD i false = true → ∀ e ∈ o.after, Region.binds .any e = true → b.getD e.on false = true

theorem mem_ready {b : Array Bool} {i : Nat} : i ∈ Region.ready .any ops b ↔ ∃ o, ops[i]? = some o ∧ b.getD i true = false ∧ ∀ e ∈ o.after, Region.binds .any e = true → b.getD e.on false = true := by
  unfold Region.ready
  simp only [List.mem_filter, List.mem_range, Bool.and_eq_true, Bool.not_eq_true']
  constructor
  · rintro ⟨hi, hb, ha⟩
    refine ⟨ops[i], by simp [hi], hb, fun e he hbd => ?_⟩
    simp [hi] at ha
    obtain ⟨k, hk, rfl⟩ := Array.mem_iff_getElem.1 he
    have := ha k hk
    simpa [hbd] using this
  · rintro ⟨o, ho, hb, ha⟩
    have hi := (Array.getElem?_eq_some_iff.1 ho).1
    refine ⟨hi, hb, ?_⟩
    have hoi : ops[i] = o := (Array.getElem?_eq_some_iff.1 ho).2
    simp [hi, hoi]
    intro k hk
    have := ha o.after[k] (Array.getElem_mem hk)
    cases hbd : Region.binds .any o.after[k] with
    | false => simp
    | true => simpa [Array.getD_eq_getD_getElem?] using this hbd

theorem waits_iff {y : Oper} {i : Nat} : waits y i = true ↔ ∃ e ∈ y.after, Region.binds .any e = true ∧ e.on = i := by
  unfold waits
  rw [Array.any_eq_true']
  constructor
  · rintro ⟨e, he, h⟩; simp at h; exact ⟨e, he, h.1, h.2⟩
  · rintro ⟨e, he, h1, h2⟩; exact ⟨e, he, by simp [h1, h2]⟩

structure Pairs (ops : Array Oper) : Prop where
  low : ∀ (i : Nat) (x : Oper), ops[i]? = some x → ∀ e ∈ x.after, Region.binds .any e = true → e.on < i
  look : ∀ (i : Nat) (x : Oper), ops[i]? = some x → lookOp x.op = true → ∃ d, x.dst = some d ∧ d ∉ x.looksAt ops ∧ ∀ (j : Nat) (y : Oper), j ≠ i → ops[j]? = some y → y.dst ≠ some d ∧ (d ∈ y.looksAt ops → waits y i = true)
  other : ∀ (i : Nat) (x : Oper), ops[i]? = some x → lookOp x.op = false → ∀ d, x.dst = some d → ∀ (j : Nat) (y : Oper), j ≠ i → ops[j]? = some y → lookOp y.op = true → d ∈ y.looksAt ops → waits y i = true ∨ waits x j = true

theorem pairs_of (h : pairsOk ops = true) : Pairs ops := by
  have key : ∀ (i : Nat) (x : Oper), ops[i]? = some x → (x.after.all fun e => !Region.binds .any e || decide (e.on < i)) = true ∧
      (if lookOp x.op then (match x.dst with
          | none => false
          | some d => !(x.looksAt ops).contains d && (List.range ops.size).all fun j => i == j || match ops[j]? with
            | none => true
            | some y => y.dst != some d && (!(y.looksAt ops).contains d || waits y i))
        else (match x.dst with
          | none => true
          | some d => (List.range ops.size).all fun j => i == j || match ops[j]? with
            | none => true
            | some y => !lookOp y.op || !(y.looksAt ops).contains d || waits y i || waits x j)) = true := by
    intro i x hx
    have hi := (Array.getElem?_eq_some_iff.1 hx).1
    have := List.all_eq_true.1 h i (List.mem_range.2 hi)
    simp only [hx, Bool.and_eq_true] at this
    exact this
  refine ⟨?_, ?_, ?_⟩
  · intro i x hx e he hb
    have := Array.all_eq_true_iff_forall_mem.1 (key i x hx).1 e he
    simpa [hb] using this
  · intro i x hx hl
    have h2 := (key i x hx).2
    rw [if_pos hl] at h2
    cases hd : x.dst with
    | none => simp [hd] at h2
    | some d =>
      simp only [hd, Bool.and_eq_true] at h2
      refine ⟨d, rfl, by simpa using h2.1, fun j y hne hy => ?_⟩
      have hj := (Array.getElem?_eq_some_iff.1 hy).1
      have := List.all_eq_true.1 h2.2 j (List.mem_range.2 hj)
      simp only [hy, Bool.or_eq_true, beq_iff_eq, Bool.and_eq_true] at this
      rcases this with h3 | ⟨h3, h4⟩
      · exact absurd h3.symm hne
      · refine ⟨by simpa using h3, fun hmem => ?_⟩
        rcases h4 with h4 | h4
        · simp [hmem] at h4
        · exact h4
  · intro i x hx hl d hd j y hne hy hly hmem
    have h2 := (key i x hx).2
    rw [if_neg (by simp [hl])] at h2
    simp only [hd] at h2
    have hj := (Array.getElem?_eq_some_iff.1 hy).1
    have := List.all_eq_true.1 h2 j (List.mem_range.2 hj)
    simp only [hy, Bool.or_eq_true, beq_iff_eq] at this
    rcases this with h3 | ((h3 | h3) | h3) | h3
    · exact absurd h3.symm hne
    · simp [hly] at h3
    · simp [hmem] at h3
    · exact .inl h3
    · exact .inr h3

theorem anc_closed {b : Array Bool} (hc : Closed ops b) : ∀ (f i : Nat) (o : Oper), ops[i]? = some o → (∀ e ∈ o.after, Region.binds .any e = true → b.getD e.on false = true) → ∀ j ∈ anc ops f i, b.getD j false = true
  | 0, i, o, _, _, j, hj => by simp [anc] at hj
  | f + 1, i, o, ho, hr, j, hj => by
    simp only [anc, ho, List.mem_flatMap, List.mem_filter, List.mem_cons] at hj
    obtain ⟨e, ⟨he, hb⟩, hj⟩ := hj
    have hon := hr e (by simpa using he) hb
    rcases hj with rfl | hj
    · exact hon
    · cases hx : ops[e.on]? with
      | none =>
        cases f with
        | zero => simp [anc] at hj
        | succ f => simp [anc, hx] at hj
      | some y => exact anc_closed hc f e.on y hx (hc e.on y hx hon) j hj

theorem getD_setB {b : Array Bool} {i j : Nat} {d : Bool} (hi : i < b.size) : (b.setIfInBounds i true).getD j d = if j = i then true else b.getD j d := by
  simp only [Array.getD_eq_getD_getElem?, Array.getElem?_setIfInBounds]
  by_cases h : i = j
  · subst h; simp [hi]
  · simp [h, Ne.symm h]

theorem Closed.set {b : Array Bool} (h : Closed ops b) {i : Nat} (hs : b.size = ops.size) (hr : i ∈ Region.ready .any ops b) : Closed ops (b.setIfInBounds i true) := by
  obtain ⟨o, ho, hb, ha⟩ := mem_ready.1 hr
  have hi : i < b.size := by rw [hs]; exact (Array.getElem?_eq_some_iff.1 ho).1
  intro j y hy hj e he hbd
  rw [getD_setB hi]
  split
  · rfl
  · rw [getD_setB hi] at hj
    split at hj
    · rename_i e1; subst e1
      rw [ho] at hy; injection hy with hy; subst hy
      exact ha e he hbd
    · exact h j y hy hj e he hbd

def cntF : List Bool → Nat
  | [] => 0
  | true :: l => cntF l
  | false :: l => cntF l + 1
theorem cntF_set : ∀ (l : List Bool) (i : Nat), l[i]? = some false → cntF (l.set i true) + 1 = cntF l
  | [], i, h => by simp at h
  | b :: l, 0, h => by simp at h; subst h; simp [cntF]
  | b :: l, i + 1, h => by
    have := cntF_set l i (by simpa using h)
    cases b <;> simp [cntF] <;> omega
theorem cntF_zero : ∀ (l : List Bool), cntF l = 0 → ∀ (i : Nat) (b : Bool), l[i]? = some b → b = true
  | [], _, i, b, h => by simp at h
  | false :: l, h, _, _, _ => by simp [cntF] at h
  | true :: l, h, 0, b, hb => by simpa using hb.symm
  | true :: l, h, i + 1, b, hb => cntF_zero l h i b (by simpa using hb)
theorem cntF_replicate : ∀ n, cntF (List.replicate n false) = n
  | 0 => rfl
  | n + 1 => by simp [List.replicate_succ, cntF, cntF_replicate n]

theorem set_same {c : Cx} {ts : List AV} {vs : List Value} (h : LRel E c ts vs) {d : Nat} {v : Value} (hv : VRel E c (ts.getD d undefA) v) : LRel E c ts (vs.set d v) := by
  by_cases hd : d < ts.length
  · have := h.set d (x := ts.getD d undefA) hv
    have e : ts.set d (ts.getD d undefA) = ts := by
      simp only [List.getD, List.getElem?_eq_getElem hd, Option.getD_some]
      exact List.set_getElem_self hd
    rwa [e] at this
  · rw [List.set_eq_of_length_le (by rw [← h.length]; omega)]; exact h

structure DInv (E : Env) (P : Program) (ops : Array Oper) (c0 : Cx) (ts0 : List AV) (listed done : Array Bool) (ts : List AV) (H : AH) (c : Cx) (a ac : Act) : Prop where
  szl : listed.size = ops.size
  szd : done.size = ops.size
  sub : ∀ i, listed.getD i false = true → done.getD i false = true
  cll : Closed ops listed
  cld : Closed ops done
  heap : HRel E c H
  tmps : LRel E c ts ac.tmps.toList
  da : a.defers = []
  asz : a.tmps.size = ac.tmps.size
  same : ∀ t, (∀ (i : Nat) (o : Oper), ops[i]? = some o → done.getD i false = true → listed.getD i false = false → o.dst ≠ some t) → a.tmps[t]? = ac.tmps[t]?
  pend : ∀ (i : Nat) (o : Oper), ops[i]? = some o → done.getD i false = true → listed.getD i false = false → lookOp o.op = true ∧ ∃ d, o.dst = some d ∧ Told E P ops o ts H (ts.getD d undefA)
  later : Later c0 c
  agree : Agree (opWrites ops) ts0 ts

section
variable {c0 : Cx} {ts0 : List AV} {listed done : Array Bool} {ts : List AV} {H : AH} {c : Cx} {a ac : Act}

theorem getD_ft {b : Array Bool} {i : Nat} (hi : i < b.size) (d d' : Bool) : b.getD i d = b.getD i d' := by
  simp [Array.getD_eq_getD_getElem?, hi]

/-- what a ready operation looks at is as it should be -/
theorem DInv.alike (I : DInv E P ops c0 ts0 listed done ts H c a ac) (hp : Pairs ops) {i : Nat} {o : Oper} (ho : ops[i]? = some o) (hr : i ∈ Region.ready .any ops listed) : ∀ t ∈ o.looksAt ops, a.tmps[t]? = ac.tmps[t]? := by
  intro t ht
  refine I.same t fun j y hy hdj hlj hdst => ?_
  obtain ⟨hlk, _⟩ := I.pend j y hy hdj hlj
  obtain ⟨d, hd, hself, hother⟩ := hp.look j y hy hlk
  rw [hd] at hdst; injection hdst with hdst; subst hdst
  by_cases hij : i = j
  · subst hij
    rw [ho] at hy; injection hy with hy; subst hy
    exact hself ht
  · obtain ⟨_, hw⟩ := hother i o hij ho
    obtain ⟨e, he, hb, rfl⟩ := waits_iff.1 (hw ht)
    obtain ⟨o', ho', _, ha⟩ := mem_ready.1 hr
    rw [ho] at ho'; injection ho' with ho'; subst ho'
    rw [ha e he hb] at hlj; cases hlj

theorem actPut_get {a : Act} {d t : Nat} {v : Value} (h : t ≠ d) : (a.put (some d) v).tmps[t]? = a.tmps[t]? := by
  simp [Act.put, Ne.symm h]

/-- the schedule comes to what has been done ahead -/
theorem DInv.list (I : DInv E P ops c0 ts0 listed done ts H c a ac) (hp : Pairs ops) {i : Nat} {o : Oper} (ho : ops[i]? = some o) (hr : i ∈ Region.ready .any ops listed) (hdone : done.getD i false = true) {d : Nat} (hd : o.dst = some d) {v : Value}
    (hv : VRel E c (ts.getD d undefA) v) : DInv E P ops c0 ts0 (listed.setIfInBounds i true) done ts H c (a.put o.dst v) (ac.put o.dst v) := by
  have hi : i < listed.size := by rw [I.szl]; exact (Array.getElem?_eq_some_iff.1 ho).1
  rw [hd]
  refine ⟨by simp [I.szl], I.szd, ?_, I.cll.set I.szl hr, I.cld, I.heap, ?_, put_defers.trans I.da, by simp [Act.put, I.asz], ?_, ?_, I.later, I.agree⟩
  · intro j hj
    rw [getD_setB hi] at hj
    split at hj
    · rename_i e; subst e; exact hdone
    · exact I.sub j hj
  · simpa [Act.put] using set_same I.tmps hv
  · intro t ht
    by_cases htd : t = d
    · subst htd
      simp [Act.put, Array.getElem?_setIfInBounds, I.asz]
    · rw [actPut_get htd, actPut_get htd]
      refine I.same t fun j y hy h1 h2 => ?_
      by_cases hij : j = i
      · subst hij
        rw [ho] at hy; injection hy with hy; subst hy
        rw [hd]; simpa using Ne.symm htd
      · exact ht j y hy h1 (by rw [getD_setB hi, if_neg hij]; exact h2)
  · intro j y hy h1 h2
    rw [getD_setB hi] at h2
    split at h2
    · cases h2
    · exact I.pend j y hy h1 h2

/-- one that only looks is done ahead -/
theorem DInv.ahead (I : DInv E P ops c0 ts0 listed done ts H c a ac) (hp : Pairs ops) (hlen : ∀ (i : Nat) (o : Oper) d, ops[i]? = some o → o.dst = some d → d < ts0.length) {i : Nat} {o : Oper} (ho : ops[i]? = some o) (hr : i ∈ Region.ready .any ops done)
    (hl : lookOp o.op = true) {x : AV} (hx : Told E P ops o ts H x) : ∃ ac', DInv E P ops c0 ts0 listed (done.setIfInBounds i true) (putT ts o.dst x) H c a ac' := by
  obtain ⟨d, hd, hself, hother⟩ := hp.look i o ho hl
  have hi : i < done.size := by rw [I.szd]; exact (Array.getElem?_eq_some_iff.1 ho).1
  obtain ⟨o', ho', hnd, hready⟩ := mem_ready.1 hr
  rw [ho] at ho'; injection ho' with ho'; subst ho'
  have hnd' : done.getD i false = false := by rw [getD_ft hi false true]; exact hnd
  have hval : ∃ u, VRel E c x u := by
    unfold Told opG at hx
    have hone : ∀ {K : Kt}, (∀ y H', K y H' → y = x) → opW E P o ts H K → ∃ u, VRel E c x u := by
      intro K hK h
      obtain ⟨v, c', H', y, _, hk, _, h2, _, h4⟩ := does_all (by cases hop : o.op <;> simp_all [plainOp, lookOp, readOp]; rename_i cl; cases hc : cl.callee <;> simp_all) h I.heap I.tmps
      rcases h4 with ⟨rfl, rfl⟩ | h4
      · exact ⟨v, hK y _ hk ▸ h2⟩
      · cases hop : o.op <;> simp_all [lookOp]
    cases hg : o.guard with
    | none => simp only [hg] at hx; exact hone (fun y H' h => h.1) hx
    | some p =>
      obtain ⟨j, want⟩ := p
      simp only [hg] at hx
      split at hx
      · obtain ⟨hx⟩ := hx
        rcases hx with ⟨b, _, hy, hn⟩ | ⟨_, hk⟩
        · by_cases hw : b = want
          · exact hone (fun y H' h => h.1) (hy hw)
          · exact ⟨undef, by rw [← (hn hw).1]; simp [undefA, undef, VRel]⟩
        · exact ⟨undef, by rw [← hk.1]; simp [undefA, undef, VRel]⟩
      · exact hx.elim
  obtain ⟨u, hu⟩ := hval
  have hdl : d < ts.length := by rw [I.agree.1]; exact hlen i o d ho hd
  rw [hd]
  refine ⟨ac.put (some d) u, I.szl, by simp [I.szd], ?_, I.cll, I.cld.set I.szd hr, I.heap, put_rel I.tmps hu (some d), I.da, by simp [Act.put, I.asz], ?_, ?_, I.later, ?_⟩
  · intro j hj
    rw [getD_setB hi]
    split
    · rfl
    · exact I.sub j hj
  · intro t ht
    have hnl : listed.getD i false = false := by
      cases hli : listed.getD i false with
      | false => rfl
      | true => rw [I.sub i hli] at hnd'; cases hnd'
    have htd : t ≠ d := by
      have := ht i o ho (by rw [getD_setB hi, if_pos rfl]) hnl
      rw [hd] at this
      intro e; exact this (by rw [e])
    rw [actPut_get htd]
    exact I.same t fun j y hy h1 h2 => ht j y hy (by rw [getD_setB hi]; split <;> first | rfl | exact h1) h2
  · intro j y hy h1 h2
    by_cases hij : j = i
    · subst hij
      rw [ho] at hy; injection hy with hy; subst hy
      refine ⟨hl, d, hd, ?_⟩
      have e : (putT ts (some d) x).getD d undefA = x := by simp [putT, List.getD, hdl]
      rw [e]
      refine hx.congr hl fun t ht => ?_
      have htd : d ≠ t := fun e => hself (e ▸ ht)
      simp [putT, List.getD, List.getElem?_set_ne htd]
    · rw [getD_setB hi, if_neg hij] at h1
      obtain ⟨k1, dj, k2, k3⟩ := I.pend j y hy h1 h2
      obtain ⟨h3, h4⟩ := hother j y hij hy
      have hdj : d ≠ dj := fun e => h3 (by rw [k2, e])
      refine ⟨k1, dj, k2, ?_⟩
      have e : (putT ts (some d) x).getD dj undefA = ts.getD dj undefA := by simp [putT, List.getD, List.getElem?_set_ne hdj]
      rw [e]
      refine k3.congr k1 fun t ht => ?_
      have htd : d ≠ t := by
        rintro rfl
        obtain ⟨e1, he1, hb1, h5⟩ := waits_iff.1 (h4 ht)
        have := I.cld j y hy h1 e1 he1 hb1
        rw [h5] at this
        rw [this] at hnd'; cases hnd'
      simp [putT, List.getD, List.getElem?_set_ne htd]
  · exact (I.agree.trans (Agree.put ts (some d) x)).mono fun t ht => by
      rcases List.mem_append.1 ht with ht | ht
      · exact ht
      · rw [← hd] at ht
        exact dst_writes (Array.mem_toList_iff.2 (Array.mem_of_getElem? ho)) t ht

/-- one that does more: in both -/
theorem DInv.both (I : DInv E P ops c0 ts0 listed done ts H c a ac) (hp : Pairs ops) {i : Nat} {o : Oper} (ho : ops[i]? = some o) (hr : i ∈ Region.ready .any ops listed) (hr' : i ∈ Region.ready .any ops done)
    (hl : lookOp o.op = false) {x : AV} {v : Value} {c' : Cx} {H' : AH} (hH : HRel E c' H') (hv : VRel E c' x v) (hL : Later c c')
    (hag : ∀ j ∈ again ops done i, ∀ y d, ops[j]? = some y → y.dst = some d → Told E P ops y (putT ts o.dst x) H' ((putT ts o.dst x).getD d undefA)) :
    DInv E P ops c0 ts0 (listed.setIfInBounds i true) (done.setIfInBounds i true) (putT ts o.dst x) H' c' (a.put o.dst v) (ac.put o.dst v) := by
  have hi : i < listed.size := by rw [I.szl]; exact (Array.getElem?_eq_some_iff.1 ho).1
  have hi' : i < done.size := by rw [I.szd]; exact (Array.getElem?_eq_some_iff.1 ho).1
  obtain ⟨o1, ho1, hnl, hreadyl⟩ := mem_ready.1 hr
  obtain ⟨o2, ho2, hnd, hreadyd⟩ := mem_ready.1 hr'
  rw [ho] at ho1; injection ho1 with ho1; subst ho1
  rw [ho] at ho2; injection ho2 with ho2; subst ho2
  have hnd' : done.getD i false = false := by rw [getD_ft hi' false true]; exact hnd
  refine ⟨by simp [I.szl], by simp [I.szd], ?_, I.cll.set I.szl hr, I.cld.set I.szd hr', hH, put_rel (I.tmps.le hL.le) hv _, put_defers.trans I.da, ?_, ?_, ?_, I.later.trans hL, ?_⟩
  · intro j hj
    rw [getD_setB hi] at hj
    rw [getD_setB hi']
    split
    · rfl
    · rename_i hne; rw [if_neg hne] at hj; exact I.sub j hj
  · cases hd : o.dst <;> simp [Act.put, I.asz]
  · intro t ht
    have old : a.tmps[t]? = ac.tmps[t]? ∨ o.dst = some t := by
      by_cases hdt : o.dst = some t
      · exact .inr hdt
      · refine .inl (I.same t fun j y hy h1 h2 => ?_)
        have hij : j ≠ i := by rintro rfl; rw [h1] at hnd'; cases hnd'
        exact ht j y hy (by rw [getD_setB hi', if_neg hij]; exact h1) (by rw [getD_setB hi, if_neg hij]; exact h2)
    cases hd : o.dst with
    | none => rcases old with h | h
              · exact h
              · rw [hd] at h; cases h
    | some d =>
      by_cases htd : t = d
      · subst htd; simp [Act.put, Array.getElem?_setIfInBounds, I.asz]
      · rw [actPut_get htd, actPut_get htd]
        rcases old with h | h
        · exact h
        · rw [hd] at h; injection h with h; exact absurd h.symm htd
  · intro j y hy h1 h2
    have hij : j ≠ i := by
      rintro rfl
      rw [getD_setB hi, if_pos rfl] at h2; cases h2
    rw [getD_setB hi', if_neg hij] at h1
    rw [getD_setB hi, if_neg hij] at h2
    obtain ⟨k1, dj, k2, k3⟩ := I.pend j y hy h1 h2
    refine ⟨k1, dj, k2, ?_⟩
    by_cases hh : heapOp y.op = true
    · refine hag j ?_ y dj hy k2
      unfold again
      simp only [List.mem_filter, List.mem_range, Bool.and_eq_true, Bool.not_eq_true']
      refine ⟨(Array.getElem?_eq_some_iff.1 hy).1, ⟨h1, by simp [hy, k1, hh]⟩, ?_⟩
      cases hanc : (anc ops ops.size i).contains j with
      | false => rfl
      | true =>
        have := anc_closed I.cll ops.size i o ho hreadyl j (by simpa using hanc)
        rw [this] at h2; cases h2
    · have hh' : heapOp y.op = false := by simpa using hh
      have hdd : ∀ d, o.dst = some d → d ≠ dj := by
        intro d hd e
        obtain ⟨d', hd', _, hoth⟩ := hp.look j y hy k1
        rw [k2] at hd'; injection hd' with hd'
        exact (hoth i o (Ne.symm hij) ho).1 (by rw [hd, e, hd'])
      have e : (putT ts o.dst x).getD dj undefA = ts.getD dj undefA := by
        cases hd : o.dst with
        | none => rfl
        | some d => simp [putT, List.getD, List.getElem?_set_ne (hdd d hd)]
      rw [e]
      refine (k3.free (H2 := H') k1 hh').congr k1 fun t ht => ?_
      cases hd : o.dst with
      | none => rfl
      | some d =>
        have htd : d ≠ t := by
          rintro rfl
          rcases hp.other i o ho hl d hd j y hij hy k1 ht with hw | hw
          · obtain ⟨e1, he1, hb1, h5⟩ := waits_iff.1 hw
            have := I.cld j y hy h1 e1 he1 hb1
            rw [h5, hnd'] at this; cases this
          · obtain ⟨e1, he1, hb1, h5⟩ := waits_iff.1 hw
            have := hreadyl e1 he1 hb1
            rw [h5, h2] at this; cases this
        simp [putT, List.getD, List.getElem?_set_ne htd]
  · exact (I.agree.trans (Agree.put ts o.dst x)).mono fun t ht => by
      rcases List.mem_append.1 ht with ht | ht
      · exact ht
      · exact dst_writes (Array.mem_toList_iff.2 (Array.mem_of_getElem? ho)) t ht

theorem firstRead_some : ∀ (l : List Nat) (i : Nat), firstRead ops l = some i → i ∈ l ∧ ∃ o, ops[i]? = some o ∧ lookOp o.op = true
  | [], i, h => by simp [firstRead] at h
  | j :: l, i, h => by
    unfold firstRead at h
    split at h
    · rename_i o ho
      split at h
      · rename_i hl; injection h with h; subst h; exact ⟨List.mem_cons_self .., o, ho, hl⟩
      · have := firstRead_some l i h; exact ⟨List.mem_cons_of_mem _ this.1, this.2⟩
    · have := firstRead_some l i h; exact ⟨List.mem_cons_of_mem _ this.1, this.2⟩
theorem firstRead_none : ∀ (l : List Nat), firstRead ops l = none → ∀ i ∈ l, ∀ o, ops[i]? = some o → lookOp o.op = false
  | [], h, i, hi => by simp at hi
  | j :: l, h, i, hi => by
    intro o ho
    unfold firstRead at h
    split at h
    · rename_i o' ho'
      split at h
      · cases h
      · rename_i hl
        rcases List.mem_cons.1 hi with rfl | hi
        · rw [ho] at ho'; injection ho' with ho'; subst ho'; simpa using hl
        · exact firstRead_none l h i hi o ho
    · rename_i hn
      rcases List.mem_cons.1 hi with rfl | hi
      · rw [ho] at hn; cases hn
      · exact firstRead_none l h i hi o ho

theorem allW_mem : ∀ (l : List Prop), allW l → ∀ p ∈ l, p
  | [], h, p, hp => by simp at hp
  | [q], h, p, hp => by rw [List.mem_singleton] at hp; subst hp; exact h
  | q :: r :: l, h, p, hp => by
    simp only [allW] at h
    rcases List.mem_cons.1 hp with rfl | hp
    · exact h.1
    · exact allW_mem (r :: l) h.2 p hp

theorem again_all {ts : List AV} {H : AH} : ∀ (l : List Nat) (p : Prop), againW E P ops ts H l p → p ∧ ∀ j ∈ l, ∀ y d, ops[j]? = some y → y.dst = some d → Told E P ops y ts H (ts.getD d undefA)
  | [], p, h => ⟨h, fun j hj => by simp at hj⟩
  | i :: l, p, h => by
    unfold againW at h
    split at h
    · rename_i o ho
      split at h
      · rename_i d hd
        obtain ⟨h1, h2⟩ := again_all l p h.2
        refine ⟨h1, fun j hj y d' hy hd' => ?_⟩
        rcases List.mem_cons.1 hj with rfl | hj
        · rw [ho] at hy; injection hy with hy; subst hy
          rw [hd] at hd'; injection hd' with hd'; subst hd'
          exact h.1
        · exact h2 j hj y d' hy hd'
      · rename_i hd
        obtain ⟨h1, h2⟩ := again_all l p h
        refine ⟨h1, fun j hj y d' hy hd' => ?_⟩
        rcases List.mem_cons.1 hj with rfl | hj
        · rw [ho] at hy; injection hy with hy; subst hy
          rw [hd] at hd'; cases hd'
        · exact h2 j hj y d' hy hd'
    · rename_i ho
      obtain ⟨h1, h2⟩ := again_all l p h
      refine ⟨h1, fun j hj y d' hy hd' => ?_⟩
      rcases List.mem_cons.1 hj with rfl | hj
      · rw [ho] at hy; cases hy
      · exact h2 j hj y d' hy hd'

/-- ahead as far as it goes -/
theorem norm {c0 : Cx} {ts0 : List AV} {listed : Array Bool} {K : List AV → AH → Prop} {c : Cx} {a : Act} (hp : Pairs ops) (hlen : ∀ (i : Nat) (o : Oper) d, ops[i]? = some o → o.dst = some d → d < ts0.length) : ∀ (f : Nat) (done : Array Bool) (ts : List AV) (H : AH) (ac : Act),
    DInv E P ops c0 ts0 listed done ts H c a ac → drawW E P ops f done ts H K →
    ∃ done' ts' H' ac' f2, DInv E P ops c0 ts0 listed done' ts' H' c a ac' ∧ drawW E P ops f2 done' ts' H' K ∧
      ((Region.ready .any ops done' = [] ∧ K ts' H') ∨ (Region.ready .any ops done' ≠ [] ∧ ∃ f', (∀ i ∈ Region.ready .any ops done', ∀ o, ops[i]? = some o → lookOp o.op = false) ∧
        ∀ i ∈ Region.ready .any ops done', ∀ o, ops[i]? = some o → opG E P ops o ts' H' fun x H2 => againW E P ops (putT ts' o.dst x) H2 (again ops done' i) (drawW E P ops f' (done'.setIfInBounds i true) (putT ts' o.dst x) H2 K)))
  | 0, done, ts, H, ac, I, h => by
    have h0 := h
    simp only [drawW] at h
    split at h
    · rename_i hr; exact ⟨done, ts, H, ac, 0, I, h0, .inl ⟨hr, h⟩⟩
    · exact h.elim
  | f + 1, done, ts, H, ac, I, h => by
    have h0 := h
    simp only [drawW] at h
    split at h
    · rename_i i hi
      obtain ⟨hmem, o, ho, hl⟩ := firstRead_some _ i hi
      simp only [ho] at h
      obtain ⟨x, hk, htold⟩ := told_of hl h
      obtain ⟨ac', I'⟩ := I.ahead hp hlen ho hmem hl htold
      exact norm hp hlen f _ _ _ _ I' hk
    · rename_i hn
      split at h
      · rename_i hr; exact ⟨done, ts, H, ac, f + 1, I, h0, .inl ⟨hr, h⟩⟩
      · rename_i l hne
        refine ⟨done, ts, H, ac, f + 1, I, h0, .inr ⟨fun e => hne e, f, firstRead_none _ hn, fun i hi o ho => ?_⟩⟩
        have := allW_mem _ h _ (List.mem_map.2 ⟨i, hi, rfl⟩)
        simpa only [ho] using this

/-- where nothing is ready all has been done -/
theorem all_listed (hp : Pairs ops) {b : Array Bool} (hs : b.size = ops.size) (hr : Region.ready .any ops b = []) : ∀ i, i < ops.size → b.getD i false = true := by
  intro i
  induction i using Nat.strongRecOn with
  | _ i ih =>
    intro hi
    cases hb : b.getD i false with
    | true => rfl
    | false =>
      have : i ∈ Region.ready .any ops b := by
        refine mem_ready.2 ⟨ops[i], by simp [hi], by rw [getD_ft (by omega) true false]; exact hb, fun e he hbd => ?_⟩
        have hlt := hp.low i ops[i] (by simp [hi]) e he hbd
        exact ih e.on hlt (by omega)
      rw [hr] at this; cases this

theorem draw_any {c0 : Cx} {ts0 : List AV} {K : List AV → AH → Prop} {Q : Exit → Act → World → Prop} (hp : Pairs ops) (hsel : ∀ (j : Nat) (o : Oper) cs b, ops[j]? = some o → o.op ≠ .select cs b) (hlen : ∀ (i : Nat) (o : Oper) d, ops[i]? = some o → o.dst = some d → d < ts0.length)
    (hQ : ∀ ts' H' c' a', K ts' H' → HRel E c' H' → LRel E c' ts' a'.tmps.toList → a'.defers = [] → Later c0 c' → Agree (opWrites ops) ts0 ts' → Q .normal a' c'.w) :
    ∀ (n f : Nat) (listed done : Array Bool) (ts : List AV) (H : AH) (c : Cx) (a ac : Act), cntF listed.toList ≤ n → DInv E P ops c0 ts0 listed done ts H c a ac → drawW E P ops f done ts H K → wpAny P .any ops Q n listed a c.w := by
  have fin : ∀ (f : Nat) (listed done : Array Bool) (ts : List AV) (H : AH) (c : Cx) (a ac : Act), DInv E P ops c0 ts0 listed done ts H c a ac → drawW E P ops f done ts H K → Region.ready .any ops listed = [] → Q .normal a c.w := by
    intro f listed done ts H c a ac I h hr
    obtain ⟨done', ts', H', ac', f2, I', hdraw, hcase⟩ := norm hp hlen f done ts H ac I h
    have hall := all_listed hp I'.szl hr
    have hsame : a.tmps = ac'.tmps := by
      apply Array.ext_getElem?
      intro t
      refine I'.same t fun i o ho h1 h2 => ?_
      rw [hall i (Array.getElem?_eq_some_iff.1 ho).1] at h2; cases h2
    have hrd : Region.ready .any ops done' = [] := by
      cases hx : Region.ready .any ops done' with
      | nil => rfl
      | cons i l =>
        exfalso
        obtain ⟨o, ho, h1, _⟩ := mem_ready.1 (by rw [hx]; exact List.mem_cons_self .. : i ∈ Region.ready .any ops done')
        have hi := (Array.getElem?_eq_some_iff.1 ho).1
        have := I'.sub i (hall i hi)
        rw [getD_ft (by rw [I'.szd]; exact hi) false true, h1] at this; cases this
    rcases hcase with ⟨_, hk⟩ | ⟨hne, _⟩
    · exact hQ ts' H' c a hk I'.heap (by rw [hsame]; exact I'.tmps) I'.da I'.later I'.agree
    · exact absurd hrd hne
  intro n
  induction n with
  | zero =>
    intro f listed done ts H c a ac hn I h
    have hr : Region.ready .any ops listed = [] := by
      cases hx : Region.ready .any ops listed with
      | nil => rfl
      | cons i l =>
        exfalso
        obtain ⟨o, ho, h1, _⟩ := mem_ready.1 (by rw [hx]; exact List.mem_cons_self .. : i ∈ Region.ready .any ops listed)
        have hi : i < listed.size := by rw [I.szl]; exact (Array.getElem?_eq_some_iff.1 ho).1
        have hget : listed.toList[i]? = some false := by
          simp [Array.getD_eq_getD_getElem?, hi] at h1
          simp [hi, h1]
        have := cntF_zero listed.toList (by omega) i false hget
        cases this
    exact ⟨hr, fin f listed done ts H c a ac I h hr⟩
  | succ n ih =>
    intro f listed done ts H c a ac hn I h
    refine ⟨fun hr => fin f listed done ts H c a ac I h hr, fun i hi => ?_⟩
    obtain ⟨done', ts', H', ac', f2, I', hdraw, hcase⟩ := norm hp hlen f done ts H ac I h
    obtain ⟨o, ho, hnl, hrl⟩ := mem_ready.1 hi
    have hil : i < listed.size := by rw [I.szl]; exact (Array.getElem?_eq_some_iff.1 ho).1
    have hcnt : cntF (listed.setIfInBounds i true).toList ≤ n := by
      have hget : listed.toList[i]? = some false := by
        simp [Array.getD_eq_getD_getElem?, hil] at hnl
        simp [hil, hnl]
      have := cntF_set listed.toList i hget
      simp only [Array.toList_setIfInBounds]
      omega
    obtain ⟨hexec, hwant⟩ := run_alike (ops := ops) (a := a) (a' := ac') (fun cs b => hsel i o cs b ho) (I'.alike hp ho hi)
    unfold wpOp
    simp only [ho]
    -- out of what the operation comes to
    have close : ∀ {K' : Kt}, opG E P ops o ts' H' K' → (∀ v w', OpPost E c H' o K' v w' → wpAny P .any ops Q n (listed.setIfInBounds i true) (a.put o.dst v) w') →
        (if Region.wanted o (yielded ops a.tmps) then o.wp P a c.w (wpAny P .any ops Q n (listed.setIfInBounds i true)) Q ∨ (o.asks P a c.w ∧ LetsOut Q) else wpAny P .any ops Q n (listed.setIfInBounds i true) (a.put o.dst undef) c.w) := by
      intro K' hG hk
      obtain ⟨h1, h2⟩ := opG_run hG I'.heap I'.tmps
      rw [hwant]
      split
      · rename_i hw
        left
        unfold Oper.wp
        rw [hexec]
        exact h1 hw o a _ Q hk
      · rename_i hw
        exact hk undef c.w (h2 (by simpa using hw))
    by_cases hd : done'.getD i false = true
    · -- it was done ahead
      have hnl' : listed.getD i false = false := by rw [getD_ft hil false true]; exact hnl
      obtain ⟨hlk, d, hdst, htold⟩ := I'.pend i o ho hd hnl'
      refine close htold ?_
      rintro v w' ⟨x, c', H2, rfl, ⟨rfl, rfl⟩, h2, h3, h4, h5⟩
      rcases h5 with ⟨rfl, _⟩ | h5
      · have I2 := I'.list hp ho hi hd hdst h3
        exact ih f2 _ _ _ _ _ _ _ hcnt I2 hdraw
      · rw [hlk] at h5; cases h5
    · -- it is done now
      have hid : i < done'.size := by rw [I'.szd]; exact (Array.getElem?_eq_some_iff.1 ho).1
      have hrd : i ∈ Region.ready .any ops done' := by
        refine mem_ready.2 ⟨o, ho, ?_, fun e he hb => I'.sub e.on (hrl e he hb)⟩
        rw [getD_ft hid true false]; simpa using hd
      rcases hcase with ⟨hr0, _⟩ | ⟨_, f', hno, hop⟩
      · rw [hr0] at hrd; cases hrd
      · refine close (hop i hrd o ho) ?_
        rintro v w' ⟨x, c', H2, rfl, hk, h2, h3, h4, _⟩
        obtain ⟨hrest, hag⟩ := again_all _ _ hk
        exact ih f' _ _ _ _ _ _ _ hcnt (I'.both hp ho hi hrd (hno i hrd o ho) h2 h3 h4 hag) hrest

theorem region_draw_sound {id : Nat} {K : List AV → AH → Prop} {Q : Exit → Act → World → Prop} {ts : List AV} {H : AH} {c : Cx} {a : Act} (hok : drawOk P ops ts.length = true) (h : drawW E P ops ops.size (Array.replicate ops.size false) ts H K) (hH : HRel E c H)
    (hr : LRel E c ts a.tmps.toList) (hd : a.defers = [])
    (hQ : ∀ ts' H' c' a', K ts' H' → HRel E c' H' → LRel E c' ts' a'.tmps.toList → a'.defers = [] → Later c c' → Agree (opWrites ops) ts ts' → Q .normal a' c'.w) : (Code.region id ops true).wp P Q a c.w := by
  simp only [drawOk, Bool.and_eq_true] at hok
  obtain ⟨⟨⟨hm, hsel⟩, hp⟩, hall⟩ := hok
  obtain ⟨k1, k2⟩ := hH.heap_eq (w' := { c.w with drawn := c.w.drawn + 1 }) rfl rfl rfl rfl
  have hno : ∀ i, (Array.replicate ops.size false).getD i false = false := by
    intro i
    simp only [Array.getD_eq_getD_getElem?, Array.getElem?_replicate]
    split <;> rfl
  refine wp_region_any hm (draw_any (c0 := c) (ts0 := ts) (K := K) (pairs_of hp) (Region.noSelect_spec hsel) ?_ hQ ops.size ops.size (Array.replicate ops.size false) (Array.replicate ops.size false) ts H { c with w := { c.w with drawn := c.w.drawn + 1 } } a a ?_ ?_ h)
  · intro i o d ho hdst
    have := List.all_eq_true.1 hall o (Array.mem_toList_iff.2 (Array.mem_of_getElem? ho))
    simpa [hdst] using this
  · simp [cntF_replicate]
  · exact ⟨by simp, by simp, fun i h => h, fun i o ho hi => (by rw [hno] at hi; cases hi), fun i o ho hi => (by rw [hno] at hi; cases hi), k1, hr.le k2.le, hd, rfl, fun _ _ => rfl, fun i o ho hi => (by rw [hno] at hi; cases hi), k2, Agree.refl _ _⟩
end
end
end Go.Sc
namespace Go.Sc
open Go

section
variable {E : Env} {P : Program} {ops : Array Oper}

theorem opW_congr {o : Oper} {ts ts' : List AV} {H : AH} {K : Kt} (h : ∀ x ∈ o.op.operands.toList, ev E ts x = ev E ts' x) : opW E P o ts H K = opW E P o ts' H K := by
  cases ho : o.op with
  | build t ps =>
    simp only [ho, Op.operands] at h
    have : partsB E P ts t ps.toList = partsB E P ts' t ps.toList := by
      unfold partsB
      have hp : ∀ p ∈ ps.toList, ev E ts p.2 = ev E ts' p.2 := fun p hp => h p.2 (by simpa using ⟨p.1, by simpa using hp⟩)
      simp only [partsP_congr _ hp]
    simp only [opW, ho, this]
  | buildSlice t n ps =>
    simp only [ho, Op.operands] at h
    have hp : ∀ p ∈ ps.toList, ev E ts p.2 = ev E ts' p.2 := fun p hp => h p.2 (by simpa using ⟨p.1, by simpa using hp⟩)
    simp only [opW, ho, partsP_congr _ hp]
  | makeFunc f fs cs =>
    simp only [ho, Op.operands] at h
    have h1 : fs.toList.map (ev E ts) = fs.toList.map (ev E ts') := List.map_congr_left fun x hx => h x (by simp at hx ⊢; exact .inl hx)
    have h2 : cs.toList.map (ev E ts) = cs.toList.map (ev E ts') := List.map_congr_left fun x hx => h x (by simp at hx ⊢; exact .inr hx)
    simp only [opW, ho, h1, h2]
  | slice t x lo hi m =>
    simp only [ho, Op.operands] at h
    have h0 := h x (by simp)
    have h1 : lo.map (ev E ts) = lo.map (ev E ts') := by cases lo <;> simp; exact h _ (by simp)
    have h2 : hi.map (ev E ts) = hi.map (ev E ts') := by cases hi <;> simp; exact h _ (by simp)
    simp only [opW, ho, h0, h1, h2]
  | call cl =>
    simp only [ho, Op.operands] at h
    have h1 : ∀ x ∈ cl.args.toList, ev E ts x = ev E ts' x := fun x hx => h x (by unfold Call.operands; simp at hx ⊢; exact .inr hx)
    have h2 : cl.args.toList.map (ev E ts) = cl.args.toList.map (ev E ts') := List.map_congr_left h1
    cases hc : cl.callee with
    | value x =>
      have h3 : ev E ts x = ev E ts' x := h x (by simp [Call.operands, hc])
      cases x <;> simp only [opW, ho, hc, h2] <;> simp only [h3]
    | invoke r m =>
      have h3 : ev E ts r = ev E ts' r := h r (by simp [Call.operands, hc])
      simp only [opW, ho, hc, h2, h3]
    | builtin b =>
      simp only [opW, ho, hc]
      clear h h2
      revert h1
      generalize (cl.argTypes[0]?).bind (elemB P) = z1
      generalize (cl.argTypes[0]?).bind P.underlying = z2
      generalize (cl.argTypes[1]?).bind P.underlying = z3
      generalize cl.args.toList = l
      intro h1
      rcases l with _ | ⟨x, _ | ⟨y, _ | ⟨z, l⟩⟩⟩
      · cases b <;> simp only
        all_goals first
          | rfl
          | (rcases z1 with _ | ⟨e, n, s⟩ <;> rcases z3 with _ | z3 <;> first | rfl | (cases z3 <;> rfl))
          | (rcases z2 with _ | z2 <;> first | rfl | (cases z2 <;> rfl))
      · have k1 := h1 x (by simp)
        cases b <;> simp only
        all_goals first
          | rfl
          | (rcases z1 with _ | ⟨e, n, s⟩ <;> rcases z3 with _ | z3 <;> first | rfl | (cases z3 <;> rfl))
          | (rcases z2 with _ | z2 <;> first | rfl | (cases z2 <;> first | rfl | simp only [k1]))
      · have k1 := h1 x (by simp)
        have k2 := h1 y (by simp)
        cases b <;> simp only
        all_goals first
          | rfl
          | (rcases z1 with _ | ⟨e, n, s⟩ <;> rcases z3 with _ | z3 <;> first | rfl | (cases z3 <;> first | rfl | simp only [k1, k2]))
          | (rcases z2 with _ | z2 <;> first | rfl | (cases z2 <;> rfl))
          | simp only [k1, k2]
      · cases b <;> simp only
        all_goals first
          | rfl
          | (rcases z1 with _ | ⟨e, n, s⟩ <;> rcases z3 with _ | z3 <;> first | rfl | (cases z3 <;> rfl))
          | (rcases z2 with _ | z2 <;> first | rfl | (cases z2 <;> rfl))
  | _ => simp only [ho, Op.operands] at h; simp_all [opW]

theorem opG_congr {o : Oper} {ts ts' : List AV} {H : AH} {K : Kt} (hs : ∀ t ∈ o.looksAt ops, ts.getD t undefA = ts'.getD t undefA) : opG E P ops o ts H K = opG E P ops o ts' H K := by
  have hr : ∀ K : Kt, opW E P o ts H K = opW E P o ts' H K := fun K => opW_congr (looks_ev (E := E) hs)
  unfold opG
  cases hg : o.guard with
  | none => simp only [hr]
  | some p =>
    obtain ⟨j, want⟩ := p
    simp only
    cases hd : (ops[j]?).bind (·.dst) with
    | none => rfl
    | some d => simp only [hs d (guard_looks hg hd), hr]

theorem Told.run {o : Oper} {ts : List AV} {H : AH} {x : AV} {K : Kt} (hl : lookOp o.op = true) (h : Told E P ops o ts H x) (hk : K x H) : opG E P ops o ts H K := by
  unfold Told opG at *
  cases hg : o.guard with
  | none =>
    simp only [hg] at h ⊢
    obtain ⟨y, hy, rfl, _⟩ := (opW_rd hl).1 h
    exact (opW_rd hl).2 ⟨y, hy, hk⟩
  | some p =>
    obtain ⟨j, want⟩ := p
    simp only [hg] at h ⊢
    cases hd : (ops[j]?).bind (·.dst) with
    | none => simp only [hd] at h
    | some d =>
      simp only [hd] at h ⊢
      obtain ⟨h⟩ := h
      refine ⟨h.imp ?_ ?_⟩
      · rintro ⟨b, hb, hy, hn⟩
        refine ⟨b, hb, fun hw => ?_, fun hw => (hn hw).1 ▸ hk⟩
        obtain ⟨y, hy', rfl, _⟩ := (opW_rd hl).1 (hy hw)
        exact (opW_rd hl).2 ⟨_, hy', hk⟩
      · rintro ⟨h1, h2, _⟩
        exact ⟨h1, h2 ▸ hk⟩

theorem rdA_bs {o : Oper} {ts : List AV} {bs : List Blk} {n m : Nat} : rdA E P o ts ⟨bs, n⟩ = rdA E P o ts ⟨bs, m⟩ := by
  cases ho : o.op with
  | load t x =>
    have h1 : ∀ a, load1 a ⟨bs, n⟩ = load1 a ⟨bs, m⟩ := fun a => by cases a <;> rfl
    have h2 : ∀ k a, loadN k a ⟨bs, n⟩ = loadN k a ⟨bs, m⟩ := fun k a => by cases a <;> rfl
    simp only [rdA, ho, h1, h2]
  | slice t x lo hi mx =>
    have h1 : ∀ k a l h, sliceA k a l h ⟨bs, n⟩ = sliceA k a l h ⟨bs, m⟩ := fun k a l h => by unfold sliceA; cases a <;> rfl
    simp only [rdA, ho, h1]
  | _ => simp only [rdA, ho]

theorem Told.bs {o : Oper} {ts : List AV} {bs : List Blk} {n m : Nat} {x : AV} (hl : lookOp o.op = true) (h : Told E P ops o ts ⟨bs, n⟩ x) : Told E P ops o ts ⟨bs, m⟩ x := by
  unfold Told opG at *
  have hr := rdA_bs (E := E) (P := P) (o := o) (ts := ts) (bs := bs) (n := n) (m := m)
  cases hg : o.guard with
  | none =>
    simp only [hg] at h ⊢
    obtain ⟨y, hy, hk⟩ := (opW_rd hl).1 h
    exact (opW_rd hl).2 ⟨y, by rw [← hr]; exact hy, hk.1, rfl⟩
  | some p =>
    obtain ⟨j, want⟩ := p
    simp only [hg] at h ⊢
    cases hd : (ops[j]?).bind (·.dst) with
    | none => simp only [hd] at h
    | some d =>
      simp only [hd] at h ⊢
      obtain ⟨h⟩ := h
      refine ⟨h.imp ?_ (fun h => ⟨h.1, h.2.1, rfl⟩)⟩
      rintro ⟨b, hb, hy, hn⟩
      refine ⟨b, hb, fun hw => ?_, fun hw => ⟨(hn hw).1, rfl⟩⟩
      obtain ⟨y, hy, hk⟩ := (opW_rd hl).1 (hy hw)
      exact (opW_rd hl).2 ⟨y, by rw [← hr]; exact hy, hk.1, rfl⟩

def Own (ops : Array Oper) : Prop := ∀ (i : Nat) (x : Oper), ops[i]? = some x → ∀ d, x.dst = some d → d ∉ x.looksAt ops ∧ ∀ (j : Nat) (y : Oper), j ≠ i → ops[j]? = some y → y.dst ≠ some d ∧ (d ∈ y.looksAt ops → waits y i = true)
theorem own_of (h : freeOk ops = true) : Own ops := by
  intro i x hx d hd
  have hi := (Array.getElem?_eq_some_iff.1 hx).1
  have := List.all_eq_true.1 h i (List.mem_range.2 hi)
  simp only [hx, hd, Bool.and_eq_true, Bool.not_eq_true'] at this
  refine ⟨fun hm => ?_, fun j y hj hy => ?_⟩
  · have h1 := this.1
    rw [List.contains_iff_mem.2 hm] at h1; cases h1
  · have hjs := (Array.getElem?_eq_some_iff.1 hy).1
    have h2 := List.all_eq_true.1 this.2 j (List.mem_range.2 hjs)
    have hne : (i == j) = false := by simpa using Ne.symm hj
    simp only [hne, hy, Bool.false_or, Bool.and_eq_true, bne_iff_ne, Bool.or_eq_true, Bool.not_eq_true'] at h2
    refine ⟨h2.1, fun hm => ?_⟩
    rcases h2.2 with h3 | h3
    · rw [List.contains_iff_mem.2 hm] at h3; cases h3
    · exact h3

/-- what an operation comes to, whenever it is done -/
def Fact (E : Env) (P : Program) (ops : Array Oper) (tsF : List AV) (bs : List Blk) (o : Oper) : Prop :=
  ∃ x, (∀ d, o.dst = some d → tsF[d]? = some x) ∧ (lookOp o.op = true → ∀ n, Told E P ops o tsF ⟨bs, n⟩ x) ∧ (lookOp o.op = false → ∀ n (K : Kt), (∀ n', K x ⟨bs, n'⟩) → opG E P ops o tsF ⟨bs, n⟩ K)

theorem free_facts {K : List AV → AH → Prop} (hp : Pairs ops) (hw : Own ops) : ∀ (rest pre : List Oper) (ts : List AV) (bs : List Blk) (n : Nat), ops.toList = pre ++ rest → (∀ (i : Nat) (o : Oper) d, ops[i]? = some o → o.dst = some d → d < ts.length) → freeW E P ops rest ts ⟨bs, n⟩ K →
    ∃ tsF, tsF.length = ts.length ∧ (∀ t : Nat, (∀ o ∈ rest, o.dst ≠ some t) → tsF[t]? = ts[t]?) ∧ (∀ n, K tsF ⟨bs, n⟩) ∧ ∀ o ∈ rest, Fact E P ops tsF bs o
  | [], pre, ts, bs, n, _, _, h => ⟨ts, rfl, fun _ _ => rfl, h, by simp⟩
  | o :: rest, pre, ts, bs, n, hpre, hlen, h => by
    have hat : ∀ (j : Nat) (y : Oper), (o :: rest)[j]? = some y → ops[pre.length + j]? = some y := fun j y hy => by
      rw [← Array.getElem?_toList, hpre, List.getElem?_append_right (by omega)]
      simpa using hy
    have ho := hat 0 o rfl
    simp only [Nat.add_zero] at ho
    have go : ∀ (x : AV) (n1 : Nat), freeW E P ops rest (putT ts o.dst x) ⟨bs, n1⟩ K → ((lookOp o.op = true → Told E P ops o ts ⟨bs, n⟩ x) ∧ (lookOp o.op = false → ∀ n (K : Kt), (∀ n', K x ⟨bs, n'⟩) → opG E P ops o ts ⟨bs, n⟩ K)) →
        ∃ tsF, tsF.length = ts.length ∧ (∀ t : Nat, (∀ o' ∈ o :: rest, o'.dst ≠ some t) → tsF[t]? = ts[t]?) ∧ (∀ n, K tsF ⟨bs, n⟩) ∧ ∀ o' ∈ o :: rest, Fact E P ops tsF bs o' := by
      intro x n1 hf hx
      have hpl : (putT ts o.dst x).length = ts.length := by cases o.dst <;> simp [putT]
      obtain ⟨tsF, h1, h2, h3, h4⟩ := free_facts hp hw rest (pre ++ [o]) (putT ts o.dst x) bs n1 (by simp [hpre]) (fun i o' d a b => by rw [hpl]; exact hlen i o' d a b) hf
      -- what 'o' looks at is as it was
      have hlook : ∀ t ∈ o.looksAt ops, ts.getD t undefA = tsF.getD t undefA := by
        intro t ht
        have hno : ∀ o' ∈ rest, o'.dst ≠ some t := by
          intro o' ho' hd
          obtain ⟨j, hj⟩ := List.getElem?_of_mem ho'
          have hy := hat (j + 1) o' (by simpa using hj)
          have := (hw _ o' hy t hd).2 pre.length o (by omega) ho
          obtain ⟨e, he, hb, he2⟩ := waits_iff.1 (this.2 ht)
          have := hp.low _ o ho e he hb
          omega
        have hself : o.dst ≠ some t := fun hd => (hw _ o ho t hd).1 ht
        have := h2 t hno
        simp only [List.getD, this]
        cases hd : o.dst with
        | none => rfl
        | some d =>
          have : d ≠ t := fun e => hself (by rw [hd, e])
          simp [putT, List.getElem?_set_ne this]
      refine ⟨tsF, h1.trans hpl, fun t ht => ?_, h3, fun o' ho' => ?_⟩
      · rw [h2 t fun o' ho' => ht o' (List.mem_cons_of_mem _ ho')]
        cases hd : o.dst with
        | none => rfl
        | some d =>
          have : d ≠ t := fun e => ht o (List.mem_cons_self ..) (by rw [hd, e])
          simp [putT, List.getElem?_set_ne this]
      · rcases List.mem_cons.1 ho' with rfl | ho'
        · refine ⟨x, fun d hd => ?_, fun hl n' => ((hx.1 hl).congr hl hlook).bs hl, fun hl n' K' hk => ?_⟩
          · have hno : ∀ o2 ∈ rest, o2.dst ≠ some d := by
              intro o2 ho2 hd2
              obtain ⟨j, hj⟩ := List.getElem?_of_mem ho2
              have hy := hat (j + 1) o2 (by simpa using hj)
              exact ((hw _ o' ho d hd).2 _ o2 (by omega) hy).1 hd2
            rw [h2 d hno, hd]
            simp [putT, hlen _ o' d ho hd]
          · rw [← opG_congr hlook]
            exact hx.2 hl n' K' hk
        · exact h4 o' ho'
    unfold freeW at h
    split at h
    · rename_i hl
      obtain ⟨x, hk, ht⟩ := told_of hl h
      exact go x n hk ⟨fun _ => ht, fun h => by rw [hl] at h; cases h⟩
    · rename_i hl
      obtain ⟨x, hx, hk⟩ := h
      exact go x n hk ⟨fun h => absurd h hl, fun _ n' K' hk' => hx n' K' hk'⟩

theorem allW_of : ∀ {l : List Prop}, l ≠ [] → (∀ p ∈ l, p) → allW l
  | [], h, _ => absurd rfl h
  | [p], _, h => h p (by simp)
  | p :: q :: l, _, h => ⟨h p (by simp), allW_of (l := q :: l) (by simp) fun r hr => h r (List.mem_cons_of_mem _ hr)⟩
theorem again_of {ts : List AV} {H : AH} {p : Prop} (hp : p) : ∀ (l : List Nat), (∀ j ∈ l, ∀ y d, ops[j]? = some y → y.dst = some d → Told E P ops y ts H (ts.getD d undefA)) → againW E P ops ts H l p
  | [], _ => hp
  | i :: l, h => by
    have ih := again_of hp l fun j hj => h j (List.mem_cons_of_mem _ hj)
    unfold againW
    split
    · rename_i o ho
      split
      · rename_i d hd
        exact ⟨h i (List.mem_cons_self ..) o d ho hd, ih⟩
      · exact ih
    · exact ih

theorem free_draw {K : List AV → AH → Prop} {tsF : List AV} {bs : List Blk} (hp : Pairs ops) (hw : Own ops) (hlen : ∀ (i : Nat) (o : Oper) d, ops[i]? = some o → o.dst = some d → d < tsF.length) (hK : ∀ n, K tsF ⟨bs, n⟩) (hf : ∀ o ∈ ops.toList, Fact E P ops tsF bs o) :
    ∀ (f : Nat) (done : Array Bool) (ts : List AV) (n : Nat), done.size = ops.size → Closed ops done → ts.length = tsF.length → cntF done.toList ≤ f → (∀ t : Nat, (∀ (i : Nat) (o : Oper), ops[i]? = some o → done.getD i false = false → o.dst ≠ some t) → ts[t]? = tsF[t]?) → drawW E P ops f done ts ⟨bs, n⟩ K := by
  intro f
  induction f with
  | zero =>
    intro done ts n hs hc hl hcnt hts
    have hall : ∀ i, i < ops.size → done.getD i false = true := by
      intro i hi
      have := cntF_zero done.toList (by omega) i (done[i]'(by omega)) (by simp [hs, hi])
      simp [Array.getD_eq_getD_getElem?, hs, hi, this]
    have hr : Region.ready .any ops done = [] := by
      cases hx : Region.ready .any ops done with
      | nil => rfl
      | cons i l =>
        exfalso
        obtain ⟨o, ho, h1, _⟩ := mem_ready.1 (by rw [hx]; exact List.mem_cons_self .. : i ∈ Region.ready .any ops done)
        have hi := (Array.getElem?_eq_some_iff.1 ho).1
        have := hall i hi
        rw [getD_ft (by omega) false true, h1] at this; cases this
    simp only [drawW, if_pos hr]
    have : ts = tsF := List.ext_getElem? fun t => hts t fun i o ho hd => by
      rw [hall i (Array.getElem?_eq_some_iff.1 ho).1] at hd; cases hd
    rw [this]; exact hK n
  | succ f ih =>
    intro done ts n hs hc hl hcnt hts
    -- the step of 'i'
    have hlk : ∀ (i : Nat) (o : Oper), ops[i]? = some o → (∀ e ∈ o.after, Region.binds .any e = true → done.getD e.on false = true) → ∀ t ∈ o.looksAt ops, tsF.getD t undefA = ts.getD t undefA := by
      intro i o ho hrd t ht
      have := hts t fun j y hy hdj hd => by
        obtain ⟨h1, h2⟩ := hw j y hy t hd
        by_cases hij : i = j
        · subst hij
          rw [ho] at hy; injection hy with hy; subst hy
          exact h1 ht
        · obtain ⟨e, he, hb, he2⟩ := waits_iff.1 ((h2 i o hij ho).2 ht)
          have := hrd e he hb
          rw [he2, hdj] at this; cases this
      simp only [List.getD, this]
    have step : ∀ (i : Nat) (o : Oper), ops[i]? = some o → i ∈ Region.ready .any ops done → ∀ x, (∀ d, o.dst = some d → tsF[d]? = some x) → ∀ n', drawW E P ops f (done.setIfInBounds i true) (putT ts o.dst x) ⟨bs, n'⟩ K ∧ ∀ t, (∀ (j : Nat) (y : Oper), ops[j]? = some y → (done.setIfInBounds i true).getD j false = false → y.dst ≠ some t) → (putT ts o.dst x)[t]? = tsF[t]? := by
      intro i o ho hr x hx n'
      obtain ⟨o', ho', hnd, hrd⟩ := mem_ready.1 hr
      rw [ho] at ho'; injection ho' with ho'; subst ho'
      have hi : i < done.size := by rw [hs]; exact (Array.getElem?_eq_some_iff.1 ho).1
      have hT : ∀ t, (∀ (j : Nat) (y : Oper), ops[j]? = some y → (done.setIfInBounds i true).getD j false = false → y.dst ≠ some t) → (putT ts o.dst x)[t]? = tsF[t]? := by
        intro t ht
        by_cases hd : o.dst = some t
        · have htl := hlen i o t ho hd
          rw [hd, hx t hd]
          simp [putT, hl, htl]
        · have : (putT ts o.dst x)[t]? = ts[t]? := by
            cases hd2 : o.dst with
            | none => rfl
            | some d =>
              have : d ≠ t := fun e => hd (by rw [hd2, e])
              simp [putT, List.getElem?_set_ne this]
          rw [this]
          refine hts t fun j y hy hdj hdst => ?_
          by_cases hij : j = i
          · subst hij
            rw [ho] at hy; injection hy with hy; subst hy
            exact hd hdst
          · exact ht j y hy (by rw [getD_setB hi, if_neg hij]; exact hdj) hdst
      refine ⟨ih _ _ n' (by simp [hs]) (hc.set hs hr) (by cases o.dst <;> simp [putT, hl]) ?_ hT, hT⟩
      have hget : done.toList[i]? = some false := by
        simp [Array.getD_eq_getD_getElem?, hi] at hnd
        simp [hi, hnd]
      have := cntF_set done.toList i hget
      simp only [Array.toList_setIfInBounds]
      omega
    simp only [drawW]
    cases hfr : firstRead ops (Region.ready .any ops done) with
    | some i =>
      obtain ⟨hmem, o, ho, hlo⟩ := firstRead_some _ i hfr
      simp only [ho]
      obtain ⟨x, hx, htold, _⟩ := hf o (Array.mem_toList_iff.2 (Array.mem_of_getElem? ho))
      obtain ⟨o', ho', _, hrd⟩ := mem_ready.1 hmem
      rw [ho] at ho'; injection ho' with ho'; subst ho'
      exact Told.run hlo ((htold hlo n).congr hlo (hlk i o ho hrd)) (step i o ho hmem x hx n).1
    | none =>
      simp only
      split
      · rename_i hr
        have hall := all_listed hp hs hr
        have : ts = tsF := List.ext_getElem? fun t => hts t fun i o ho hd => by
          rw [hall i (Array.getElem?_eq_some_iff.1 ho).1] at hd; cases hd
        rw [this]; exact hK n
      · rename_i l hne
        refine allW_of (by simpa using hne) ?_
        intro p hpm
        obtain ⟨i, hi, rfl⟩ := List.mem_map.1 hpm
        obtain ⟨o, ho, hnd, hrd⟩ := mem_ready.1 hi
        simp only [ho]
        have hlo := firstRead_none _ hfr i hi o ho
        obtain ⟨x, hx, _, hop⟩ := hf o (Array.mem_toList_iff.2 (Array.mem_of_getElem? ho))
        rw [← opG_congr (hlk i o ho hrd)]
        refine hop hlo n _ fun n' => ?_
        obtain ⟨hs1, hs2⟩ := step i o ho hi x hx n'
        refine again_of hs1 _ fun j hj y d hy hd => ?_
        unfold again at hj
        simp only [List.mem_filter, List.mem_range, Bool.and_eq_true, Bool.not_eq_true', hy] at hj
        obtain ⟨_, ⟨hdj, hlj, _⟩, _⟩ := hj
        obtain ⟨z, hz, htold, _⟩ := hf y (Array.mem_toList_iff.2 (Array.mem_of_getElem? hy))
        have hi' : i < done.size := by rw [hs]; exact (Array.getElem?_eq_some_iff.1 ho).1
        have hpend : ∀ (t : Nat), (∀ (k : Nat) (u : Oper), ops[k]? = some u → done.getD k false = false → u.dst ≠ some t) → (putT ts o.dst x)[t]? = tsF[t]? := fun t ht => hs2 t fun k u hu hk => by
          refine ht k u hu ?_
          rw [getD_setB hi'] at hk
          split at hk
          · cases hk
          · exact hk
        have hval : (putT ts o.dst x).getD d undefA = z := by
          have h1 := hpend d fun k u hu hk hdu => by
            by_cases hkj : k = j
            · subst hkj
              rw [hdj] at hk; cases hk
            · exact ((hw j y hy d hd).2 k u hkj hu).1 hdu
          simp [List.getD, h1, hz d hd]
        rw [hval]
        refine (htold hlj n').congr hlj fun t ht => ?_
        have h1 := hpend t fun k u hu hk hdu => by
          obtain ⟨h2, h3⟩ := hw k u hu t hdu
          by_cases hkj : j = k
          · subst hkj
            rw [hdj] at hk; cases hk
          · obtain ⟨e, he, hb, he2⟩ := waits_iff.1 ((h3 j y hkj hy).2 ht)
            have := hc j y hy hdj e he hb
            rw [he2, hk] at this; cases this
        simp only [List.getD, h1]

theorem free_draw_W {ts : List AV} {H : AH} {K : List AV → AH → Prop} (hok : drawOk P ops ts.length = true) (hfree : freeOk ops = true) (h : freeW E P ops ops.toList ts H K) : drawW E P ops ops.size (Array.replicate ops.size false) ts H K := by
  simp only [drawOk, Bool.and_eq_true] at hok
  obtain ⟨⟨⟨_, _⟩, hp⟩, hall⟩ := hok
  have hp := pairs_of hp
  have hw := own_of hfree
  have hlen : ∀ (i : Nat) (o : Oper) d, ops[i]? = some o → o.dst = some d → d < ts.length := by
    intro i o d ho hdst
    have := List.all_eq_true.1 hall o (Array.mem_toList_iff.2 (Array.mem_of_getElem? ho))
    simpa [hdst] using this
  obtain ⟨bs, n⟩ := H
  obtain ⟨tsF, h1, h2, h3, h4⟩ := free_facts hp hw ops.toList [] ts bs n rfl hlen h
  have hno : ∀ i, (Array.replicate ops.size false).getD i false = false := by
    intro i
    simp only [Array.getD_eq_getD_getElem?, Array.getElem?_replicate]
    split <;> rfl
  refine free_draw hp hw (fun i o d ho hd => by rw [h1]; exact hlen i o d ho hd) h3 h4 ops.size _ ts n (by simp) (fun i o ho hi => by rw [hno] at hi; cases hi) h1.symm (by simp [cntF_replicate]) fun t ht => (h2 t fun o ho hd => ?_).symm
  obtain ⟨i, hi⟩ := List.getElem?_of_mem ho
  rw [Array.getElem?_toList] at hi
  exact ht i o hi (hno i) hd
end
end Go.Sc
namespace Go.Sc
open Go

section
variable {E : Env} {P : Program}

/-- how a way out stands to ours -/
def exitRel : Exit → AX → Prop
  | .normal, .normal => True
  | .exit i, .exit j => i = j
  | .ret, .ret => True
  | _, _ => False

def QR (E : Env) (c : Cx) (W : List Nat) (ts : List AV) (Q : AX → List AV → AH → Prop) : Exit → Act → World → Prop := fun e a' w' =>
  ∃ e' ts' c' H', c'.w = w' ∧ exitRel e e' ∧ Q e' ts' H' ∧ HRel E c' H' ∧ LRel E c' ts' a'.tmps.toList ∧ a'.defers = [] ∧ Later c c' ∧ Agree W ts ts'

theorem KN.app_of : ∀ (n : Nat) (f : List AV → AH → Prop) (xs : List AV) (H : AH), xs.length = n → KN.app n (KN.of n f) xs H → f xs H
  | 0, f, xs, H, hl, h => by
    have : xs = [] := List.eq_nil_of_length_eq_zero hl
    subst this; exact h
  | n + 1, f, [], H, hl, h => by simp at hl
  | n + 1, f, x :: xs, H, hl, h => KN.app_of n (fun xs => f (x :: xs)) xs H (by simpa using hl) h
theorem KN.le_app : ∀ (n : Nat) (j k : KN n) (xs : List AV) (H : AH), KN.le n j k → xs.length = n → KN.app n j xs H → KN.app n k xs H
  | 0, j, k, xs, H, hle, _, h => hle H h
  | n + 1, j, k, [], H, hle, hl, h => by simp at hl
  | n + 1, j, k, x :: xs, H, hle, hl, h => KN.le_app n (j x) (k x) xs H (hle x) (by simpa using hl) h

theorem junk_agree : ∀ (W : List Nat) (ts : List AV), Agree W ts (junkL ts W)
  | [], ts => Agree.refl _ _
  | t :: W, ts => by
    have h1 : Agree [t] ts (ts.set t .junk) := ⟨by simp, fun i hi => by simp at hi; rw [List.getElem?_set_ne (Ne.symm hi)]⟩
    exact h1.trans (junk_agree W _)
theorem junk_get : ∀ (W : List Nat) (ts : List AV) (t : Nat), (junkL ts W)[t]? = if t ∈ W then ts[t]?.map (fun _ => AV.junk) else ts[t]?
  | [], ts, t => by simp [junkL]
  | w :: W, ts, t => by
    simp only [junkL]
    rw [junk_get W]
    by_cases h : t ∈ W
    · simp only [h, if_true, List.mem_cons, or_true]
      by_cases hw : w = t
      · subst hw
        by_cases hl : w < ts.length
        · simp [hl]
        · simp [List.set_eq_of_length_le (Nat.le_of_not_lt hl)]
      · rw [List.getElem?_set_ne hw]
    · by_cases hw : w = t
      · subst hw
        simp only [h, if_false, List.mem_cons, true_or, if_true]
        by_cases hl : w < ts.length
        · simp [hl]
        · simp [List.set_eq_of_length_le (Nat.le_of_not_lt hl), List.getElem?_eq_none (Nat.le_of_not_lt hl)]
      · simp only [h, if_false, List.mem_cons, or_false, Ne.symm hw]
        rw [List.getElem?_set_ne hw]
theorem junk_eq {W : List Nat} {ts ts1 : List AV} (h : Agree W ts ts1) : junkL ts W = junkL ts1 W := by
  apply List.ext_getElem?
  intro t
  rw [junk_get, junk_get]
  by_cases ht : t ∈ W
  · simp only [ht, if_true]
    by_cases hl : t < ts.length
    · have hl1 : t < ts1.length := by rw [h.1]; exact hl
      simp [hl, hl1]
    · have hl1 : ¬ t < ts1.length := by rw [h.1]; exact hl
      simp [hl, hl1]
  · simp only [ht, if_false]; exact (h.2 t ht).symm
theorem junk_rel {c : Cx} : ∀ (W : List Nat) (ts : List AV) (vs : List Value), LRel E c ts vs → LRel E c (junkL ts W) vs
  | [], ts, vs, h => h
  | t :: W, ts, vs, h => by
    refine junk_rel W _ _ ?_
    by_cases ht : t < vs.length
    · have := h.set t (x := .junk) (v := vs[t]) (by simp [VRel])
      rwa [List.set_getElem_self] at this
    · rw [List.set_eq_of_length_le (by rw [h.length]; omega)]; exact h
theorem fill_rel {c : Cx} (W : List Nat) : ∀ (l : List Nat) (ts xs : List AV) (vs : List Value), LRel E c ts vs → LRel E c xs (l.map fun t => vs.getD t undef) → LRel E c (fillW W ts l xs) vs
  | [], ts, xs, vs, h, _ => by cases xs <;> exact h
  | t :: l, ts, [], vs, h, h' => by simp [LRel] at h'
  | t :: l, ts, x :: xs, vs, h, h' => by
    simp only [List.map_cons, LRel, fillW] at h' ⊢
    obtain ⟨u, us, he, hu, h'⟩ := h'
    injection he with e1 e2
    subst e1 e2
    refine fill_rel W l _ xs vs ?_ h'
    cases W.contains t with
    | false => exact h
    | true =>
      simp only [cond_true]
      by_cases ht : t < vs.length
      · have := h.set t hu
        simp only [List.getD, List.getElem?_eq_getElem ht, Option.getD_some] at this
        rwa [List.set_getElem_self] at this
      · rw [List.set_eq_of_length_le (by rw [h.length]; omega)]; exact h
theorem looks_rel {c : Cx} {ts : List AV} {vs : List Value} (h : LRel E c ts vs) : ∀ l : List Nat, LRel E c (looks ts l) (l.map fun t => vs.getD t undef)
  | [] => by simp [looks, LRel]
  | t :: l => by
    simp only [looks, List.map_cons, LRel]
    refine ⟨_, _, rfl, ?_, looks_rel h l⟩
    by_cases ht : t < ts.length
    · obtain ⟨v, h1, h2⟩ := h.get (List.getElem?_eq_getElem ht)
      simpa [List.getD, List.getElem?_eq_getElem ht, h1] using h2
    · have h2 : ¬ t < vs.length := by rw [← h.length]; exact ht
      simp [List.getD, List.getElem?_eq_none (Nat.le_of_not_lt ht), List.getElem?_eq_none (Nat.le_of_not_lt h2), undefA, undef, VRel]
theorem fill_agree (W : List Nat) : ∀ (l : List Nat) (ts0 ts xs : List AV), Agree W ts0 ts → Agree W ts0 (fillW W ts l xs)
  | [], ts0, ts, xs, h => by cases xs <;> exact h
  | t :: l, ts0, ts, [], h => h
  | t :: l, ts0, ts, x :: xs, h => by
    simp only [fillW]
    refine fill_agree W l ts0 _ xs ?_
    cases hc : W.contains t with
    | false => exact h
    | true =>
      refine ⟨by simpa using h.1, fun i hi => ?_⟩
      simp only [cond_true]
      by_cases hit : t = i
      · subst hit; simp at hc; exact absurd hc hi
      · rw [List.getElem?_set_ne hit]; exact h.2 i hi

theorem exists_least {p : Nat → Prop} (h : ∃ n, p n) : ∃ n, p n ∧ ∀ m, m < n → ¬ p m := by
  obtain ⟨n, hn⟩ := h
  induction n using Nat.strongRecOn with
  | _ n ih =>
    by_cases hx : ∃ m, m < n ∧ p m
    · obtain ⟨m, hm, hp⟩ := hx; exact ih m hm hp
    · exact ⟨n, hn, fun m hm hp => hx ⟨m, hm, hp⟩⟩

/-- a loop whose relation bears what is left -/
theorem wp_loop_left {c : Code} {Q : Exit → Act → World → Prop} {a : Act} {w : World} (I : Nat → Act → World → Prop) (h₀ : ∃ m, I m a w)
    (round : ∀ m a w, I m a w → c.wp P (Exit.then (fun a' w' => ∃ m', m' < m ∧ I m' a' w') Q) a w) : (Code.loop c).wp P Q a w := by
  classical
  let μ : Act → World → Nat := fun a w => if h : ∃ m, I m a w then (exists_least h).choose else 0
  have hμ : ∀ a w, (∃ m, I m a w) → I (μ a w) a w ∧ ∀ m, I m a w → μ a w ≤ m := by
    intro a w h
    have hs := (exists_least h).choose_spec
    simp only [μ, dif_pos h]
    exact ⟨hs.1, fun m hm => Nat.le_of_not_lt fun hlt => hs.2 m hlt hm⟩
  refine wp_loop (fun a w => ∃ m, I m a w) μ h₀ fun a w h => ?_
  refine wp_mono (round _ a w (hμ a w h).1) fun e a' w' hq => ?_
  cases e <;> try exact hq
  obtain ⟨m', hlt, hI⟩ := hq
  exact ⟨⟨m', hI⟩, Nat.lt_of_le_of_lt ((hμ a' w' ⟨m', hI⟩).2 m' hI) hlt⟩

theorem QR.after {c c1 : Cx} {W W1 W2 : List Nat} {ts ts1 : List AV} {Q : AX → List AV → AH → Prop} (hL : Later c c1) (hA : Agree W1 ts ts1) (hs : ∀ t ∈ W1 ++ W2, t ∈ W) {e : Exit} {a : Act} {w : World} (h : QR E c1 W2 ts1 Q e a w) : QR E c W ts Q e a w := by
  obtain ⟨e', ts', c', H', h1, h2, h3, h4, h5, h6, h7, h8⟩ := h
  exact ⟨e', ts', c', H', h1, h2, h3, h4, h5, h6, hL.trans h7, (hA.trans h8).mono hs⟩

theorem wpC_sound : ∀ (code : Code) (n : Ann) (Q : AX → List AV → AH → Prop) (ts : List AV) (H : AH), wpC E P code n Q ts H → ∀ (c : Cx) (a : Act), HRel E c H → LRel E c ts a.tmps.toList → a.defers = [] → code.wp P (QR E c (Code.writes code) ts Q) a c.w := by
  intro code
  induction code with
  | skip =>
    intro n Q ts H h c a hH hr hd
    simp only [wpC] at h
    exact wp_skip ⟨.normal, ts, c, H, rfl, trivial, h, hH, hr, hd, Later.refl c, Agree.refl _ _⟩
  | region id ops draw =>
    intro n Q ts H h c a hH hr hd
    cases draw with
    | false =>
      simp only [wpC] at h
      exact region_sound h hH hr hd fun ts' H' c' a' h1 h2 h3 h4 h5 h6 => ⟨.normal, ts', c', H', rfl, trivial, h1, h2, h3, h4, h5, h6⟩
    | true =>
      cases n with
      | draw =>
        simp only [wpC] at h
        split at h
        · rename_i hok
          exact region_draw_sound hok h hH hr hd fun ts' H' c' a' h1 h2 h3 h4 h5 h6 => ⟨.normal, ts', c', H', rfl, trivial, h1, h2, h3, h4, h5, h6⟩
        · exact h.elim
      | free =>
        simp only [wpC] at h
        split at h
        · rename_i hok
          rw [Bool.and_eq_true] at hok
          exact region_draw_sound hok.1 (free_draw_W hok.1 hok.2 h) hH hr hd fun ts' H' c' a' h1 h2 h3 h4 h5 h6 => ⟨.normal, ts', c', H', rfl, trivial, h1, h2, h3, h4, h5, h6⟩
        · exact h.elim
      | _ => simp only [wpC] at h
  | seq x y ihx ihy =>
    intro n Q ts H h c a hH hr hd
    cases n with
    | seq j nx ny =>
      cases j with
      | none =>
        simp only [wpC] at h
        refine wp_seq (wp_mono (ihx nx _ ts H h c a hH hr hd) fun e a1 w1 hq => ?_)
        obtain ⟨e', ts1, c1, H1, rfl, he, hq, h1, h2, h3, h4, h5⟩ := hq
        cases e with
        | normal =>
          cases e' <;> simp only [exitRel] at he
          refine wp_mono (ihy ny Q ts1 H1 hq c1 a1 h1 h2 h3) fun e2 a2 w2 hq2 => ?_
          exact hq2.after h4 h5 (fun t ht => by simpa [Code.writes] using ht)
        | exit i => cases e' <;> simp only [exitRel] at he; subst he; exact ⟨.exit i, ts1, c1, H1, rfl, rfl, hq, h1, h2, h3, h4, h5.mono fun t ht => by simp [Code.writes, ht]⟩
        | ret => cases e' <;> simp only [exitRel] at he; exact ⟨.ret, ts1, c1, H1, rfl, trivial, hq, h1, h2, h3, h4, h5.mono fun t ht => by simp [Code.writes, ht]⟩
        | goto l => simp only [exitRel] at he
        | panic ch => simp only [exitRel] at he
        | outgrown => simp only [exitRel] at he
      | some l =>
        simp only [wpC] at h
        obtain ⟨J, hm, hle⟩ := h
        refine wp_seq (wp_mono (ihx nx _ ts H hm c a hH hr hd) fun e a1 w1 hq => ?_)
        obtain ⟨e', ts1, c1, H1, rfl, he, hq, h1, h2, h3, h4, h5⟩ := hq
        cases e with
        | normal =>
          cases e' <;> simp only [exitRel] at he
          obtain ⟨xs', H1', hlen, hgh, hJ⟩ := KN.app_of _ _ _ _ (by simp [looks]) hq
          obtain ⟨c1', hw1, hL1, hH1, hx1⟩ := hgh E c1 h1
          have hq' := KN.app_of _ _ _ _ hlen (KN.le_app _ _ _ _ _ hle hlen hJ)
          have hrel : LRel E c1' (fillW (Code.writes x) (junkL ts (Code.writes x)) l xs') a1.tmps.toList := by
            rw [junk_eq h5]; exact fill_rel _ l _ _ _ (LRel.le hL1.le _ _ (junk_rel _ _ _ h2)) (hx1 _ (looks_rel h2 l))
          rw [← hw1]
          refine wp_mono (ihy ny Q _ H1' hq' c1' a1 hH1 hrel h3) fun e2 a2 w2 hq2 => ?_
          exact hq2.after (h4.trans hL1) (fill_agree _ _ _ _ _ (junk_agree _ _)) (fun t ht => by simpa [Code.writes] using ht)
        | exit i => cases e' <;> simp only [exitRel] at he; subst he; exact ⟨.exit i, ts1, c1, H1, rfl, rfl, hq, h1, h2, h3, h4, h5.mono fun t ht => by simp [Code.writes, ht]⟩
        | ret => cases e' <;> simp only [exitRel] at he; exact ⟨.ret, ts1, c1, H1, rfl, trivial, hq, h1, h2, h3, h4, h5.mono fun t ht => by simp [Code.writes, ht]⟩
        | goto l => simp only [exitRel] at he
        | panic ch => simp only [exitRel] at he
        | outgrown => simp only [exitRel] at he
    | _ => simp only [wpC] at h
  | cond x a1 a2 ih1 ih2 =>
    intro n Q ts H h c a hH hr hd
    cases n with
    | two n1 n2 =>
      simp only [wpC] at h
      obtain ⟨b, hb, ht, hf⟩ := h
      have hv := ev_rel hH hr x
      rw [hb] at hv; simp only [VRel] at hv
      refine wp_cond_split hv (fun hbt => ?_) (fun hbf => ?_)
      · exact wp_mono (ih1 n1 Q ts H (ht hbt) c a hH hr hd) fun e a' w' hq => hq.after (W1 := []) (Later.refl c) (Agree.refl _ _) (fun t ht => by simp at ht; simp [Code.writes, ht])
      · exact wp_mono (ih2 n2 Q ts H (hf hbf) c a hH hr hd) fun e a' w' hq => hq.after (W1 := []) (Later.refl c) (Agree.refl _ _) (fun t ht => by simp at ht; simp [Code.writes, ht])
    | _ => simp only [wpC] at h
  | block id x ih =>
    intro n Q ts H h c a hH hr hd
    cases n with
    | one nx =>
      simp only [wpC] at h
      refine wp_block (wp_mono (ih nx _ ts H h c a hH hr hd) fun e a1 w1 hq => ?_)
      obtain ⟨e', ts1, c1, H1, rfl, he, hq, h1, h2, h3, h4, h5⟩ := hq
      cases e with
      | normal => cases e' <;> simp only [exitRel] at he; exact ⟨.normal, ts1, c1, H1, rfl, trivial, hq, h1, h2, h3, h4, h5⟩
      | exit i =>
        cases e' <;> simp only [exitRel] at he
        subst he
        simp only [Exit.inBlock, AX.inBlock] at hq ⊢
        split
        · rename_i hi; rw [if_pos hi] at hq; exact ⟨.normal, ts1, c1, H1, rfl, trivial, hq, h1, h2, h3, h4, h5⟩
        · rename_i hi; rw [if_neg hi] at hq; exact ⟨.exit i, ts1, c1, H1, rfl, rfl, hq, h1, h2, h3, h4, h5⟩
      | ret => cases e' <;> simp only [exitRel] at he; exact ⟨.ret, ts1, c1, H1, rfl, trivial, hq, h1, h2, h3, h4, h5⟩
      | goto l => simp only [exitRel] at he
      | panic ch => simp only [exitRel] at he
      | outgrown => simp only [exitRel] at he
    | _ => simp only [wpC] at h
  | scope x ih =>
    intro n Q ts H h c a hH hr hd
    cases n with
    | one nx =>
      simp only [wpC] at h
      refine wp_scope_straight (wp_mono (ih nx _ ts H h c a hH hr hd) fun e a1 w1 hq => ?_)
      obtain ⟨e', ts1, c1, H1, rfl, he, hq, h1, h2, h3, h4, h5⟩ := hq
      cases e with
      | normal => exact ⟨e', ts1, c1, H1, rfl, he, hq, h1, h2, h3, h4, h5⟩
      | exit i => exact ⟨e', ts1, c1, H1, rfl, he, hq, h1, h2, h3, h4, h5⟩
      | ret => exact ⟨e', ts1, c1, H1, rfl, he, hq, h1, h2, h3, h4, h5⟩
      | goto l => cases e' <;> simp only [exitRel] at he
      | panic ch => cases e' <;> simp only [exitRel] at he
      | outgrown => cases e' <;> simp only [exitRel] at he
    | _ => simp only [wpC] at h
  | loop x ih =>
    intro n Q ts H h c a hH hr hd
    cases n with
    | loop l nx =>
      simp only [wpC] at h
      obtain ⟨I, ⟨m0, hm0⟩, hbody⟩ := h
      refine wp_loop_left (fun m a' w' => ∃ ts' c' H', c'.w = w' ∧ KN.app l.length (KN.gh l.length (I m)) (looks ts' l) H' ∧ HRel E c' H' ∧ LRel E c' ts' a'.tmps.toList ∧ a'.defers = [] ∧ Later c c' ∧ Agree (Code.writes x) ts ts')
        ⟨m0, ts, c, H, rfl, hm0, hH, hr, hd, Later.refl c, Agree.refl _ _⟩ ?_
      rintro m a1 w1 ⟨ts1, c0, H0, rfl, hI, h10, h2, h3, h40, h5⟩
      obtain ⟨xs', H1, hlen, hgh, hJ⟩ := KN.app_of _ _ _ _ (by simp [looks]) hI
      obtain ⟨c1, hw1, hL1, h1, hx1⟩ := hgh E c0 h10
      have h4 := h40.trans hL1
      have hb := KN.app_of _ _ _ _ hlen (KN.le_app _ _ _ _ _ (hbody m) hlen hJ)
      have hrel : LRel E c1 (fillW (Code.writes x) (junkL ts (Code.writes x)) l xs') a1.tmps.toList := by
        rw [junk_eq h5]; exact fill_rel _ l _ _ _ (LRel.le hL1.le _ _ (junk_rel _ _ _ h2)) (hx1 _ (looks_rel h2 l))
      have hag : Agree (Code.writes x) ts (fillW (Code.writes x) (junkL ts (Code.writes x)) l xs') := fill_agree _ _ _ _ _ (junk_agree _ _)
      rw [← hw1]
      refine wp_mono (ih nx _ _ H1 hb c1 a1 h1 hrel h3) fun e a2 w2 hq => ?_
      obtain ⟨e', ts2, c2, H2, rfl, he, hq, k1, k2, k3, k4, k5⟩ := hq
      have hag2 : Agree (Code.writes x) ts ts2 := (hag.trans k5).mono fun t ht => by simpa using ht
      cases e with
      | normal =>
        cases e' <;> simp only [exitRel] at he
        obtain ⟨m', hlt, hq⟩ := KN.app_of _ _ _ _ (by simp [looks]) hq
        exact ⟨m', hlt, ts2, c2, H2, rfl, hq, k1, k2, k3, h4.trans k4, hag2⟩
      | exit i => cases e' <;> simp only [exitRel] at he; subst he; exact ⟨.exit i, ts2, c2, H2, rfl, rfl, hq, k1, k2, k3, h4.trans k4, hag2⟩
      | ret => cases e' <;> simp only [exitRel] at he; exact ⟨.ret, ts2, c2, H2, rfl, trivial, hq, k1, k2, k3, h4.trans k4, hag2⟩
      | goto l => simp only [exitRel] at he
      | panic ch => simp only [exitRel] at he
      | outgrown => simp only [exitRel] at he
    | _ => simp only [wpC] at h
  | exit id =>
    intro n Q ts H h c a hH hr hd
    simp only [wpC] at h
    exact wp_exit ⟨.exit id, ts, c, H, rfl, rfl, h, hH, hr, hd, Later.refl c, Agree.refl _ _⟩
  | ret =>
    intro n Q ts H h c a hH hr hd
    simp only [wpC] at h
    exact wp_ret ⟨.ret, ts, c, H, rfl, trivial, h, hH, hr, hd, Later.refl c, Agree.refl _ _⟩
  | _ => intro n Q ts H h; simp only [wpC] at h

def tmpV (a : Act) : ResultVar → Value
  | .tmp t => a.tmps.getD t undef
  | _ => undef
theorem results_list {ts : List AV} {c : Cx} {H : AH} {a : Act} (hH : HRel E c H) (hr : LRel E c ts a.tmps.toList) (f : ResultVar → Sem Value) (hf : ∀ t, f (.tmp t) = pure (a.tmps.getD t undef)) : ∀ (l : List ResultVar), l.all isTmpR = true →
    (l.mapM f).run P c.w = Result.ok (l.map (tmpV a)) c.w ∧ LRel E c (l.map (tmpA ts)) (l.map (tmpV a))
  | [], _ => ⟨by simp, by simp [LRel]⟩
  | .tmp t :: l, h => by
    obtain ⟨i1, i2⟩ := results_list hH hr f hf l (by simpa [isTmpR] using h)
    refine ⟨?_, ?_⟩
    · simp only [List.mapM_cons, hf, Sem.run_bind, Sem.run_pure, Result.andThen_ok, i1, List.map_cons, tmpV]
    · simp only [List.map_cons, LRel]
      exact ⟨_, _, rfl, by simpa [ev, Act.eval, tmpV, tmpA] using ev_rel hH hr (.tmp t), i2⟩
  | .cell ad t :: l, h => by simp [isTmpR] at h

def resF (tmps : Array Value) : ResultVar → Sem Value
  | .tmp t => pure (tmps.getD t undef)
  | .cell a t => do loadVar t (← asAddr (tmps.getD a undef))
theorem results_eq (fn : Func) (tmps : Array Value) : results fn tmps = (do
    let vs ← fn.results.mapM (resF tmps)
    pure (if h : vs.size = 1 then vs[0] else .tuple vs)) := by
  unfold results
  congr 1

theorem results_any {ts : List AV} {H : AH} {c : Cx} {a : Act} (hH : HRel E c H) (hr : LRel E c ts a.tmps.toList) (f : ResultVar → Sem Value) (hf : ∀ t, f (.tmp t) = pure (a.tmps.getD t undef)) (hg : ∀ ad t, f (.cell ad t) = (do loadVar t (← asAddr (a.tmps.getD ad undef)))) :
    ∀ (l : List ResultVar) (xs : List AV), allSome (l.map (retA P ts H)) = some xs → ∃ vs, (l.mapM f).run P c.w = Result.ok vs c.w ∧ LRel E c xs vs
  | [], xs, h => by simp [allSome] at h; subst h; exact ⟨[], by simp, by simp [LRel]⟩
  | r :: l, xs, h => by
    simp only [List.map_cons] at h
    cases hr1 : retA P ts H r with
    | none => rw [hr1] at h; simp [allSome] at h
    | some x =>
      rw [hr1] at h
      simp only [allSome, Option.map_eq_some_iff] at h
      obtain ⟨ys, hy, rfl⟩ := h
      obtain ⟨vs, i1, i2⟩ := results_any hH hr f hf hg l ys hy
      have key : ∃ v, (f r).run P c.w = Result.ok v c.w ∧ VRel E c x v := by
        cases r with
        | tmp t =>
          simp only [retA] at hr1; injection hr1 with hr1; subst hr1
          exact ⟨a.tmps.getD t undef, by simp [hf], by simpa [ev, Act.eval] using ev_rel hH hr (.tmp t)⟩
        | cell ad t =>
          simp only [retA] at hr1
          have hv : VRel E c (ts.getD ad undefA) (a.tmps.getD ad undef) := by simpa [ev, Act.eval] using ev_rel hH hr (.tmp ad)
          split at hr1
          · rename_i n ht
            obtain ⟨b, o', us, l', he, rfl, hlen, hl, hc⟩ := loadN_sound hH hr1 hv
            exact ⟨.agg us.toArray, by simp [hg, he, asAddr, run_loadVarN ht hlen hc], by simp only [VRel]; exact ⟨us, rfl, hl⟩⟩
          · rename_i n ht
            obtain ⟨b, o', u, he, hc, hu⟩ := load1_sound hH hr1 hv
            exact ⟨u, by simp [hg, he, asAddr, run_loadVar1 ht hc], hu⟩
          · cases hr1
      obtain ⟨v, k1, k2⟩ := key
      exact ⟨v :: vs, by simp only [List.mapM_cons, Sem.run_bind, k1, Result.andThen_ok, i1, Sem.run_pure], by simp only [LRel]; exact ⟨v, vs, rfl, k2, i2⟩⟩

theorem results_sound {fn : Func} {ts : List AV} {H : AH} {R : Kt} {c : Cx} {a : Act} (h : retW P fn ts H R) (hH : HRel E c H) (hr : LRel E c ts a.tmps.toList) : ∃ v r, (results fn a.tmps).run P c.w = .ok v c.w ∧ R r H ∧ VRel E c r v := by
  unfold retW at h
  split at h
  · rename_i t ht
    have hres : fn.results = #[.tmp t] := by
      have := congrArg List.toArray ht
      simpa using this
    refine ⟨a.tmps.getD t undef, _, ?_, h, by simpa [ev, Act.eval] using ev_rel hH hr (.tmp t)⟩
    simp [results, hres]
  · split at h
    · rename_i hc
      simp only [Bool.and_eq_true, bne_iff_ne] at hc
      refine ⟨.tuple (fn.results.toList.map (tmpV a)).toArray, _, ?_, h, ?_⟩
      · simp only [results, Array.mapM_eq_mapM_toList, Sem.run_bind, Sem.run_map]
        rw [(results_list (P := P) hH hr _ (fun t => rfl) fn.results.toList hc.1).1]
        simp only [Result.andThen_ok]
        have : ¬ ((fn.results.toList.map (tmpV a)).toArray.size = 1) := by simpa using hc.2
        rw [dif_neg this]
        rfl
      · simp only [VRel]; exact ⟨_, rfl, (results_list (P := P) hH hr (fun r => pure (tmpV a r)) (fun t => rfl) fn.results.toList hc.1).2⟩
    · obtain ⟨r, hp, hR⟩ := h
      unfold retPack at hp
      split at hp
      · rename_i x hx
        injection hp with hp; subst hp
        obtain ⟨vs, k1, k2⟩ := results_any (P := P) hH hr (resF a.tmps) (fun t => rfl) (fun ad t => rfl) fn.results.toList _ hx
        simp only [LRel] at k2
        obtain ⟨u, us, rfl, k2, rfl⟩ := k2
        refine ⟨u, x, ?_, hR, k2⟩
        simp only [results_eq, Array.mapM_eq_mapM_toList, Sem.run_bind, Sem.run_map]
        rw [k1]
        simp
      · rename_i xs hne hx
        injection hp with hp; subst hp
        obtain ⟨vs, k1, k2⟩ := results_any (P := P) hH hr (resF a.tmps) (fun t => rfl) (fun ad t => rfl) fn.results.toList _ hx
        refine ⟨.tuple vs.toArray, _, ?_, hR, by simp only [VRel]; exact ⟨vs, rfl, k2⟩⟩
        simp only [results_eq, Array.mapM_eq_mapM_toList, Sem.run_bind, Sem.run_map]
        rw [k1]
        simp only [Result.andThen_ok]
        have : ¬ (vs.toArray.size = 1) := by
          intro h1
          have hl := k2.length
          have : xs.length = 1 := by rw [hl]; simpa using h1
          obtain ⟨y, rfl⟩ := List.length_eq_one_iff.1 this
          exact hne y rfl
        rw [dif_neg this]
        rfl
      · cases hp

/-- A FUNCTION's CONTRACT OUT OF ITS CODE. -/
theorem calls_of_body {f : FuncId} {fn : Func} {n : Ann} {args : List AV} {H : AH} {R : Kt} (hf : P.funcs[f]? = some fn) (h : bodyW E P fn n args H R) {c : Cx} {vs : List Value} (hH : HRel E c H) (hv : LRel E c args vs) :
    Calls P f vs.toArray c.w fun e w' => ∃ r v c' H', e = .returned v ∧ c'.w = w' ∧ R r H' ∧ HRel E c' H' ∧ VRel E c' r v ∧ Later c c' := by
  unfold bodyW at h
  split at h
  · rename_i code hb
    refine calls_of_wp hf hb (wp_mono (wpC_sound code n _ _ H h c _ hH ?_ rfl) ?_)
    · have hlen := hv.length
      simp only [Array.toList_append, Array.toList_replicate, List.size_toArray]
      rw [hlen]
      exact hv.append (LRel.replicate (by simp [undefA, undef, VRel]) _)
    · rintro e a' w' ⟨e', ts', c', H', rfl, he, hq, h1, h2, h3, h4, h5⟩
      have fin : retW P fn ts' H' R → a'.defers = [] ∧ ∃ v, (results fn a'.tmps).run P c'.w = .ok v c'.w ∧ ∃ r u c'' H'', Ending.returned v = .returned u ∧ c''.w = c'.w ∧ R r H'' ∧ HRel E c'' H'' ∧ VRel E c'' r u ∧ Later c c'' := by
        intro hq
        obtain ⟨v, r, k1, k2, k3⟩ := results_sound (P := P) hq h1 h2
        exact ⟨h3, v, k1, r, v, c', H', rfl, rfl, k2, h1, k3, h4⟩
      cases e with
      | normal => cases e' <;> simp only [exitRel] at he; exact fin hq
      | ret => cases e' <;> simp only [exitRel] at he; exact fin hq
      | exit i => cases e' <;> simp only [exitRel] at he; exact hq.elim
      | goto l => simp only [exitRel] at he
      | panic ch => simp only [exitRel] at he
      | outgrown => simp only [exitRel] at he
  · exact h.elim

theorem acalls_of_body {k : Nat} {fn : Func} {n : Ann} {args : List AV} {H : AH} {R : Kt} (hf : P.funcs[E.fn k]? = some fn) (hn : (fn.name == "runtime.NumGoroutine") = false) (h : bodyW E P fn n args H R) : ACalls E P k args H R := by
  intro c vs hH hv o a next Q hnext
  have hb : fn.body.isNone = false := by
    unfold bodyW at h
    split at h
    · rename_i code hb; simp [hb]
    · exact h.elim
  have hrun : (callFunc (E.fn k) vs.toArray).run P c.w = .ok (.enter (E.fn k) vs.toArray) c.w := by
    have hn' : ¬ ((fn.name == "runtime.NumGoroutine") = true) := by rw [hn]; simp
    have hb' : ¬ (fn.body.isNone = true) := by rw [hb]; simp
    simp only [callFunc, Sem.run_bind, run_program, Result.andThen_ok, hf, if_neg hn', if_neg hb', Sem.run_pure]
  rw [hrun]
  simp only [Oper.upon]
  refine (calls_of_body hf h hH hv).mono ?_
  rintro e w' ⟨r, v, c', H', rfl, rfl, h1, h2, h3, h4⟩
  exact hnext v c'.w ⟨r, c', H', rfl, h1, h2, h3, h4⟩
end
end Go.Sc
