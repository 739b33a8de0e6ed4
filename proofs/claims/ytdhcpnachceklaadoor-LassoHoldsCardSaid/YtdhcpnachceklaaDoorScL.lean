/-
  A REGION WHOSE ORDER IS OPEN DOES WHAT ITS NODES SAY, IN WHATEVER ORDER.
-/
import Derived.Test.YtdhcpnachceklaaDoorScK
namespace Go.Sc
open Go

section
variable {E : Env} {P : Program}

/-- what an operation that only looks gives -/
def rdA (E : Env) (P : Program) (o : Oper) (ts : List AV) (H : AH) : Option AV :=
  match o.op with
  | .move x => some (ev E ts x)
  | .pick c a b => pickA (ev E ts c) (ev E ts a) (ev E ts b)
  | .build t parts => match partsB E P ts t parts.toList, zeroB P t with
    | some l, some z => (fillA z l).map .agg
    | _, _ => none
  | .load t a => match tyB P t with
    | some (true, n) => loadN n (ev E ts a) H
    | some (false, _) => load1 (ev E ts a) H
    | none => none
  | .nilCheck x => nilA (ev E ts x)
  | .binOp op t x y _ => match shpB P t with
    | some s => match op with
      | .eql => if s = .iface ∧ !(isConstO x || isConstO y) then none else (eqA s (ev E ts x) (ev E ts y)).map fun b => .val (.bool (b != false))
      | .neq => if s = .iface ∧ !(isConstO x || isConstO y) then none else (eqA s (ev E ts x) (ev E ts y)).map fun b => .val (.bool (b != true))
      | _ => none
    | none => binA op (ev E ts x) (ev E ts y)
  | .unOp op _ x => unA op (ev E ts x)
  | .convert s t x => match P.underlying s, P.underlying t with
    | some _, some d => convA d (ev E ts x)
    | _, _ => none
  | .makeInterface t x => match P.underlying t with
    | some (.interface _) => none
    | some _ => if E.ty (E.tk t) = t then some (.ifc (E.tk t) (ev E ts x)) else none
    | none => none
  | .makeFunc f fs cs => match f with
    | .func f => if E.fn (E.fk f) = f then some (.fn (E.fk f) (fs.toList.map (ev E ts)) (cs.toList.map (ev E ts))) else none
    | _ => none
  | .slice t x lo hi m => match m with
    | some _ => none
    | none => match P.underlying t with
      | some .string => sliceS (ev E ts x) (lo.map (ev E ts)) (hi.map (ev E ts))
      | some (.slice _) => match elemB P t with
        | some (_, n, _) => sliceA n (ev E ts x) (lo.map (ev E ts)) (hi.map (ev E ts)) H
        | none => none
      | _ => none
  | .fieldAddr t x f => match fieldB P t f with
    | some (off, _, n) => if n = 0 then none else faddr off (ev E ts x)
    | none => none
  | .field t x f => match fieldB P t f with
    | some (off, a, n) => fieldA off n a (ev E ts x)
    | none => none
  | .indexAddr t x i => match P.underlying t with
    | some (.slice e) => match tyB P e with
      | some (_, n) => iaddr n (ev E ts x) (ev E ts i)
      | none => none
    | some (.array len e) => match tyB P e with
      | some (_, n) => iaddrArr n len (ev E ts x) (ev E ts i)
      | none => none
    | _ => none
  | .index t x i => match P.underlying t with
    | some .string => idxStr (ev E ts x) (ev E ts i)
    | some (.array len e) => match tyB P e with
      | some (a, n) => idxArr n len a (ev E ts x) (ev E ts i)
      | none => none
    | _ => none
  | .extract t i => extractA (ev E ts t) i
  | .call c => match c.callee with
    | .builtin .len => match (c.argTypes[0]?).bind P.underlying, c.args.toList with
      | some .string, [x] => lenS (ev E ts x)
      | some (.slice _), [x] => lenA (ev E ts x)
      | _, _ => none
    | _ => none
  | _ => none

theorem get_iff {r : Option AV} {H : AH} {K : Kt} : wGet r H K ↔ ∃ x, r = some x ∧ K x H := ⟨fun h => h.ok, fun h => ⟨h⟩⟩
theorem agg_iff {r : Option (List AV)} {H : AH} {K : Kt} : wAgg r H K ↔ ∃ x, r.map .agg = some x ∧ K x H :=
  ⟨fun ⟨l, h, k⟩ => ⟨.agg l, by simp [h], k⟩, fun ⟨x, h, k⟩ => by
    obtain ⟨l, h1, rfl⟩ := Option.map_eq_some_iff.1 h
    exact ⟨l, h1, k⟩⟩
theorem bool_iff {r : Option Bool} {H : AH} {neg : Bool} {K : Kt} : wBool r H neg K ↔ ∃ x, (r.map fun b => AV.val (.bool (b != neg))) = some x ∧ K x H :=
  ⟨fun ⟨l, h, k⟩ => ⟨_, by simp [h], k⟩, fun ⟨x, h, k⟩ => by
    obtain ⟨l, h1, rfl⟩ := Option.map_eq_some_iff.1 h
    exact ⟨l, h1, k⟩⟩
theorem some_iff' {x : AV} {K : Kt} {H : AH} : K x H ↔ ∃ y, some x = some y ∧ K y H := ⟨fun h => ⟨x, rfl, h⟩, fun ⟨y, e, h⟩ => by injection e with e; rw [e]; exact h⟩
theorem none_iff' {K : Kt} {H : AH} : False ↔ ∃ y, (none : Option AV) = some y ∧ K y H := ⟨fun h => h.elim, fun ⟨y, e, _⟩ => by cases e⟩

theorem opW_rd {o : Oper} {ts : List AV} {H : AH} {K : Kt} (hl : lookOp o.op = true) : opW E P o ts H K ↔ ∃ x, rdA E P o ts H = some x ∧ K x H := by
  cases ho : o.op with
  | move x => simp only [opW, rdA, ho]; exact some_iff'
  | pick x y z => simp only [opW, rdA, ho]; exact get_iff
  | build t ps =>
    simp only [opW, rdA, ho]
    generalize partsB E P ts t ps.toList = z
    generalize zeroB P t = z'
    cases z <;> cases z' <;> first | exact agg_iff | exact none_iff'
  | load t x =>
    simp only [opW, rdA, ho]
    generalize tyB P t = z
    rcases z with _ | ⟨_ | _, n⟩ <;> first | exact get_iff | exact none_iff'
  | nilCheck x => simp only [opW, rdA, ho]; exact get_iff
  | binOp op t x y t' =>
    simp only [opW, rdA, ho]
    generalize shpB P t = z
    rcases z with _ | s
    · exact get_iff
    · cases op <;> simp only <;> first
        | exact none_iff'
        | (by_cases hc : s = .iface ∧ (!(isConstO x || isConstO y)) = true
           · rw [if_pos hc, if_pos hc]; exact none_iff'
           · rw [if_neg hc, if_neg hc]; exact bool_iff)
  | unOp op t x => simp only [opW, rdA, ho]; exact get_iff
  | convert s t x =>
    simp only [opW, rdA, ho]
    generalize P.underlying s = z
    generalize P.underlying t = z'
    cases z <;> cases z' <;> first | exact get_iff | exact none_iff'
  | makeInterface t x =>
    simp only [opW, rdA, ho]
    generalize P.underlying t = z
    rcases z with _ | d
    · exact none_iff'
    · cases d <;> simp only <;> first
        | exact none_iff'
        | (by_cases hc : E.ty (E.tk t) = t
           · rw [if_pos hc, if_pos hc]; exact some_iff'
           · rw [if_neg hc, if_neg hc]; exact none_iff')
  | makeFunc f fs cs =>
    simp only [opW, rdA, ho]
    cases f <;> simp only <;> first
      | exact none_iff'
      | (rename_i f
         by_cases hc : E.fn (E.fk f) = f
         · rw [if_pos hc, if_pos hc]; exact some_iff'
         · rw [if_neg hc, if_neg hc]; exact none_iff')
  | slice t x lo hi m =>
    simp only [opW, rdA, ho]
    cases m with
    | some m => exact none_iff'
    | none =>
      simp only
      generalize P.underlying t = z
      generalize elemB P t = z'
      rcases z with _ | d
      · exact none_iff'
      · cases d <;> simp only <;> first
          | exact none_iff'
          | exact get_iff
          | (cases z' <;> first | exact get_iff | exact none_iff')
  | fieldAddr t x f =>
    simp only [opW, rdA, ho]
    generalize fieldB P t f = z
    rcases z with _ | ⟨off, b, n⟩
    · exact none_iff'
    · simp only
      by_cases hc : n = 0
      · rw [if_pos hc, if_pos hc]; exact none_iff'
      · rw [if_neg hc, if_neg hc]; exact get_iff
  | field t x f =>
    simp only [opW, rdA, ho]
    generalize fieldB P t f = z
    rcases z with _ | ⟨off, b, n⟩ <;> first | exact get_iff | exact none_iff'
  | indexAddr t x i =>
    simp only [opW, rdA, ho]
    generalize P.underlying t = z
    rcases z with _ | d
    · exact none_iff'
    · cases d <;> simp only <;> first
        | exact none_iff'
        | (generalize tyB P _ = z'
           rcases z' with _ | ⟨b, n⟩ <;> first | exact get_iff | exact none_iff')
  | index t x i =>
    simp only [opW, rdA, ho]
    generalize P.underlying t = z
    rcases z with _ | d
    · exact none_iff'
    · cases d <;> simp only <;> first
        | exact none_iff'
        | exact get_iff
        | (generalize tyB P _ = z'
           rcases z' with _ | ⟨b, n⟩ <;> first | exact get_iff | exact none_iff')
  | extract x i => simp only [opW, rdA, ho]; exact get_iff
  | call cl =>
    cases hc : cl.callee with
    | builtin b =>
      cases b with
      | len =>
        simp only [opW, rdA, ho, hc]
        generalize (cl.argTypes[0]?).bind P.underlying = z
        generalize cl.args.toList = l
        rcases z with _ | d
        · exact none_iff'
        · rcases l with _ | ⟨x, _ | ⟨y, l⟩⟩ <;> cases d <;> first | exact get_iff | exact none_iff'
      | _ => simp [ho, hc, lookOp, readOp] at hl
    | _ => simp [ho, hc, lookOp, readOp] at hl
  | _ => simp [ho, lookOp, readOp] at hl

theorem rdA_free {o : Oper} {ts : List AV} {H H' : AH} (hl : lookOp o.op = true) (hh : heapOp o.op = false) : rdA E P o ts H = rdA E P o ts H' := by
  cases ho : o.op <;> simp_all [rdA, heapOp, lookOp]

theorem partsP_congr {ts ts' : List AV} {place : Nat → Option (Nat × Nat)} : ∀ (ps : List (Nat × Operand)), (∀ p ∈ ps, ev E ts p.2 = ev E ts' p.2) → partsP E ts place ps = partsP E ts' place ps
  | [], _ => rfl
  | (i, x) :: ps, h => by
    simp only [partsP, partsP_congr ps (fun p hp => h p (List.mem_cons_of_mem _ hp)), h (i, x) (List.mem_cons_self ..)]

theorem rdA_congr {o : Oper} {ts ts' : List AV} {H : AH} (h : ∀ x ∈ o.op.operands.toList, ev E ts x = ev E ts' x) : rdA E P o ts H = rdA E P o ts' H := by
  cases ho : o.op with
  | build t ps =>
    simp only [ho, Op.operands] at h
    have : partsB E P ts t ps.toList = partsB E P ts' t ps.toList := by
      unfold partsB
      have hp : ∀ p ∈ ps.toList, ev E ts p.2 = ev E ts' p.2 := fun p hp => h p.2 (by simpa using ⟨p.1, by simpa using hp⟩)
      simp only [partsP_congr _ hp]
    simp only [rdA, ho, this]
  | makeFunc f fs cs =>
    simp only [ho, Op.operands] at h
    have h1 : fs.toList.map (ev E ts) = fs.toList.map (ev E ts') := List.map_congr_left fun x hx => h x (by simp at hx ⊢; exact .inl hx)
    have h2 : cs.toList.map (ev E ts) = cs.toList.map (ev E ts') := List.map_congr_left fun x hx => h x (by simp at hx ⊢; exact .inr hx)
    simp only [rdA, ho, h1, h2]
  | slice t x lo hi m =>
    simp only [ho, Op.operands] at h
    have h0 := h x (by simp)
    have h1 : lo.map (ev E ts) = lo.map (ev E ts') := by cases lo <;> simp; exact h _ (by simp)
    have h2 : hi.map (ev E ts) = hi.map (ev E ts') := by cases hi <;> simp; exact h _ (by simp)
    simp only [rdA, ho, h0, h1, h2]
  | call cl =>
    simp only [ho, Op.operands, Call.operands] at h
    have h1 : ∀ x ∈ cl.args.toList, ev E ts x = ev E ts' x := fun x hx => h x (by simp at hx ⊢; exact .inr hx)
    simp only [rdA, ho]
    split
    · split
      · rename_i x _ e; rw [h1 x (by rw [e]; simp)]
      · rename_i x _ e; rw [h1 x (by rw [e]; simp)]
      · rfl
    · rfl
  | _ => simp only [ho, Op.operands] at h; simp_all [rdA]

/-- what is looked at, as abstract values -/
theorem looks_ev {ops : Array Oper} {o : Oper} {ts ts' : List AV} (h : ∀ t ∈ o.looksAt ops, ts.getD t undefA = ts'.getD t undefA) : ∀ x ∈ o.op.operands.toList, ev E ts x = ev E ts' x := by
  intro x hx
  cases x with
  | tmp t =>
    refine h t ?_
    unfold Oper.looksAt
    refine List.mem_append.2 (.inl ?_)
    rw [List.mem_filterMap]
    exact ⟨.tmp t, hx, rfl⟩
  | _ => rfl

theorem guard_looks {ops : Array Oper} {o : Oper} {j : Nat} {want : Bool} {d : Tmp} (hg : o.guard = some (j, want)) (hd : (ops[j]?).bind (·.dst) = some d) : d ∈ o.looksAt ops := by
  unfold Oper.looksAt
  refine List.mem_append.2 (.inr ?_)
  simp [hg, hd]

/-- a look at 'H', told as 'x' -/
def Told (E : Env) (P : Program) (ops : Array Oper) (o : Oper) (ts : List AV) (H : AH) (x : AV) : Prop := opG E P ops o ts H fun y H' => y = x ∧ H' = H

theorem told_of {ops : Array Oper} {o : Oper} {ts : List AV} {H : AH} {K : Kt} (hl : lookOp o.op = true) (h : opG E P ops o ts H K) : ∃ x, K x H ∧ Told E P ops o ts H x := by
  unfold Told opG at *
  cases hg : o.guard with
  | none =>
    simp only [hg] at h ⊢
    obtain ⟨x, hx, hk⟩ := (opW_rd hl).1 h
    exact ⟨x, hk, (opW_rd hl).2 ⟨x, hx, rfl, rfl⟩⟩
  | some p =>
    obtain ⟨j, want⟩ := p
    simp only [hg] at h ⊢
    cases hd : (ops[j]?).bind (·.dst) with
    | none => simp only [hd] at h
    | some d =>
      simp only [hd] at h ⊢
      obtain ⟨h⟩ := h
      rcases h with ⟨b, hb, hy, hn⟩ | ⟨hu, hk⟩
      · by_cases hw : b = want
        · obtain ⟨x, hx, hk⟩ := (opW_rd hl).1 (hy hw)
          exact ⟨x, hk, ⟨.inl ⟨b, hb, fun _ => (opW_rd hl).2 ⟨x, hx, rfl, rfl⟩, fun hne => absurd hw hne⟩⟩⟩
        · exact ⟨undefA, hn hw, ⟨.inl ⟨b, hb, fun he => absurd he hw, fun _ => ⟨rfl, rfl⟩⟩⟩⟩
      · exact ⟨undefA, hk, ⟨.inr ⟨hu, rfl, rfl⟩⟩⟩

theorem Told.congr {ops : Array Oper} {o : Oper} {ts ts' : List AV} {H : AH} {x : AV} (hl : lookOp o.op = true) (hs : ∀ t ∈ o.looksAt ops, ts.getD t undefA = ts'.getD t undefA) (h : Told E P ops o ts H x) : Told E P ops o ts' H x := by
  unfold Told opG at *
  have hr := rdA_congr (E := E) (P := P) (o := o) (H := H) (looks_ev (E := E) hs)
  cases hg : o.guard with
  | none =>
    simp only [hg] at h ⊢
    obtain ⟨y, hy, hk⟩ := (opW_rd hl).1 h
    exact (opW_rd hl).2 ⟨y, by rw [← hr]; exact hy, hk⟩
  | some p =>
    obtain ⟨j, want⟩ := p
    simp only [hg] at h ⊢
    cases hd : (ops[j]?).bind (·.dst) with
    | none => simp only [hd] at h
    | some d =>
      simp only [hd] at h ⊢
      rw [← hs d (guard_looks hg hd)]
      obtain ⟨h⟩ := h
      refine ⟨h.imp ?_ id⟩
      rintro ⟨b, hb, hy, hn⟩
      refine ⟨b, hb, fun hw => ?_, hn⟩
      obtain ⟨y, hy, hk⟩ := (opW_rd hl).1 (hy hw)
      exact (opW_rd hl).2 ⟨y, by rw [← hr]; exact hy, hk⟩

theorem Told.free {ops : Array Oper} {o : Oper} {ts : List AV} {H H2 : AH} {x : AV} (hl : lookOp o.op = true) (hh : heapOp o.op = false) (h : Told E P ops o ts H x) : Told E P ops o ts H2 x := by
  unfold Told opG at *
  have hr := rdA_free (E := E) (P := P) (o := o) (ts := ts) (H := H) (H' := H2) hl hh
  cases hg : o.guard with
  | none =>
    simp only [hg] at h ⊢
    obtain ⟨y, hy, hk⟩ := (opW_rd hl).1 h
    exact (opW_rd hl).2 ⟨y, by rw [← hr]; exact hy, hk.1, rfl⟩
  | some p =>
    obtain ⟨j, want⟩ := p
    simp only [hg] at h ⊢
    cases hd : (ops[j]?).bind (·.dst) with
    | none => simp only [hd] at h
    | some d =>
      simp only [hd] at h ⊢
      obtain ⟨h⟩ := h
      refine ⟨h.imp ?_ (fun h => ⟨h.1, h.2.1, rfl⟩)⟩
      rintro ⟨b, hb, hy, hn⟩
      refine ⟨b, hb, fun hw => ?_, fun hw => ⟨(hn hw).1, rfl⟩⟩
      obtain ⟨y, hy, hk⟩ := (opW_rd hl).1 (hy hw)
      exact (opW_rd hl).2 ⟨y, by rw [← hr]; exact hy, hk.1, rfl⟩

/-- an operation under its guard: what it comes to -/
theorem opG_run {ops : Array Oper} {c : Cx} {o : Oper} {a : Act} {ts : List AV} {H : AH} {K : Kt} (h : opG E P ops o ts H K) (hH : HRel E c H) (hr : LRel E c ts a.tmps.toList) :
    (Region.wanted o (yielded ops a.tmps) = true → UponN P (OpPost E c H o K) ((execOp a.eval o).run P c.w)) ∧
    (Region.wanted o (yielded ops a.tmps) = false → OpPost E c H o K undef c.w) := by
  unfold opG at h
  cases hg : o.guard with
  | none =>
    simp only [hg] at h
    exact ⟨fun _ => op_run h hH hr, fun hw => by simp [Region.wanted, hg] at hw⟩
  | some p =>
    obtain ⟨j, want⟩ := p
    simp only [hg] at h
    cases hd : (ops[j]?).bind (·.dst) with
    | none => simp only [hd] at h
    | some d =>
      simp only [hd] at h
      have hval : VRel E c (ts.getD d undefA) (a.tmps.getD d undef) := by simpa [ev, Act.eval] using ev_rel hH hr (.tmp d)
      have hskip : K undefA H → OpPost E c H o K undef c.w := fun hk => ⟨undefA, c, H, rfl, hk, hH, by simp [undefA, undef, VRel], Later.refl c, .inl ⟨rfl, rfl⟩⟩
      obtain ⟨h⟩ := h
      rcases h with ⟨b, hb, hyes, hno⟩ | ⟨hu, hk⟩
      · rw [hb] at hval
        simp only [VRel] at hval
        have hy : yielded ops a.tmps j = some b := by
          rw [yielded_is hd]
          cases htd : a.tmps[d]? with
          | none => simp [Array.getD_eq_getD_getElem?, htd, undef] at hval
          | some u => simp [Array.getD_eq_getD_getElem?, htd] at hval; simp [hval]
        by_cases hbw : b = want
        · exact ⟨fun _ => op_run (hyes hbw) hH hr, fun hw => by simp [Region.wanted, hg, hy, hbw] at hw⟩
        · exact ⟨fun hw => by simp [Region.wanted, hg, hy, hbw] at hw, fun _ => hskip (hno hbw)⟩
      · rw [hu] at hval
        simp only [undefA, VRel] at hval
        have hy : yielded ops a.tmps j = none := by
          rw [yielded_is hd]
          cases htd : a.tmps[d]? with
          | none => rfl
          | some u => simp [Array.getD_eq_getD_getElem?, htd] at hval; simp [hval]
        exact ⟨fun hw => by simp [Region.wanted, hg, hy] at hw, fun _ => hskip hk⟩

/-- two frames that are alike in what is looked at -/
theorem run_alike {ops : Array Oper} {o : Oper} {a a' : Act} (hsel : ∀ cs b, o.op ≠ .select cs b) (hs : ∀ t ∈ o.looksAt ops, a.tmps[t]? = a'.tmps[t]?) :
    execOp a.eval o = execOp a'.eval o ∧ Region.wanted o (yielded ops a.tmps) = Region.wanted o (yielded ops a'.tmps) := by
  refine ⟨execOp_congr o hsel fun x hx => ?_, ?_⟩
  · cases x with
    | tmp t =>
      have : t ∈ o.looksAt ops := by
        unfold Oper.looksAt
        refine List.mem_append.2 (.inl ?_)
        rw [List.mem_filterMap]
        exact ⟨.tmp t, by simpa using hx, rfl⟩
      simp only [Act.eval, Array.getD_eq_getD_getElem?, hs t this]
    | _ => rfl
  · unfold Region.wanted
    cases hg : o.guard with
    | none => rfl
    | some p =>
      obtain ⟨j, want⟩ := p
      simp only
      cases hd : (ops[j]?).bind (·.dst) with
      | none => simp [yielded, hd]
      | some d =>
        rw [yielded_is hd, yielded_is hd, hs d (guard_looks hg hd)]
end
end Go.Sc
