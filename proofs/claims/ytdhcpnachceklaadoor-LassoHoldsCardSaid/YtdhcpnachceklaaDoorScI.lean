/-
  EACH OPERATION WITHOUT A CALL DOES WHAT ITS NODE SAYS: literals, make, append, len.
-/
import Derived.Test.YtdhcpnachceklaaDoorScH
import Derived.Laws.MakeOwn
import Derived.Laws.Append
namespace Go.Sc
open Go

section
variable {E : Env} {P : Program} {c : Cx} {ts : List AV} {H : AH} {a : Act} {K : Kt} {o : Oper}

theorem elemB_some {t e : TypeId} {n b : Nat} (h : elemB P t = some (e, n, b)) : ∃ i, P.underlying t = some (.slice e) ∧ P.info? e = some i ∧ i.size = n ∧ i.bytes = b := by
  unfold elemB at h
  split at h
  · rename_i e' hd
    simp only [Option.map_eq_some_iff] at h
    obtain ⟨i, hi, he⟩ := h
    simp only [Prod.mk.injEq] at he
    obtain ⟨rfl, h2, h3⟩ := he
    exact ⟨i, hd, hi, h2, h3⟩
  · cases h

theorem args_one {x : Operand} {l : Array Operand} (h : l.toList = [x]) : l = #[x] := by
  have := congrArg List.toArray h
  simpa using this
theorem args_two {x y : Operand} {l : Array Operand} (h : l.toList = [x, y]) : l = #[x, y] := by
  have := congrArg List.toArray h
  simpa using this

theorem does_len {cl : Call} (ho : o.op = .call cl) (hc : cl.callee = .builtin .len) (hH : HRel E c H) (hr : LRel E c ts a.tmps.toList) (h : opW E P o ts H K) : Does E P c H o a K := by
  simp only [opW, ho, hc] at h
  split at h
  · rename_i x hd hx
    obtain ⟨t, ht, hd⟩ := Option.bind_eq_some_iff.1 hd
    have hx' := args_one hx
    obtain ⟨r, hb, hk⟩ := h
    have hv := ev_rel hH hr x
    unfold lenS at hb
    split at hb
    · rename_i s e1
      injection hb with hb; subst hb; rw [e1] at hv; simp only [VRel] at hv
      exact does_pure hH (v := .int .i64 s.size) (by simp [execOp, ho, resolve, hc, invoke, builtin, Builtin.len_, ht, hx', run_underlying' hd, hv, goInt]) (by simp [VRel]) hk
    · cases hb
  · rename_i e x hd hx
    obtain ⟨t, ht, hd⟩ := Option.bind_eq_some_iff.1 hd
    have hx' := args_one hx
    obtain ⟨r, hb, hk⟩ := h
    have hv := ev_rel hH hr x
    have key : ∀ p n cap, a.eval x = .slice p n cap → r = .val (.int .i64 n) → Does E P c H o a K := by
      intro p n cap hv hr'
      subst hr'
      exact does_pure hH (v := .int .i64 n) (by simp [execOp, ho, resolve, hc, invoke, builtin, Builtin.len_, ht, hx', run_underlying' hd, hv, goInt]) (by simp [VRel]) hk
    unfold lenA at hb
    split at hb
    · rename_i e1
      injection hb with hb; rw [e1] at hv; simp only [VRel] at hv
      obtain ⟨p, cap, hv, _⟩ := hv
      exact key _ _ _ hv hb.symm
    · rename_i e1
      injection hb with hb; rw [e1] at hv; simp only [VRel] at hv
      obtain ⟨_, p, cap, hv, _⟩ := hv
      exact key _ _ _ hv hb.symm
    · rename_i e1
      injection hb with hb; rw [e1] at hv; simp only [VRel] at hv
      rcases hv with ⟨hv, rfl⟩ | ⟨p, cap, hv, _⟩
      · exact key _ _ _ hv hb.symm
      · exact key _ _ _ hv hb.symm
    · rename_i e1
      injection hb with hb; rw [e1] at hv; simp only [VRel] at hv
      obtain ⟨_, p, cap, hv, _⟩ := hv
      exact key _ _ _ hv hb.symm
    · rename_i e1
      injection hb with hb; rw [e1] at hv; simp only [VRel] at hv
      exact key _ _ _ hv hb.symm
    · cases hb
  · exact h.elim

theorem does_minmax {cl : Call} (mx : Bool) (ho : o.op = .call cl) (hc : cl.callee = .builtin (if mx then .max else .min)) (hH : HRel E c H) (hr : LRel E c ts a.tmps.toList) (h : opW E P o ts H K) : Does E P c H o a K := by
  have key : ∀ x y, cl.args.toList = [x, y] → wGet (minA mx (ev E ts x) (ev E ts y)) H K → Does E P c H o a K := by
    intro x y hargs h
    have hargs' := args_two hargs
    obtain ⟨r, hb, hk⟩ := h
    obtain ⟨q, hq, hqr⟩ := minA_sound (P := P) hb (ev_rel hH hr x) (ev_rel hH hr y) c.w
    refine ⟨q, c, H, _, .inl ?_, hk, hH, hqr, Later.refl c, .inl ⟨rfl, rfl⟩⟩
    cases mx <;> simp only [Bool.false_eq_true, if_false, if_true] at hc hq
    · have : ∀ ats ty, (Builtin.min_ ats ty #[a.eval x, a.eval y]).run P c.w = .ok q c.w := fun _ _ => hq
      simp [execOp, ho, resolve, hc, invoke, builtin, hargs', this]
    · have : ∀ ats ty, (Builtin.max_ ats ty #[a.eval x, a.eval y]).run P c.w = .ok q c.w := fun _ _ => hq
      simp [execOp, ho, resolve, hc, invoke, builtin, hargs', this]
  cases mx <;> simp only [Bool.false_eq_true, if_false, if_true] at hc <;> simp only [opW, ho, hc] at h <;>
  · split at h
    · rename_i x y hargs; exact key x y hargs h
    · exact h.elim

/-- the noughts of many elements -/
theorem zeros_flat (z : Array Value) (n : Nat) : (Array.range (n * z.size)).map (fun i => z[i % z.size]!) = (List.replicate n z.toList).flatten.toArray := by
  apply Array.ext'
  simp only [Array.toList_map, Array.toList_range]
  rcases Nat.eq_zero_or_pos z.size with h0 | hp
  · have : z = #[] := by simpa using h0
    subst this
    simp
  · induction n with
    | zero => simp
    | succ n ih =>
      rw [Nat.succ_mul, List.range_add, List.map_append, ih, List.replicate_succ', List.flatten_concat, List.map_map]
      congr 1
      apply List.ext_getElem
      · simp
      · intro i h1 h2
        simp at h1 h2
        simp [Nat.add_comm (n * z.size) i, Nat.mod_eq_of_lt h1, h1]

theorem LRel.flat {E : Env} {c : Cx} {xs : List AV} {vs : List Value} (h : LRel E c xs vs) : ∀ n, LRel E c (List.replicate n xs).flatten (List.replicate n vs).flatten
  | 0 => by simp [LRel]
  | n + 1 => by simp only [List.replicate_succ, List.flatten_cons]; exact h.append (LRel.flat h n)

theorem fold_setL (off : Nat) : ∀ (vs : List Value) (k : Nat) (cells : Array Value), off + k + vs.length ≤ cells.size →
    ((vs.zipIdx k).foldl (fun cs (p : Value × Nat) => cs.setIfInBounds (off + p.2) p.1) cells).toList = cells.toList.take (off + k) ++ vs ++ cells.toList.drop (off + k + vs.length)
  | [], k, cells, _ => by simp
  | v :: vs, k, cells, h => by
    simp only [List.zipIdx_cons, List.foldl_cons]
    simp only [List.length_cons] at h
    rw [fold_setL off vs (k + 1) _ (by simp; omega)]
    simp only [Array.toList_setIfInBounds]
    have hlt : off + k < cells.toList.length := by simp; omega
    have e1 : (cells.toList.set (off + k) v).take (off + k + 1) = cells.toList.take (off + k) ++ [v] := by
      rw [List.take_add_one, List.getElem?_set_self hlt, List.take_set_of_le (Nat.le_refl _)]; rfl
    have e2 : (cells.toList.set (off + k) v).drop (off + (k + 1) + vs.length) = cells.toList.drop (off + (k + 1) + vs.length) := List.drop_set_of_lt (by omega)
    rw [show off + (k + 1) = off + k + 1 by omega] at e2 ⊢
    rw [e1, e2]
    simp only [List.append_assoc, List.cons_append, List.nil_append, List.length_cons]
    rw [show off + k + 1 + vs.length = off + k + (vs.length + 1) by omega]

theorem fold_set (cells vs : Array Value) (off : Nat) (h : off + vs.size ≤ cells.size) :
    (vs.zipIdx.foldl (fun cs (p : Value × Nat) => cs.setIfInBounds (off + p.2) p.1) cells).toList = cells.toList.take off ++ vs.toList ++ cells.toList.drop (off + vs.size) := by
  rw [← Array.foldl_toList, Array.toList_zipIdx]
  have := fold_setL off vs.toList 0 cells (by simpa using h)
  simpa using this

/-- 'fill' on the model's values -/
theorem fill_sound {place : Nat → Option (Nat × Nat)} : ∀ (parts : List (Nat × Operand)) (l : List (Nat × Nat × AV)) (z z' : List AV) (zs : List Value),
    partsP E ts place parts = some l → HRel E c H → LRel E c ts a.tmps.toList → fillA z l = some z' → LRel E c z zs →
    ∃ r, Instr.fill place zs.toArray (parts.map fun p => (p.1, a.eval p.2)) = some r ∧ LRel E c z' r.toList := by
  intro parts
  induction parts with
  | nil =>
    intro l z z' zs hl _ _ hf hz
    simp only [partsP] at hl; injection hl with hl; subst hl
    simp only [fillA] at hf; injection hf with hf; subst hf
    exact ⟨zs.toArray, rfl, by simpa using hz⟩
  | cons p parts ih =>
    intro l z z' zs hp hH hr hf hz
    obtain ⟨i, x⟩ := p
    simp only [partsP] at hp
    split at hp
    · rename_i off n l' h1 h2
      injection hp with hp; subst hp
      simp only [fillA, Option.bind_eq_some_iff] at hf
      obtain ⟨cs, hcs, hf⟩ := hf
      split at hf
      · rename_i hn
        simp only [Option.bind_eq_some_iff] at hf
        obtain ⟨z1, hput, hf⟩ := hf
        obtain ⟨hle, rfl⟩ := putL_some hput
        have hx := cells?_some hcs (ev_rel hH hr x)
        have hlx := hx.length
        have hlz := hz.length
        have hsz : (a.eval x).cells.size = n := by simp at hlx; omega
        have hfold := fold_set zs.toArray (a.eval x).cells off (by simp at hlx ⊢; omega)
        obtain ⟨r, hr1, hr2⟩ := ih l' (z.take off ++ cs ++ z.drop (off + cs.length)) z' (zs.take off ++ (a.eval x).cells.toList ++ zs.drop (off + (a.eval x).cells.toList.length)) h2 hH hr hf (((hz.take off).append hx).append (by rw [hlx]; exact hz.drop _))
        refine ⟨r, ?_, hr2⟩
        simp only [List.map_cons, Instr.fill, h1]
        rw [if_neg (by simp at hlx ⊢; omega)]
        rw [← hr1]
        congr 1
        apply Array.ext'
        simpa using hfold
      · cases hf
    · cases hp

theorem does_build {t : TypeId} {parts : Array (Nat × Operand)} (ho : o.op = .build t parts) (hH : HRel E c H) (hr : LRel E c ts a.tmps.toList) (h : opW E P o ts H K) : Does E P c H o a K := by
  simp only [opW, ho] at h
  split at h
  · rename_i l z hp hz
    obtain ⟨r, hf, hk⟩ := h
    have hinfo : ∃ it v, P.info? t = some it ∧ it.zero = some v ∧ z = v.cells.toList.map .val := by
      unfold zeroB at hz
      split at hz
      · rename_i v hv
        obtain ⟨it, h1, h2⟩ := Option.bind_eq_some_iff.1 hv
        split at hz
        · injection hz with hz; exact ⟨it, v, h1, h2, hz.symm⟩
        · cases hz
      · cases hz
    obtain ⟨it, v, h1, h2, rfl⟩ := hinfo
    have hmap : (parts.map fun (i, x) => (i, a.eval x)).toList = parts.toList.map fun p => (p.1, a.eval p.2) := by simp
    have key : ∃ cells, P.built t (parts.map fun (i, x) => (i, a.eval x)).toList = some cells ∧ LRel E c r cells.toList := by
      unfold partsB at hp
      split at hp
      · rename_i fs hd
        split at hp
        · rename_i places hpl
          obtain ⟨cells, hc, hl⟩ := fill_sound parts.toList l _ r v.cells.toList hp hH hr hf (LRel_vals E c _)
          refine ⟨cells, ?_, hl⟩
          simp only [Program.built, h1, hd, h2, hpl, hmap]
          simpa using hc
        · cases hp
      · rename_i n e hd
        split at hp
        · rename_i ie hie
          obtain ⟨cells, hc, hl⟩ := fill_sound parts.toList l _ r v.cells.toList hp hH hr hf (LRel_vals E c _)
          refine ⟨cells, ?_, hl⟩
          simp only [Program.built, h1, hd, h2, hie, hmap]
          simpa using hc
        · cases hp
      · cases hp
    obtain ⟨cells, hc, hl⟩ := key
    have := run_build (P := P) c.w t _ cells hc
    exact does_pure hH (v := .agg cells) (by simp only [execOp, ho, Sem.run_bind, this, Result.andThen_ok]; rfl) (by simp only [VRel]; exact ⟨cells.toList, by simp, hl⟩) hk
  · exact h.elim

/-- a new slice, in one of the ways -/
theorem newS_sound {n len : Nat} {e : TypeId} {us : List Value} {l : List AV} {x : AV} {H' : AH} (hH : HRel E c H) (hl : LRel E c l us) (hlen : us.length = len * n) (hn : NewSR n len l H x H') :
    ∃ c', c'.w = c.w.alloc (.cells us.toArray e) ∧ HRel E c' H' ∧ Later c c' ∧ VRel E c' x (.slice (some ⟨c.w.heap.size, 0, none⟩) len len) := by
  cases hn with
  | frz hs =>
    obtain ⟨c', h1, h2, h3, h4⟩ := hH.newFrz e us [] l hl
    refine ⟨c', by rw [h1]; simp, h2, h3, hs E c' _ ?_⟩
    simp only [VRel]
    exact ⟨_, len, rfl, Nat.le_refl _, .inr ⟨_, 0, by simp, h4⟩⟩
  | live b hb =>
    obtain ⟨c', h1, h2, h3, _, h5⟩ := hH.newCells hb n e us [] l hl
    exact ⟨c', by rw [h1]; simp, h2, h3, h5 len len (by simp [hlen]) (Nat.le_refl _)⟩
  | tail b hs hb =>
    obtain ⟨c', h1, h2, h3, h5⟩ := hH.newTail hb n e us [] _ (hs.rel hl)
    exact ⟨c', by rw [h1]; simp, h2, h3, h5 len len (by simp [hlen]) (Nat.le_refl _)⟩

theorem does_buildSlice {t : TypeId} {len : Nat} {parts : Array (Nat × Operand)} (ho : o.op = .buildSlice t len parts) (hH : HRel E c H) (hr : LRel E c ts a.tmps.toList) (h : opW E P o ts H K) : Does E P c H o a K := by
  simp only [opW, ho] at h
  split at h
  · rename_i e n bs he
    split at h
    case h_2 => exact h.elim
    rename_i z l hz hp
    split at h
    · rename_i hlen
      obtain ⟨r, x, H', hf, hrl, hn, hk⟩ := h
      obtain ⟨v, hv, rfl, _, hvs⟩ := run_zero hz c.w
      obtain ⟨i, hd, hi, rfl, rfl⟩ := elemB_some he
      have hvn : v.cells.size = i.size := by
        have : (tyB P e).map (·.2) = some i.size := by
          cases hu : P.underlying e with
          | none => simp [tyB, hu] at hvs
          | some d => simp [tyB, hu, hi]
        rw [this] at hvs; injection hvs
      obtain ⟨cells, hc, hl⟩ := fill_sound parts.toList l _ r (List.replicate len v.cells.toList).flatten hp hH hr hf ((LRel_vals E c _).flat len)
      have hcl := hl.length
      obtain ⟨c', h1, h2, h3, h5⟩ := newS_sound (e := e) hH hl (by simp at hcl ⊢; omega) hn
      refine ⟨_, c', _, _, .inl ?_, hk, h2, h5, h3, .inr (by simp [ho, readOp])⟩
      rw [h1]
      have hsz : (sizeOf e).run P c.w = .ok i.size c.w := by simp [sizeOf, run_typeInfo' hi]
      have hzf := zeros_flat v.cells len
      rw [hvn] at hzf
      have hmap : (parts.map fun (i, x) => (i, a.eval x)).toList = parts.toList.map fun p => (p.1, a.eval p.2) := by simp
      by_cases h0 : len * i.size = 0
      · have hnil : (List.replicate len v.cells.toList).flatten = [] := by
          have : ((List.replicate len v.cells.toList).flatten).length = 0 := by simp [hvn, h0]
          exact List.eq_nil_of_length_eq_zero this
        rw [hnil] at hc
        have hr0 : Array.map (fun _ => (default : Value)) (Array.range 0) = #[] := by apply Array.eq_empty_of_size_eq_zero; simp
        simp [execOp, ho, Instr.buildSlice, run_underlying' hd, hsz, h0, hr0, hc, run_newRow]
      · have hlen' : ¬ len * i.size > 2 ^ 24 := by omega
        simp only [execOp, ho, Instr.buildSlice, Sem.run_bind, run_underlying' hd, Result.andThen_ok, hsz]
        rw [if_neg hlen', if_neg h0]
        simp [hv, hvn, hzf, hc, run_newRow]
    · exact h.elim
  · exact h.elim

theorem does_makeSlice {t : TypeId} {x y : Operand} (ho : o.op = .makeSlice t x y) (hH : HRel E c H) (hr : LRel E c ts a.tmps.toList) (h : opW E P o ts H K) : Does E P c H o a K := by
  simp only [opW, ho] at h
  split at h
  · rename_i e n bs he
    split at h
    · rename_i z hz
      obtain ⟨nn, r, H', hb, hn, hk⟩ := h
      obtain ⟨v, hv, rfl, _, hvs⟩ := run_zero hz c.w
      obtain ⟨i, hd, hi, rfl, rfl⟩ := elemB_some he
      have hvn : v.cells.size = i.size := by
        have : (tyB P e).map (·.2) = some i.size := by
          cases hu : P.underlying e with
          | none => simp [tyB, hu] at hvs
          | some d => simp [tyB, hu, hi]
        rw [this] at hvs; injection hvs
      have hx := ev_rel hH hr x
      have hy := ev_rel hH hr y
      unfold makeA at hb
      split at hb
      · rename_i k1 l k2 m e1 e2
        rw [e1] at hx; rw [e2] at hy
        simp only [VRel] at hx hy
        split at hb
        · rename_i hm
          injection hb with hb
          subst hb
          obtain ⟨h0, rfl, hbytes, hmost⟩ := hm
          obtain ⟨nn, rfl⟩ : ∃ nn : Nat, l = nn := ⟨l.toNat, by omega⟩
          simp only [mostBytes, Int.toNat_natCast] at *
          have hlen : (List.replicate nn v.cells.toList).flatten.length = nn * i.size := by simp [hvn]
          obtain ⟨c', h1, h2, h3, h5⟩ := newS_sound (e := e) hH ((LRel_vals E c v.cells.toList).flat nn) hlen hn
          refine ⟨_, c', _, _, .inl ?_, hk, h2, h5, h3, .inr (by simp [ho, readOp])⟩
          rw [h1]
          have hzf := zeros_flat v.cells nn
          rw [hvn] at hzf
          have hz' : i.zero = some v := by
            unfold zeroB at hz
            simp [hi] at hz
            cases hiz : i.zero with
            | none => simp [zeroValue, typeInfo, hi, hiz] at hv
            | some v' => simp [zeroValue, typeInfo, hi, hiz] at hv; rw [hv]
          have hbb : (i.bytes : Int) * (nn : Int) ≤ 281474976710656 := by
            have : (nn : Int) * (i.bytes : Int) ≤ 70368744177664 := by simpa using hbytes
            rw [Int.mul_comm]; omega
          have hrun := run_make (P := P) c.w t e i v hd hi hz' k1 k2 nn nn (by omega) (Int.le_refl _) hbb (by omega)
          have hmade : madeCells v.cells ((nn : Int).toNat * i.size) = (List.replicate nn v.cells.toList).flatten.toArray := by
            rw [← hzf]; simp only [madeCells, hvn, Int.toNat_natCast]
          simp only [execOp, ho, hx, hy, Sem.run_bind, hrun, Result.andThen_ok, hmade]
          simp
        · cases hb
      · cases hb
    · exact h.elim
  · exact h.elim

/-- the capacity of an append that must grow -/
theorem cellsOfA_sound {x : AV} {n size : Nat} {new : List AV} {v : Value} (h : cellsOfA size x H = some (n, new)) (hH : HRel E c H) (hv : VRel E c x v) :
    (∀ w, (Builtin.lenOf v).run P w = .ok n w) ∧ ∃ news : List Value, news.length = n * size ∧ LRel E c new news ∧ ∀ w : World, w.heap = c.w.heap → (Builtin.firstCells size n v).run P w = .ok news.toArray w := by
  unfold cellsOfA at h
  split at h
  · simp only [VRel] at hv; subst hv
    injection h with h; injection h with h1 h2; subst h1 h2
    exact ⟨fun w => by simp [Builtin.lenOf], [], by simp, by simp [LRel], fun w _ => by simp [Builtin.firstCells]⟩
  · rename_i cs off len
    simp only [Option.map_eq_some_iff] at h
    obtain ⟨l, h, e⟩ := h
    injection e with h1 h2; subst h1 h2
    obtain ⟨hle, rfl⟩ := subL_some h
    simp only [VRel] at hv
    obtain ⟨p, cap, rfl, hlc, hp⟩ := hv
    refine ⟨fun w => by simp [Builtin.lenOf], ?_⟩
    rcases Nat.eq_zero_or_pos len with h0 | hpos
    · subst h0
      exact ⟨[], by simp, by simp [LRel], fun w _ => by simp [Builtin.firstCells, loadCells, loadCellsFrom]⟩
    · obtain ⟨b, o', rfl, hc⟩ := hp.resolve_left (by omega)
      obtain ⟨us, h1, h2, h3⟩ := hc.sub off (len * size) hle
      refine ⟨us, h1, h2, fun w hw => ?_⟩
      have := run_loadCells_list (P := P) w ⟨b, o' + off, none⟩ us (fun j u hj => by
        rw [Addr.add_at, cell_of_heap (show w.heap[b]? = c.w.heap[b]? by rw [hw])]; exact h3 j u hj)
      simp only [Builtin.firstCells, ← h1, this]
  · rename_i b off len g
    simp only [Option.bind_eq_some_iff, Option.map_eq_some_iff] at h
    obtain ⟨cs, hcs, l, h, e⟩ := h
    injection e with h1 h2; subst h1 h2
    obtain ⟨hle, rfl⟩ := subL_some h
    obtain ⟨sz, p0, pre, rest, e, hb, hg, _, _, hw, _, hp0, hl⟩ := hH.block hcs
    simp only [VRel] at hv
    obtain ⟨_, p, cap, rfl, hlc, hp⟩ := hv
    refine ⟨fun w => by simp [Builtin.lenOf], ?_⟩
    rcases Nat.eq_zero_or_pos len with h0 | hpos
    · subst h0
      exact ⟨[], by simp, by simp [LRel], fun w _ => by simp [Builtin.firstCells, loadCells, loadCellsFrom]⟩
    · obtain ⟨rfl, _⟩ := (hp hg).resolve_left (by omega)
      have hlen := hl.length
      refine ⟨(pre.drop off).take (len * size), by simp; omega, (hl.drop off).take _, fun w hw' => ?_⟩
      have hlen2 : ((pre.drop off).take (len * size)).length = len * size := by simp; omega
      have := run_loadCells_list (P := P) w ⟨c.al b, c.base b + off, none⟩ ((pre.drop off).take (len * size)) (fun j u hj => by
        rw [Addr.add_at, cell_of_heap (show w.heap[c.al b]? = c.w.heap[c.al b]? by rw [hw']), cell_of_block hw, ← hp0, Nat.add_assoc]
        have hj' : j < len * size := by
          have := (List.getElem?_eq_some_iff.1 hj).1
          omega
        rw [List.getElem?_take_of_lt hj', List.getElem?_drop] at hj
        exact mid_get hj)
      rw [hlen2] at this
      simp only [Builtin.firstCells, this]
  · rename_i cs len
    simp only [Option.map_eq_some_iff] at h
    obtain ⟨l, h, e⟩ := h
    injection e with h1 h2; subst h1 h2
    obtain ⟨hle, rfl⟩ := subL_some h
    simp only [VRel] at hv
    rcases hv with ⟨rfl, rfl⟩ | ⟨p, cap, rfl, hlc, hp⟩
    · exact ⟨fun w => by simp [Builtin.lenOf], [], by simp, by simp [LRel], fun w _ => by simp [Builtin.firstCells]⟩
    refine ⟨fun w => by simp [Builtin.lenOf], ?_⟩
    rcases Nat.eq_zero_or_pos len with h0 | hpos
    · subst h0
      exact ⟨[], by simp, by simp [LRel], fun w _ => by simp [Builtin.firstCells, loadCells, loadCellsFrom]⟩
    · obtain ⟨b, o', rfl, hc⟩ := hp.resolve_left (by omega)
      obtain ⟨us, h1, h2, h3⟩ := hc.sub 0 (len * size) hle
      refine ⟨us, h1, h2, fun w hw => ?_⟩
      have := run_loadCells_list (P := P) w ⟨b, o', none⟩ us (fun j u hj => by
        rw [Addr.add_at, cell_of_heap (show w.heap[b]? = c.w.heap[b]? by rw [hw])]; exact h3 j u hj)
      simp only [Builtin.firstCells, ← h1, this]
  · rename_i b cs len g
    simp only [Option.map_eq_some_iff] at h
    obtain ⟨l, h, e⟩ := h
    injection e with h1 h2; subst h1 h2
    obtain ⟨hle, rfl⟩ := subL_some h
    simp only [VRel] at hv
    obtain ⟨_, p, cap, rfl, hlc, hp⟩ := hv
    refine ⟨fun w => by simp [Builtin.lenOf], ?_⟩
    rcases Nat.eq_zero_or_pos len with h0 | hpos
    · subst h0
      exact ⟨[], by simp, by simp [LRel], fun w _ => by simp [Builtin.firstCells, loadCells, loadCellsFrom]⟩
    · obtain ⟨b, o', rfl, hc, _⟩ := hp.resolve_left (by omega)
      obtain ⟨us, h1, h2, h3⟩ := hc.sub 0 (len * size) hle
      refine ⟨us, h1, h2, fun w hw => ?_⟩
      have := run_loadCells_list (P := P) w ⟨b, o', none⟩ us (fun j u hj => by
        rw [Addr.add_at, cell_of_heap (show w.heap[b]? = c.w.heap[b]? by rw [hw])]; exact h3 j u hj)
      simp only [Builtin.firstCells, ← h1, this]
  · rename_i s
    split at h
    · rename_i h1
      subst h1
      injection h with h; injection h with h1 h2; subst h1 h2
      simp only [VRel] at hv; subst hv
      refine ⟨fun w => by simp [Builtin.lenOf], s.data.toList.map fun b => .int .u8 b.toNat, by simp, ?_, fun w _ => ?_⟩
      · have := LRel_vals E c (s.data.toList.map fun b => Value.int .u8 b.toNat)
        simpa [Function.comp_def] using this
      · have hs : s.extract 0 s.size = s := by
          apply ByteArray.ext
          simp
        simp only [Builtin.firstCells, hs, Sem.run_pure]
        congr 1
        apply Array.ext'
        simp
    · cases h
  · cases h
end
end Go.Sc
