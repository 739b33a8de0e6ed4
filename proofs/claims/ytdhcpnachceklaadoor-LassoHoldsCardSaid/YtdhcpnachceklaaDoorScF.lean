/-
  EACH OPERATION WITHOUT A CALL DOES WHAT ITS NODE SAYS.
-/
import Derived.Test.YtdhcpnachceklaaDoorScE
namespace Go.Sc
open Go

section
variable {E : Env} {P : Program} {c : Cx} {ts : List AV} {H : AH} {a : Act} {K : Kt} {o : Oper}

theorem run_loadVar1 {t : TypeId} {n : Nat} (h : tyB P t = some (false, n)) {ad : Addr} {u : Value} {w : World} (hc : w.cell? ad = some u) : (loadVar t ad).run P w = .ok u w := by
  simp [loadVar, run_isAgg h, hc]
theorem run_loadVarN {t : TypeId} {n : Nat} (h : tyB P t = some (true, n)) {ad : Addr} {us : List Value} {w : World} (hl : us.length = n) (hc : ∀ j u, us[j]? = some u → w.cell? (ad.add j) = some u) :
    (loadVar t ad).run P w = .ok (.agg us.toArray) w := by
  have := run_loadCells_list (P := P) w ad us hc
  simp [loadVar, run_isAgg h, run_sizeOf h, ← hl, this]

theorem does_load {t : TypeId} {A : Operand} (ho : o.op = .load t A) (hH : HRel E c H) (hr : LRel E c ts a.tmps.toList) (h : opW E P o ts H K) : Does E P c H o a K := by
  simp only [opW, ho] at h
  have hA := ev_rel hH hr A
  split at h
  · rename_i n ht
    obtain ⟨x, hx, hk⟩ := h
    obtain ⟨b, o', us, l, hv, rfl, hlen, hl, hc⟩ := loadN_sound hH hx hA
    refine Does.read hH (v := .agg us.toArray) ?_ (by simp only [VRel]; exact ⟨us, rfl, hl⟩) hk
    simp [execOp, ho, Instr.loadAt, hv, Instr.sureAddr, run_loadVarN ht hlen hc]
  · rename_i n ht
    obtain ⟨x, hx, hk⟩ := h
    obtain ⟨b, o', u, hv, hc, hu⟩ := load1_sound hH hx hA
    refine Does.read hH (v := u) ?_ hu hk
    simp [execOp, ho, Instr.loadAt, hv, Instr.sureAddr, run_loadVar1 ht hc]
  · exact h.elim

theorem does_store {t : TypeId} {A x : Operand} (ho : o.op = .store t A x) (hH : HRel E c H) (hr : LRel E c ts a.tmps.toList) (h : opW E P o ts H K) : Does E P c H o a K := by
  simp only [opW, ho] at h
  have hA := ev_rel hH hr A
  have hx := ev_rel hH hr x
  split at h
  · rename_i n ht
    obtain ⟨H', hH', hk⟩ := h
    obtain ⟨ad, hv, hs, w', hrun, c', hw, h1, h2⟩ := storeN_sound (P := P) hH hH' hA hx
    refine ⟨undef, c', H', undefA, .inr ⟨?_, rfl⟩, hk, h1, by simp [undefA, undef, VRel], h2, .inr (by simp [ho, readOp])⟩
    simp [execOp, ho, Instr.storeAt, hv, Instr.sureAddr, storeVar, run_sizeOf ht, hs, hrun, hw]
  · rename_i n ht
    split at h
    · rename_i hn
      subst hn
      obtain ⟨H', hH', hk⟩ := h
      obtain ⟨ad, hv, hs, w', hrun, c', hw, h1, h2⟩ := store1_sound (P := P) hH hH' hA hx
      refine ⟨undef, c', H', undefA, .inr ⟨?_, rfl⟩, hk, h1, by simp [undefA, undef, VRel], h2, .inr (by simp [ho, readOp])⟩
      simp [execOp, ho, Instr.storeAt, hv, Instr.sureAddr, storeVar, run_sizeOf ht, hs, hrun, hw]
    · exact h.elim
  · exact h.elim

theorem run_newRow {e : TypeId} {cells : Array Value} {w : World} : (newRow e cells).run P w = .ok ⟨w.heap.size, 0, none⟩ (w.alloc (.cells cells e)) := by
  simp [newRow]

/-- a new block, in one of the ways -/
theorem new_sound {n : Nat} {t : TypeId} {u : Value} {l : List AV} {x : AV} {H' : AH} (hH : HRel E c H) (hl : LRel E c l u.cells.toList) (hn : NewR n l H x H') :
    ∃ c', c'.w = c.w.alloc (.cells u.cells t) ∧ HRel E c' H' ∧ Later c c' ∧ VRel E c' x (.pointer (some ⟨c.w.heap.size, 0, none⟩)) := by
  cases hn with
  | frz hs =>
    obtain ⟨c', h1, h2, h3, h4⟩ := hH.newFrz t u.cells.toList [] l hl
    refine ⟨c', by rw [h1]; simp, h2, h3, hs E c' _ ?_⟩
    simp only [VRel]
    exact ⟨_, 0, by simp, h4⟩
  | live b hb =>
    obtain ⟨c', h1, h2, h3, h4, _⟩ := hH.newCells hb n t u.cells.toList [] l hl
    exact ⟨c', by rw [h1]; simp, h2, h3, h4⟩

theorem does_new {n : Nat} {t : TypeId} {u : Value} {l : List AV} {x : AV} {H' : AH} (hH : HRel E c H) (hrun : (execOp a.eval o).run P c.w = .ok (.value (.pointer (some ⟨c.w.heap.size, 0, none⟩))) (c.w.alloc (.cells u.cells t)))
    (hl : LRel E c l u.cells.toList) (hn : NewR n l H x H') (hk : K x H') (hro : readOp o.op = false) : Does E P c H o a K := by
  obtain ⟨c', h1, h2, h3, h4⟩ := new_sound (t := t) hH hl hn
  exact ⟨_, c', _, _, .inl (by rw [hrun, h1]), hk, h2, h4, h3, .inr hro⟩

theorem does_alloc {t : TypeId} (ho : o.op = .alloc t) (hH : HRel E c H) (h : opW E P o ts H K) : Does E P c H o a K := by
  simp only [opW, ho] at h
  split at h
  · rename_i b n ht
    obtain ⟨l, x, H', hl, hn, hk⟩ := h
    obtain ⟨v, hv, rfl, _, _⟩ := run_zero hl c.w
    refine does_new (u := v) (t := t) hH ?_ (LRel_vals E c _) hn hk (by simp [ho, readOp])
    simp [execOp, ho, Instr.alloc, hv, newVar, run_newRow]
  · exact h.elim

theorem does_box {t : TypeId} {x : Operand} (ho : o.op = .box t x) (hH : HRel E c H) (hr : LRel E c ts a.tmps.toList) (h : opW E P o ts H K) : Does E P c H o a K := by
  simp only [opW, ho] at h
  have hx := ev_rel hH hr x
  split at h
  · rename_i b n ht
    obtain ⟨l, y, H', hl, hn, hk⟩ := h
    refine does_new (u := a.eval x) (t := t) hH ?_ (cells?_some hl hx) hn hk (by simp [ho, readOp])
    simp [execOp, ho, Instr.box, newVar, run_newRow]
  · exact h.elim

theorem does_pure {x : AV} {v : Value} (hH : HRel E c H) (h : (execOp a.eval o).run P c.w = .ok (.value v) c.w) (hv : VRel E c x v) (hk : K x H) : Does E P c H o a K := Does.read hH h hv hk

theorem does_move {x : Operand} (ho : o.op = .move x ∨ o.op = .assign x) (hH : HRel E c H) (hr : LRel E c ts a.tmps.toList) (h : opW E P o ts H K) : Does E P c H o a K := by
  have hx := ev_rel hH hr x
  rcases ho with ho | ho <;>
  · simp only [opW, ho] at h
    exact does_pure hH (by simp [execOp, ho]) hx h

theorem does_pick {x y z : Operand} (ho : o.op = .pick x y z) (hH : HRel E c H) (hr : LRel E c ts a.tmps.toList) (h : opW E P o ts H K) : Does E P c H o a K := by
  simp only [opW, ho] at h
  obtain ⟨r, hr', hk⟩ := h
  have hx := ev_rel hH hr x
  have hy := ev_rel hH hr y
  have hz := ev_rel hH hr z
  unfold pickA at hr'
  split at hr'
  · rename_i t hc
    injection hr' with hr'
    rw [hc] at hx; simp only [VRel] at hx
    refine does_pure hH (v := if t then a.eval y else a.eval z) ?_ ?_ hk
    · simp [execOp, ho, hx, asBool]
    · rw [← hr']; cases t <;> simpa
  · cases hr'

theorem does_nilCheck {x : Operand} (ho : o.op = .nilCheck x) (hH : HRel E c H) (hr : LRel E c ts a.tmps.toList) (h : opW E P o ts H K) : Does E P c H o a K := by
  simp only [opW, ho] at h
  obtain ⟨r, hr', hk⟩ := h
  have hx := ev_rel hH hr x
  cases hA : ev E ts x with
  | ptrL b off g =>
    rw [hA] at hr' hx; simp only [nilA] at hr'; injection hr' with hr'; subst hr'
    have hx' := hx
    simp only [VRel] at hx'
    obtain ⟨_, p, hp, _⟩ := hx'
    exact does_pure hH (v := a.eval x) (by simp [execOp, ho, hp]) hx hk
  | ptrF b off =>
    rw [hA] at hr' hx; simp only [nilA] at hr'; injection hr' with hr'; subst hr'
    have hx' := hx
    simp only [VRel] at hx'
    obtain ⟨_, _, hp, _⟩ := hx'
    exact does_pure hH (v := a.eval x) (by simp [execOp, ho, hp]) hx hk
  | fn k fs cs =>
    rw [hA] at hr' hx; simp only [nilA] at hr'; injection hr' with hr'; subst hr'
    have hx' := hx
    simp only [VRel] at hx'
    obtain ⟨_, _, hp, _⟩ := hx'
    exact does_pure hH (v := a.eval x) (by simp [execOp, ho, hp]) hx hk
  | _ => rw [hA] at hr'; simp [nilA] at hr'

theorem intBin_sound {op : BinOp} {k : IntKind} {x y : Int} {r : Value} (h : intBin op k x y = some r) (t : TypeId) (hop : op ≠ .shl ∧ op ≠ .shr) (w : World) : (binOp op t (.int k x) (.int k y)).run P w = .ok r w := by
  cases op <;> simp [intBin] at h hop <;> first
    | (subst h; simp [binOp, Op.intArith, Op.intBits, Op.intCmp])
    | (obtain ⟨h1, rfl⟩ := h; simp [binOp, Op.intDiv, h1])

theorem strBin_sound {op : BinOp} {x y : ByteArray} {r : Value} (h : strBin op x y = some r) (t : TypeId) (w : World) : (binOp op t (.string x) (.string y)).run P w = .ok r w := by
  cases op with
  | add =>
    simp only [strBin] at h
    split at h
    · cases h
    · rename_i h1
      injection h with h; subst h
      simp only [binOp, Op.stringOp, if_neg h1, Sem.run_pure]
  | _ => simp [strBin] at h <;> (subst h; simp [binOp, Op.stringOp])

theorem run_eqGuard {op : BinOp} {t : TypeId} {x y : Operand} {u v : Value} (h : (∃ k n, u = .int k n) ∨ (∃ s, u = .string s)) (w : World) : (eqGuard op t x y u v).run P w = .ok () w := by
  unfold eqGuard
  rcases h with ⟨k, n, rfl⟩ | ⟨s, rfl⟩ <;> cases op <;> simp

theorem does_bin {op : BinOp} {t : TypeId} {x y : Operand} {t' : TypeId} (ho : o.op = .binOp op t x y t') (hs : shpB P t = none) (hH : HRel E c H) (hr : LRel E c ts a.tmps.toList) (h : opW E P o ts H K) : Does E P c H o a K := by
  simp only [opW, ho, hs] at h
  obtain ⟨r, hb, hk⟩ := h
  have hx := ev_rel hH hr x
  have hy := ev_rel hH hr y
  unfold binA at hb
  split at hb
  · rename_i k m k' m' e1 e2
    rw [e1] at hx; rw [e2] at hy
    simp only [VRel] at hx hy
    have hg := run_eqGuard (P := P) (op := op) (t := t) (x := x) (y := y) (u := .int k m) (v := .int k' m') (.inl ⟨_, _, rfl⟩) c.w
    split at hb
    · split at hb
      · cases hb
      · rename_i hn
        injection hb with hb; subst hb
        exact does_pure hH (v := .int k (k.wrap (m * 2 ^ (min m'.toNat k.bits)))) (by simp [execOp, ho, hg, hx, hy, binOp, Op.shift, hn]) (by simp [VRel]) hk
    · split at hb
      · cases hb
      · rename_i hn
        injection hb with hb; subst hb
        exact does_pure hH (v := .int k (m.fdiv (2 ^ (min m'.toNat k.bits)))) (by simp [execOp, ho, hg, hx, hy, binOp, Op.shift, hn]) (by simp [VRel]) hk
    · rename_i h1 h2
      split at hb
      · rename_i hkk
        subst hkk
        simp only [Option.map_eq_some_iff] at hb
        obtain ⟨v, hv, rfl⟩ := hb
        have := intBin_sound (P := P) hv t ⟨h1, h2⟩ c.w
        exact does_pure hH (v := v) (by simp [execOp, ho, hg, hx, hy, this]) (by simp [VRel]) hk
      · cases hb
  · rename_i s1 s2 e1 e2
    rw [e1] at hx; rw [e2] at hy
    simp only [VRel] at hx hy
    have hg := run_eqGuard (P := P) (op := op) (t := t) (x := x) (y := y) (u := .string s1) (v := .string s2) (.inr ⟨_, rfl⟩) c.w
    simp only [Option.map_eq_some_iff] at hb
    obtain ⟨v, hv, rfl⟩ := hb
    have := strBin_sound (P := P) hv t c.w
    exact does_pure hH (v := v) (by simp [execOp, ho, hg, hx, hy, this]) (by simp [VRel]) hk
  · cases hb
end
end Go.Sc
