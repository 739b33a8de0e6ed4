/-
  EACH OPERATION WITHOUT A CALL DOES WHAT ITS NODE SAYS: slices, literals, append.
-/
import Derived.Test.YtdhcpnachceklaaDoorScG
namespace Go.Sc
open Go

section
variable {E : Env} {P : Program} {c : Cx} {ts : List AV} {H : AH} {a : Act} {K : Kt} {o : Oper}

theorem iaddrArr_sound {s i r : AV} {n len : Nat} {u v : Value} (h : iaddrArr n len s i = some r) (hu : VRel E c s u) (hv : VRel E c i v) :
    ∃ ad k m, u = .pointer (some ad) ∧ v = .int k m ∧ 0 ≤ m ∧ m < (len : Int) ∧ VRel E c r (.pointer (some (ad.add (m.toNat * n)))) := by
  unfold iaddrArr at h
  split at h
  · rename_i cs off k m
    split at h
    · rename_i hm
      injection h with h; subst h
      simp only [VRel] at hu hv
      obtain ⟨b, o', rfl, hc⟩ := hu
      subst hv
      refine ⟨_, k, m, rfl, rfl, hm.1, hm.2, ?_⟩
      simp only [VRel]
      exact ⟨b, o', by rw [Addr.add_at, Nat.add_assoc], hc⟩
    · cases h
  · rename_i b off g k m
    split at h
    · rename_i hm
      injection h with h; subst h
      simp only [VRel] at hu hv
      obtain ⟨hg, p, rfl, hp⟩ := hu
      subst hv
      refine ⟨p, k, m, rfl, rfl, hm.1, hm.2, ?_⟩
      simp only [VRel]
      exact ⟨hg, _, rfl, fun e => by rw [hp e, Addr.add_at, Nat.add_assoc]⟩
    · cases h
  · cases h

theorem does_indexAddr {t : TypeId} {x i : Operand} (ho : o.op = .indexAddr t x i) (hH : HRel E c H) (hr : LRel E c ts a.tmps.toList) (h : opW E P o ts H K) : Does E P c H o a K := by
  simp only [opW, ho] at h
  have hx := ev_rel hH hr x
  have hi := ev_rel hH hr i
  split at h
  · rename_i e hd
    split at h
    · rename_i b n ht
      obtain ⟨r, hb, hk⟩ := h
      obtain ⟨ad, len, cap, k, m, hu, hv, h1, h2, h3⟩ := iaddr_sound hb hx hi
      exact does_pure hH (v := .pointer (some (ad.add (m.toNat * n)))) (by simp [execOp, ho, Instr.indexAt, hu, hv, asIntOf, run_underlying' hd, h1, h2, run_sizeOf ht]) h3 hk
    · exact h.elim
  · rename_i len e hd
    split at h
    · rename_i b n ht
      obtain ⟨r, hb, hk⟩ := h
      obtain ⟨ad, k, m, hu, hv, h1, h2, h3⟩ := iaddrArr_sound hb hx hi
      exact does_pure hH (v := .pointer (some (ad.add (m.toNat * n)))) (by simp [execOp, ho, Instr.indexAt, hu, hv, asIntOf, run_underlying' hd, h1, h2, run_sizeOf ht, Instr.sureAddr]) h3 hk
    · exact h.elim
  · exact h.elim

theorem does_index {t : TypeId} {x i : Operand} (ho : o.op = .index t x i) (hH : HRel E c H) (hr : LRel E c ts a.tmps.toList) (h : opW E P o ts H K) : Does E P c H o a K := by
  simp only [opW, ho] at h
  have hx := ev_rel hH hr x
  have hi := ev_rel hH hr i
  split at h
  · rename_i hd
    obtain ⟨r, hb, hk⟩ := h
    unfold idxStr at hb
    split at hb
    · rename_i s k n e1 e2
      rw [e1] at hx; rw [e2] at hi
      simp only [VRel] at hx hi
      split at hb
      · rename_i hn
        injection hb with hb; subst hb
        have hlt : n.toNat < s.size := by omega
        have hs : s[n.toNat]? = some (s.data.toList.getD n.toNat 0) := by
          rw [show s[n.toNat]? = some s[n.toNat] from getElem?_pos s n.toNat hlt]
          congr 1
          have : n.toNat < s.data.toList.length := by simpa using hlt
          simp only [List.getD, List.getElem?_eq_getElem this, Option.getD_some]
          rfl
        refine does_pure hH (v := .int .u8 (s.data.toList.getD n.toNat 0).toNat) ?_ (by simp [VRel]) hk
        simp only [execOp, ho, Instr.index, hx, hi, asIntOf, Sem.run_bind, Sem.run_pure, Result.andThen_ok, run_underlying' hd, hn.1, if_true, hs]
      · cases hb
    · cases hb
  · rename_i len e hd
    split at h
    · rename_i b n ht
      obtain ⟨r, hb, hk⟩ := h
      unfold idxArr at hb
      split at hb
      · rename_i cs k m e1 e2
        rw [e1] at hx; rw [e2] at hi
        simp only [VRel] at hx hi
        obtain ⟨vs, hv, hl⟩ := hx
        split at hb
        · rename_i hm
          obtain ⟨v, hp, hrv⟩ := part_sound ht hl hb c.w
          exact does_pure hH (v := v) (by simp [execOp, ho, Instr.index, hv, hi, asIntOf, run_underlying' hd, hm.1, hm.2, run_sizeOf ht, hp]) hrv hk
        · cases hb
      · cases hb
    · exact h.elim
  · exact h.elim

theorem bnd_sound (hH : HRel E c H) {x : Option Operand} {d : Nat} {n : Int} (h : bnd (x.map (ev E ts)) d = some n) (hr : LRel E c ts a.tmps.toList) : (x = none ∧ n = d) ∨ ∃ y k, x = some y ∧ a.eval y = .int k n := by
  cases x with
  | none => simp [bnd] at h; exact .inl ⟨rfl, h.symm⟩
  | some y =>
    right
    have hy := ev_rel hH hr y
    simp only [Option.map_some] at h
    unfold bnd at h
    split at h
    · rename_i e; cases e
    · rename_i k m e
      injection e with e
      injection h with h; subst h
      rw [e] at hy; simp only [VRel] at hy
      exact ⟨y, k, rfl, hy⟩
    · cases h

theorem run_bounds {isSlice : Bool} {len cap : Nat} {lo hi : Option Operand} {l h : Int} (hl : (lo = none ∧ l = 0) ∨ ∃ y k, lo = some y ∧ a.eval y = .int k l) (hh : (hi = none ∧ h = len) ∨ ∃ y k, hi = some y ∧ a.eval y = .int k h)
    (h0 : 0 ≤ l) (h1 : l ≤ h) (h2 : h ≤ cap) (w : World) : (Instr.sliceBounds isSlice len cap (lo.map a.eval) (hi.map a.eval) none).run P w = .ok (l.toNat, h.toNat, cap) w := by
  have h3 : 0 ≤ h := by omega
  rcases hl with ⟨rfl, rfl⟩ | ⟨y, k, rfl, hy⟩ <;> rcases hh with ⟨rfl, rfl⟩ | ⟨z, k', rfl, hz⟩
  · simp [Instr.sliceBounds]
  · simp [Instr.sliceBounds, hz, Instr.sliceBound, asIntOf, h2, h3]
  · simp [Instr.sliceBounds, hy, Instr.sliceBound, asIntOf, h0, h1]
  · have h4 : max h 0 = h := by omega
    simp [Instr.sliceBounds, hy, hz, Instr.sliceBound, asIntOf, h0, h1, h2, h3, h4]

theorem sliceA_sound {s r : AV} {n : Nat} {lo hi : Option Operand} {u : Value} (hb : sliceA n s (lo.map (ev E ts)) (hi.map (ev E ts)) H = some r) (hH : HRel E c H) (hr : LRel E c ts a.tmps.toList) (hu : VRel E c s u) :
    ∃ p len cap l h, u = .slice p len cap ∧ (Instr.sliceBounds true len cap (lo.map a.eval) (hi.map a.eval) none).run P c.w = .ok (l, h, cap) c.w ∧
      VRel E c r (.slice (if cap = l then p else p.map (·.add (l * n))) (h - l) (cap - l)) := by
  unfold sliceA at hb
  split at hb
  · rename_i cs off len
    simp only [Option.bind_eq_some_iff] at hb
    obtain ⟨l, hl, h', hh, hb⟩ := hb
    split at hb
    · rename_i hbd
      injection hb with hb; subst hb
      simp only [VRel] at hu
      obtain ⟨p, cap, rfl, hle, hp⟩ := hu
      refine ⟨_, len, cap, _, _, rfl, run_bounds (bnd_sound hH hl hr) (bnd_sound hH hh hr) hbd.1 hbd.2.1 (by omega) c.w, ?_⟩
      simp only [VRel]
      by_cases hc : cap = l.toNat
      · rw [if_pos hc]
        exact ⟨p, _, rfl, by omega, .inl (by omega)⟩
      · rw [if_neg hc]
        refine ⟨_, _, rfl, by omega, .inr ?_⟩
        obtain ⟨b, o', rfl, hc⟩ := hp.resolve_left (by omega)
        exact ⟨b, o', by show Addr.add _ _ = _; rw [Addr.add_at, Nat.add_assoc], hc⟩
    · cases hb
  · rename_i b off len g
    simp only [Option.bind_eq_some_iff] at hb
    obtain ⟨l, hl, h', hh, hb⟩ := hb
    split at hb
    · rename_i hbd
      injection hb with hb; subst hb
      simp only [VRel] at hu
      obtain ⟨hg, p, cap, rfl, hle, hp⟩ := hu
      obtain ⟨hz, hbd⟩ := hbd
      refine ⟨_, len, cap, _, _, rfl, run_bounds (bnd_sound hH hl hr) (bnd_sound hH hh hr) hbd.1 hbd.2.1 (by omega) c.w, ?_⟩
      simp only [VRel]
      by_cases hc : cap = l.toNat
      · rw [if_pos hc]
        exact ⟨hg, p, _, rfl, by omega, fun _ => .inl (by omega)⟩
      · rw [if_neg hc]
        refine ⟨hg, _, _, rfl, by omega, fun e => .inr ?_⟩
        obtain ⟨rfl, h2⟩ := (hp e).resolve_left (by omega)
        have := hH.esz hz
        subst this
        refine ⟨by show Addr.add _ _ = _; rw [Addr.add_at, Nat.add_assoc], ?_⟩
        rw [← h2, Nat.sub_mul]
        have : l.toNat * c.sz b ≤ cap * c.sz b := Nat.mul_le_mul_right _ (by omega)
        omega
    · cases hb
  · rename_i cs len
    simp only [Option.bind_eq_some_iff] at hb
    obtain ⟨l, hl, h', hh, hb⟩ := hb
    split at hb
    · rename_i hbd
      injection hb with hb; subst hb
      simp only [VRel] at hu
      rcases hu with ⟨rfl, rfl⟩ | ⟨p, cap, rfl, hle, hp⟩
      · have e1 : l = 0 := by omega
        have e2 : h' = 0 := by omega
        subst e1 e2
        refine ⟨none, 0, 0, _, _, rfl, run_bounds (bnd_sound hH hl hr) (bnd_sound hH hh hr) (by omega) (by omega) (by omega) c.w, ?_⟩
        simp [VRel]
      · refine ⟨_, len, cap, _, _, rfl, run_bounds (bnd_sound hH hl hr) (bnd_sound hH hh hr) hbd.1 hbd.2.1 (by omega) c.w, ?_⟩
        simp only [VRel]
        by_cases hc : cap = l.toNat
        · rw [if_pos hc]
          exact .inr ⟨p, _, rfl, by omega, .inl (by omega)⟩
        · rw [if_neg hc]
          refine .inr ⟨_, _, rfl, by omega, .inr ?_⟩
          obtain ⟨b, o', rfl, hc⟩ := hp.resolve_left (by omega)
          exact ⟨b, o' + l.toNat * n, by show Addr.add _ _ = _; rw [Addr.add_at], (hc.drop _).take _⟩
    · cases hb
  · rename_i b cs len g
    simp only [Option.bind_eq_some_iff] at hb
    obtain ⟨l, hl, h', hh, hb⟩ := hb
    split at hb
    · rename_i hbd
      simp only [VRel] at hu
      obtain ⟨hg, p, cap, rfl, hle, hp⟩ := hu
      obtain ⟨htz, h0, h1, h2, h3⟩ := hbd
      refine ⟨_, len, cap, _, _, rfl, run_bounds (bnd_sound hH hl hr) (bnd_sound hH hh hr) h0 h1 (by omega) c.w, ?_⟩
      split at hb
      · rename_i hhl
        injection hb with hb; subst hb
        simp only [VRel]
        have he : h'.toNat = len := by omega
        rw [he]
        by_cases hc : cap = l.toNat
        · rw [if_pos hc]
          exact ⟨hg, p, _, rfl, by omega, .inl (by omega)⟩
        · rw [if_neg hc]
          refine ⟨hg, _, _, rfl, by omega, .inr ?_⟩
          obtain ⟨b', o', rfl, hcr, hroom⟩ := hp.resolve_left (by omega)
          have hln : l.toNat * n ≤ len * n := Nat.mul_le_mul_right _ (by omega)
          refine ⟨b', o' + l.toNat * n, by show Addr.add _ _ = _; rw [Addr.add_at], hcr.drop _, fun e => ?_⟩
          obtain ⟨r1, r2, r3⟩ := hroom e
          refine ⟨r1, fun j hj => r2 j (by simp at hj; omega), ?_⟩
          have := hH.tsz htz
          subst this
          rw [← r3, Nat.sub_mul]
          have : l.toNat * c.sz b ≤ cap * c.sz b := Nat.mul_le_mul_right _ (by omega)
          omega
      · injection hb with hb; subst hb
        simp only [VRel]
        by_cases hc : cap = l.toNat
        · rw [if_pos hc]
          exact .inr ⟨p, _, rfl, by omega, .inl (by omega)⟩
        · rw [if_neg hc]
          refine .inr ⟨_, _, rfl, by omega, .inr ?_⟩
          obtain ⟨b', o', rfl, hcr, _⟩ := hp.resolve_left (by omega)
          exact ⟨b', o' + l.toNat * n, by show Addr.add _ _ = _; rw [Addr.add_at], (hcr.drop _).take _⟩
    · cases hb
  · simp only [Option.bind_eq_some_iff] at hb
    obtain ⟨l, hl, h', hh, hb⟩ := hb
    split at hb
    · rename_i hbd
      injection hb with hb; subst hb
      simp only [VRel] at hu; subst hu
      obtain ⟨rfl, rfl⟩ := hbd
      exact ⟨_, 0, 0, _, _, rfl, run_bounds (bnd_sound hH hl hr) (bnd_sound hH hh hr) (by omega) (by omega) (by omega) c.w, by simp [VRel]⟩
    · cases hb
  · cases hb

theorem does_slice {t : TypeId} {x : Operand} {lo hi m : Option Operand} (ho : o.op = .slice t x lo hi m) (hH : HRel E c H) (hr : LRel E c ts a.tmps.toList) (h : opW E P o ts H K) : Does E P c H o a K := by
  simp only [opW, ho] at h
  have hx := ev_rel hH hr x
  split at h
  · exact h.elim
  · split at h
    · rename_i hd
      obtain ⟨r, hb, hk⟩ := h
      unfold sliceS at hb
      split at hb
      · rename_i s hA
        rw [hA] at hx; simp only [VRel] at hx
        simp only [Option.bind_eq_some_iff] at hb
        obtain ⟨l, hl, h', hh, hb⟩ := hb
        split at hb
        · rename_i hbd
          injection hb with hb; subst hb
          have := run_bounds (P := P) (isSlice := false) (bnd_sound hH hl hr) (bnd_sound hH hh hr) hbd.1 hbd.2.1 hbd.2.2 c.w
          refine does_pure hH (v := .string (s.extract l.toNat h'.toNat)) ?_ (by simp [VRel]) hk
          simp [execOp, ho, Instr.sliceAt, Instr.slice, run_underlying' hd, hx, this]
        · cases hb
      · cases hb
    · rename_i e hd
      split at h
      · rename_i e' n bs he
        obtain ⟨r, hb, hk⟩ := h
        obtain ⟨p, len, cap, l, h', hu, hbds, hv⟩ := sliceA_sound (P := P) hb hH hr hx
        have hsz : (sizeOf e).run P c.w = .ok n c.w := by
          simp only [elemB, hd, Option.map_eq_some_iff] at he
          obtain ⟨i, hi, he⟩ := he
          injection he with h1 h2
          injection h2 with h2 h3
          subst h2
          simp [sizeOf, run_typeInfo' hi]
        refine does_pure hH (v := .slice (if cap = l then p else p.map (·.add (l * n))) (h' - l) (cap - l)) ?_ hv hk
        simp [execOp, ho, Instr.sliceAt, Instr.slice, run_underlying' hd, hu, hbds, hsz]
      · exact h.elim
    · exact h.elim
end
end Go.Sc
