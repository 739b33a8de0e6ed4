/-
  EACH OPERATION WITHOUT A CALL DOES WHAT ITS NODE SAYS: the rest.
-/
import Derived.Test.YtdhcpnachceklaaDoorScF
namespace Go.Sc
open Go

section
variable {E : Env} {P : Program} {c : Cx} {ts : List AV} {H : AH} {a : Act} {K : Kt} {o : Oper}

theorem shpB_some {t : TypeId} {s : Shp} (h : shpB P t = some s) : ∃ d, P.underlying t = some d ∧ (match s with | .bool => d = .bool | .ptr => ∃ e, d = .pointer e | .slice => ∃ e, d = .slice e | .iface => ∃ m, d = .interface m | .func => ∃ x y z, d = .func x y z) := by
  unfold shpB at h
  split at h <;> first | (injection h with h; subst h; rename_i hd; exact ⟨_, hd, by simp⟩) | cases h

/-- the forms of what '==' is asked -/
inductive EqF : Shp → Value → Value → Bool → Prop
  | bool (p q : Bool) : EqF .bool (.bool p) (.bool q) (p == q)
  | ptr0 : EqF .ptr (.pointer none) (.pointer none) true
  | ptr1 (p : Addr) : EqF .ptr (.pointer (some p)) (.pointer none) false
  | ptr2 (p : Addr) : EqF .ptr (.pointer none) (.pointer (some p)) false
  | sl0 (l k l' k' : Nat) : EqF .slice (.slice none l k) (.slice none l' k') true
  | sl1 (p : Addr) (l k l' k' : Nat) : EqF .slice (.slice (some p) l k) (.slice none l' k') false
  | sl2 (p : Addr) (l k l' k' : Nat) : EqF .slice (.slice none l k) (.slice (some p) l' k') false
  | if0 : EqF .iface .nilIface .nilIface true
  | if1 (t : TypeId) (x : Value) : EqF .iface (.iface t x) .nilIface false
  | if2 (t : TypeId) (x : Value) : EqF .iface .nilIface (.iface t x) false
  | fn0 : EqF .func .nilFunc .nilFunc true
  | fn1 (f : Fn) (x y : Array Value) : EqF .func (.func f x y) .nilFunc false
  | fn2 (f : Fn) (x y : Array Value) : EqF .func .nilFunc (.func f x y) false

theorem eqA_form {s : Shp} {x y : AV} {b : Bool} {u v : Value} (h : eqA s x y = some b) (hu : VRel E c x u) (hv : VRel E c y v) : EqF s u v b := by
  unfold eqA at h
  split at h
  all_goals first
    | (cases h; done)
    | (injection h with h; subst h; simp only [VRel] at hu hv)
  · subst hu hv; constructor
  · subst hu hv; constructor
  · subst hv; obtain ⟨_, _, rfl, _⟩ := hu; constructor
  · subst hu; obtain ⟨_, _, rfl, _⟩ := hv; constructor
  · subst hv; obtain ⟨_, _, rfl, _⟩ := hu; constructor
  · subst hu; obtain ⟨_, _, rfl, _⟩ := hv; constructor
  · subst hu hv; constructor
  · subst hv; obtain ⟨_, _, rfl, _⟩ := hu; constructor
  · subst hu; obtain ⟨_, _, rfl, _⟩ := hv; constructor
  · subst hv; obtain ⟨_, _, _, rfl, _⟩ := hu; constructor
  · subst hv; obtain ⟨_, _, _, rfl, _⟩ := hu; constructor
  · subst hu; obtain ⟨_, _, _, rfl, _⟩ := hv; constructor
  · subst hu hv; constructor
  · subst hv; obtain ⟨_, rfl, _⟩ := hu; constructor
  · subst hu; obtain ⟨_, rfl, _⟩ := hv; constructor
  · subst hu hv; constructor
  · subst hv; obtain ⟨_, _, rfl, _⟩ := hu; constructor
  · subst hu; obtain ⟨_, _, rfl, _⟩ := hv; constructor

theorem eqF_sound {s : Shp} {b : Bool} {u v : Value} {t : TypeId} (h : EqF s u v b) (hs : shpB P t = some s) (w : World) : (Op.equal t u v).run P w = .ok b w := by
  obtain ⟨d, hd, hm⟩ := shpB_some hs
  have hrun := run_underlying' hd w
  show (Op.equalIn (9999 + 1) t u v).run P w = _
  generalize 9999 = n
  cases h <;> simp only at hm <;> first
    | (subst hm; simp [Op.equalIn, hrun]; done)
    | (obtain ⟨_, rfl⟩ := hm; simp [Op.equalIn, hrun]; done)
    | (obtain ⟨_, _, _, rfl⟩ := hm; simp [Op.equalIn, hrun]; done)

theorem eqF_guard {s : Shp} {b : Bool} {u v : Value} {op : BinOp} {t : TypeId} {X Y : Operand} (h : EqF s u v b) (hc : s = .iface → (isConstO X || isConstO Y) = true) (w : World) :
    (eqGuard op t X Y u v).run P w = .ok () w := by
  cases h <;> cases op <;> first
    | (simp [eqGuard]; done)
    | (have := hc rfl
       cases X <;> cases Y <;> simp_all [isConstO, eqGuard])

theorem binOp_eql {t : TypeId} {s : Shp} {b : Bool} {u v : Value} (h : EqF s u v b) (hs : shpB P t = some s) (w : World) :
    (binOp .eql t u v).run P w = .ok (.bool b) w ∧ (binOp .neq t u v).run P w = .ok (.bool !b) w := by
  have he := eqF_sound (P := P) h hs w
  cases h <;> constructor <;> simp [binOp, he]

theorem does_eq {op : BinOp} {t : TypeId} {x y : Operand} {t' : TypeId} {s : Shp} (ho : o.op = .binOp op t x y t') (hs : shpB P t = some s) (hH : HRel E c H) (hr : LRel E c ts a.tmps.toList) (h : opW E P o ts H K) : Does E P c H o a K := by
  have hx := ev_rel hH hr x
  have hy := ev_rel hH hr y
  cases op with
  | eql =>
    simp only [opW, ho, hs] at h
    split at h
    · exact h.elim
    · rename_i hc
      obtain ⟨b, hb, hk⟩ := h
      have hf := eqA_form hb hx hy
      have hg := eqF_guard (P := P) (op := .eql) (t := t) (X := x) (Y := y) hf (fun e => by simp [e] at hc; cases hX : isConstO x <;> simp_all) c.w
      have he := (binOp_eql (P := P) hf hs c.w).1
      exact does_pure hH (v := .bool (b != false)) (by simp [execOp, ho, hg, he]) (by simp [VRel]) hk
  | neq =>
    simp only [opW, ho, hs] at h
    split at h
    · exact h.elim
    · rename_i hc
      obtain ⟨b, hb, hk⟩ := h
      have hf := eqA_form hb hx hy
      have hg := eqF_guard (P := P) (op := .neq) (t := t) (X := x) (Y := y) hf (fun e => by simp [e] at hc; cases hX : isConstO x <;> simp_all) c.w
      have he := (binOp_eql (P := P) hf hs c.w).2
      exact does_pure hH (v := .bool (b != true)) (by simp [execOp, ho, hg, he]) (by simp [VRel]) hk
  | _ => simp only [opW, ho, hs] at h

theorem does_un {op : UnOp} {t : TypeId} {x : Operand} (ho : o.op = .unOp op t x) (hH : HRel E c H) (hr : LRel E c ts a.tmps.toList) (h : opW E P o ts H K) : Does E P c H o a K := by
  simp only [opW, ho] at h
  obtain ⟨r, hb, hk⟩ := h
  have hx := ev_rel hH hr x
  unfold unA at hb
  split at hb
  · rename_i k n e1
    injection hb with hb; subst hb
    rw [e1] at hx; simp only [VRel] at hx
    exact does_pure hH (v := .int k (k.wrap (0 - n))) (by simp [execOp, ho, hx, Op.unary, Op.intArith]) (by simp [VRel]) hk
  · rename_i b e1
    injection hb with hb; subst hb
    rw [e1] at hx; simp only [VRel] at hx
    exact does_pure hH (v := .bool !b) (by simp [execOp, ho, hx, Op.unary]) (by simp [VRel]) hk
  · cases hb

theorem does_convert {s t : TypeId} {x : Operand} (ho : o.op = .convert s t x) (hH : HRel E c H) (hr : LRel E c ts a.tmps.toList) (h : opW E P o ts H K) : Does E P c H o a K := by
  simp only [opW, ho] at h
  have hx := ev_rel hH hr x
  split at h
  · rename_i d1 d2 h1 h2
    obtain ⟨r, hb, hk⟩ := h
    unfold convA at hb
    split at hb
    · rename_i k k' n e1
      injection hb with hb; subst hb
      rw [e1] at hx; simp only [VRel] at hx
      refine does_pure hH (v := .int k (k.wrap n)) ?_ (by simp [VRel]) hk
      cases d1 <;> simp [execOp, ho, hx, convert, run_underlying' h1, run_underlying' h2, Conv.intToInt]
    · rename_i n e1
      injection hb with hb; subst hb
      rw [e1] at hx; simp only [VRel] at hx
      refine does_pure hH (v := .string n) ?_ (by simp [VRel]) hk
      cases d1 <;> simp [execOp, ho, hx, convert, run_underlying' h1, run_underlying' h2]
    · rename_i k n e1
      injection hb with hb; subst hb
      rw [e1] at hx; simp only [VRel] at hx
      refine does_pure hH (v := .string (Utf8.encode n)) ?_ (by simp [VRel]) hk
      cases d1 <;> simp [execOp, ho, hx, convert, run_underlying' h1, run_underlying' h2, Conv.intToString]
    · cases hb
  · exact h.elim

theorem constA_rel (v : Value) : VRel E c (constA v) v := by
  unfold constA
  split
  · simp only [VRel]; exact ⟨_, by simp, LRel_vals E c _⟩
  · simp [VRel]
theorem run_zeroV {t : TypeId} {z : AV} (h : zeroV P t = some z) (w : World) : ∃ v, (zeroValue t).run P w = .ok v w ∧ VRel E c z v := by
  unfold zeroV at h
  simp only [Option.map_eq_some_iff, Option.bind_eq_some_iff] at h
  obtain ⟨v, ⟨i, hi, hv⟩, rfl⟩ := h
  exact ⟨v, by simp [zeroValue, run_typeInfo' hi, hv], constA_rel v⟩
theorem does_typeAssert {x : Operand} {xt t : TypeId} {ok : Bool} (ho : o.op = .typeAssert x xt t ok) (hH : HRel E c H) (hr : LRel E c ts a.tmps.toList) (h : opW E P o ts H K) : Does E P c H o a K := by
  simp only [opW, ho] at h
  have hx := ev_rel hH hr x
  have hro : readOp o.op = false := by simp [ho, readOp]
  split at h
  · rename_i m hd
    split at h
    case h_2 => exact h.elim
    rename_i hz
    split at h
    · rename_i hc
      obtain ⟨ht, rfl⟩ := hc
      obtain ⟨h⟩ := h
      obtain ⟨i, hi, hz⟩ := Option.bind_eq_some_iff.1 hz
      have hzr : (zeroValue t).run P c.w = .ok .nilIface c.w := by simp [zeroValue, run_typeInfo' hi, hz]
      rcases h with ⟨h1, hk⟩ | ⟨k, y, b, h1, hm, hk⟩
      · rw [h1] at hx; simp only [VRel] at hx
        refine ⟨.tuple #[.nilIface, .bool false], c, H, _, .inl ?_, hk, hH, ?_, Later.refl c, .inl ⟨rfl, rfl⟩⟩
        · simp [execOp, ho, Instr.typeAssert, run_underlying' hd, hx, hzr]
        · simp only [VRel, LRel]; exact ⟨[.nilIface, .bool false], rfl, _, _, rfl, rfl, _, _, rfl, rfl, rfl⟩
      · have hx' := hx
        rw [h1] at hx; simp only [VRel] at hx
        obtain ⟨u, hu, hk2, hyu⟩ := hx
        obtain ⟨j, hj, hb⟩ := hm m (by rw [ht]; exact hd)
        cases b with
        | true =>
          have hmm : Instr.missingMethod m j.methods = none := by simpa using hb
          refine ⟨.tuple #[.iface (E.ty k) u, .bool true], c, H, _, .inl ?_, hk, hH, ?_, Later.refl c, .inl ⟨rfl, rfl⟩⟩
          · simp [execOp, ho, Instr.typeAssert, run_underlying' hd, hu, run_typeInfo' hj, hmm]
          · simp only [if_true, VRel, LRel]; exact ⟨[.iface (E.ty k) u, .bool true], rfl, _, _, rfl, hu ▸ hx', _, _, rfl, rfl, rfl⟩
        | false =>
          obtain ⟨mm, hmm⟩ : ∃ mm, Instr.missingMethod m j.methods = some mm := by
            cases hq : Instr.missingMethod m j.methods with
            | none => simp [hq] at hb
            | some mm => exact ⟨mm, rfl⟩
          refine ⟨.tuple #[.nilIface, .bool false], c, H, _, .inl ?_, hk, hH, ?_, Later.refl c, .inl ⟨rfl, rfl⟩⟩
          · simp [execOp, ho, Instr.typeAssert, run_underlying' hd, hu, run_typeInfo' hj, hmm, hzr]
          · simp only [Bool.false_eq_true, if_false, VRel, LRel]; exact ⟨[.nilIface, .bool false], rfl, _, _, rfl, rfl, _, _, rfl, rfl, rfl⟩
    · exact h.elim
  · rename_i d hne hd
    have hnif : ∀ m, d ≠ .interface m := fun m e => hne m (e ▸ rfl)
    cases ok with
    | true =>
      simp only at h
      split at h
      · rename_i z hz
        split at h
        · rename_i ht
          obtain ⟨zv, hzr, hzv⟩ := run_zeroV (E := E) (c := c) hz c.w
          obtain ⟨r, hb, hk⟩ := h
          unfold assertA at hb
          split at hb
          · rename_i k y e1
            rw [e1] at hx; simp only [VRel] at hx
            obtain ⟨u, hu, hk2, hyu⟩ := hx
            split at hb
            · rename_i hkk
              injection hb with hb; subst hb
              have he : E.ty k = t := by rw [hkk, ht]
              refine ⟨.tuple #[u, .bool true], c, H, _, .inl ?_, hk, hH, ?_, Later.refl c, .inl ⟨rfl, rfl⟩⟩
              · cases d <;> first
                  | (simp [execOp, ho, Instr.typeAssert, run_underlying' hd, hu, he]; done)
                  | exact absurd rfl (hnif _)
              · simp only [VRel, LRel]; exact ⟨[u, .bool true], rfl, _, _, rfl, hyu, _, _, rfl, rfl, rfl⟩
            · rename_i hkk
              injection hb with hb; subst hb
              have he : ¬ E.ty k = t := fun e => hkk (by rw [← hk2, e])
              refine ⟨.tuple #[zv, .bool false], c, H, _, .inl ?_, hk, hH, ?_, Later.refl c, .inl ⟨rfl, rfl⟩⟩
              · cases d <;> first
                  | (simp [execOp, ho, Instr.typeAssert, run_underlying' hd, hu, he, hzr]; done)
                  | exact absurd rfl (hnif _)
              · simp only [VRel, LRel]; exact ⟨[zv, .bool false], rfl, _, _, rfl, hzv, _, _, rfl, rfl, rfl⟩
          · rename_i e1
            injection hb with hb; subst hb
            rw [e1] at hx; simp only [VRel] at hx
            refine ⟨.tuple #[zv, .bool false], c, H, _, .inl ?_, hk, hH, ?_, Later.refl c, .inl ⟨rfl, rfl⟩⟩
            · cases d <;> first
                | (simp [execOp, ho, Instr.typeAssert, run_underlying' hd, hx, hzr]; done)
                | exact absurd rfl (hnif _)
            · simp only [VRel, LRel]; exact ⟨[zv, .bool false], rfl, _, _, rfl, hzv, _, _, rfl, rfl, rfl⟩
          · cases hb
        · exact h.elim
      · exact h.elim
    | false =>
      simp only at h
      split at h
      · rename_i ht
        obtain ⟨r, hb, hk⟩ := h
        unfold assert1 at hb
        split at hb
        · rename_i k y e1
          rw [e1] at hx; simp only [VRel] at hx
          obtain ⟨u, hu, hk2, hyu⟩ := hx
          split at hb
          · rename_i hkk
            injection hb with hb; subst hb
            have he : E.ty k = t := by rw [hkk, ht]
            refine ⟨u, c, H, _, .inl ?_, hk, hH, hyu, Later.refl c, .inl ⟨rfl, rfl⟩⟩
            cases d <;> first
              | (simp [execOp, ho, Instr.typeAssert, run_underlying' hd, hu, he]; done)
              | exact absurd rfl (hnif _)
          · cases hb
        · cases hb
      · exact h.elim
  · exact h.elim

theorem minA_sound {mx : Bool} {x y r : AV} {u v : Value} (h : minA mx x y = some r) (hu : VRel E c x u) (hv : VRel E c y v) (w : World) :
    ∃ q, ((if mx then Builtin.max_ #[] 0 #[u, v] else Builtin.min_ #[] 0 #[u, v]).run P w = .ok q w) ∧ VRel E c r q := by
  unfold minA at h
  split at h
  · rename_i k m k' n
    simp only [VRel] at hu hv
    subst hu hv
    split at h
    · rename_i hk
      subst hk
      injection h with h; subst h
      cases mx
      · exact ⟨.int k (if n < m then n else m), by simp [Builtin.min_, Builtin.min2], by simp [VRel]⟩
      · exact ⟨.int k (if n > m then n else m), by simp [Builtin.max_, Builtin.max2], by simp [VRel]⟩
    · cases h
  · cases h

theorem does_makeInterface {t : TypeId} {x : Operand} (ho : o.op = .makeInterface t x) (hH : HRel E c H) (hr : LRel E c ts a.tmps.toList) (h : opW E P o ts H K) : Does E P c H o a K := by
  simp only [opW, ho] at h
  have hx := ev_rel hH hr x
  split at h
  · exact h.elim
  · rename_i d hne hd
    split at h
    · rename_i ht
      refine does_pure hH (v := .iface t (a.eval x)) ?_ (by simp only [VRel]; exact ⟨_, by rw [ht], by rw [ht], hx⟩) h
      cases d <;> first
        | (simp [execOp, ho, Instr.makeInterface, run_underlying' hd]; done)
        | (rename_i m; exact absurd rfl (hne m))
    · exact h.elim
  · exact h.elim

theorem does_makeFunc {f : Fn} {fs cs : Array Operand} (ho : o.op = .makeFunc f fs cs) (hH : HRel E c H) (hr : LRel E c ts a.tmps.toList) (h : opW E P o ts H K) : Does E P c H o a K := by
  simp only [opW, ho] at h
  split at h
  · rename_i f
    split at h
    · rename_i hf
      refine does_pure hH (v := .func (.func f) (fs.map a.eval) (cs.map a.eval)) (by simp [execOp, ho, Instr.makeFunc]) ?_ h
      simp only [VRel, hf]
      refine ⟨(fs.map a.eval).toList, (cs.map a.eval).toList, by rw [Array.toArray_toList, Array.toArray_toList], ?_, ?_⟩
      · simpa using evs_rel hH hr fs.toList
      · simpa using evs_rel hH hr cs.toList
    · exact h.elim
  · exact h.elim

theorem fieldB_some {t : TypeId} {f off n : Nat} {b : Bool} (h : fieldB P t f = some (off, b, n)) : ∃ fs x, P.underlying t = some (.struct fs) ∧ fs[f]? = some x ∧ x.offset = off ∧ tyB P x.type = some (b, n) := by
  unfold fieldB at h
  split at h
  · rename_i fs hd
    simp only [Option.bind_eq_some_iff, Option.map_eq_some_iff] at h
    obtain ⟨x, hx, ⟨b', n'⟩, ht, h⟩ := h
    simp only [Prod.mk.injEq] at h
    exact ⟨fs, x, hd, hx, h.1, by rw [ht, h.2.1, h.2.2]⟩
  · cases h

theorem faddr_sound {A r : AV} {off : Nat} {v : Value} (h : faddr off A = some r) (hv : VRel E c A v) : ∃ ad, v = .pointer (some ad) ∧ VRel E c r (.pointer (some (ad.add off))) := by
  cases A with
  | ptrL b o g =>
    simp only [faddr] at h; injection h with h; subst h
    simp only [VRel] at hv ⊢
    obtain ⟨hg, p, rfl, hp⟩ := hv
    exact ⟨p, rfl, hg, _, rfl, fun e => by rw [hp e, Addr.add_at, Nat.add_assoc]⟩
  | ptrF cs o =>
    simp only [faddr] at h; injection h with h; subst h
    simp only [VRel] at hv ⊢
    obtain ⟨b, o', rfl, hc⟩ := hv
    exact ⟨_, rfl, b, o', by rw [Addr.add_at, Nat.add_assoc], hc⟩
  | _ => simp [faddr] at h

theorem does_fieldAddr {t : TypeId} {x : Operand} {f : Nat} (ho : o.op = .fieldAddr t x f) (hH : HRel E c H) (hr : LRel E c ts a.tmps.toList) (h : opW E P o ts H K) : Does E P c H o a K := by
  simp only [opW, ho] at h
  have hx := ev_rel hH hr x
  split at h
  · rename_i off b n hf
    split at h
    · exact h.elim
    · rename_i hn
      obtain ⟨r, hb, hk⟩ := h
      obtain ⟨ad, hv, hr'⟩ := faddr_sound hb hx
      obtain ⟨fs, y, h1, h2, rfl, h4⟩ := fieldB_some hf
      refine does_pure hH (v := .pointer (some (ad.add y.offset))) ?_ hr' hk
      simp [execOp, ho, Instr.fieldAt, run_underlying' h1, h2, hv, Instr.sureAddr, fieldPlace, run_sizeOf h4, hn]
  · exact h.elim

theorem part_sound {t : TypeId} {b : Bool} {off n : Nat} {cs : List AV} {vs : List Value} {r : AV} (ht : tyB P t = some (b, n)) (hl : LRel E c cs vs) (h : (if b then (subL cs off n).map .agg else cs[off]?) = some r) (w : World) :
    ∃ v, (part t vs.toArray off).run P w = .ok v w ∧ VRel E c r v := by
  cases b with
  | true =>
    simp only [if_true, Option.map_eq_some_iff] at h
    obtain ⟨l, h, rfl⟩ := h
    obtain ⟨hle, rfl⟩ := subL_some h
    have hlen := hl.length
    refine ⟨.agg (vs.toArray.extract off (off + n)), by simp [part, run_isAgg ht, run_sizeOf ht], ?_⟩
    simp only [VRel]
    refine ⟨(vs.drop off).take n, ?_, (hl.drop off).take n⟩
    simp
  | false =>
    simp only [Bool.false_eq_true, if_false] at h
    obtain ⟨v, h1, h2⟩ := hl.get h
    exact ⟨v, by simp [part, run_isAgg ht, h1], h2⟩

theorem does_field {t : TypeId} {x : Operand} {f : Nat} (ho : o.op = .field t x f) (hH : HRel E c H) (hr : LRel E c ts a.tmps.toList) (h : opW E P o ts H K) : Does E P c H o a K := by
  simp only [opW, ho] at h
  have hx := ev_rel hH hr x
  split at h
  · rename_i off b n hf
    obtain ⟨r, hb, hk⟩ := h
    obtain ⟨fs, y, h1, h2, rfl, h4⟩ := fieldB_some hf
    unfold fieldA at hb
    split at hb
    · rename_i cs e1
      rw [e1] at hx; simp only [VRel] at hx
      obtain ⟨vs, hv, hl⟩ := hx
      obtain ⟨v, hp, hrv⟩ := part_sound h4 hl hb c.w
      exact does_pure hH (v := v) (by simp [execOp, ho, Instr.field, run_underlying' h1, h2, hv, asAgg, hp]) hrv hk
    · cases hb
  · exact h.elim

theorem does_extract {x : Operand} {i : Nat} (ho : o.op = .extract x i) (hH : HRel E c H) (hr : LRel E c ts a.tmps.toList) (h : opW E P o ts H K) : Does E P c H o a K := by
  simp only [opW, ho] at h
  have hx := ev_rel hH hr x
  obtain ⟨r, hb, hk⟩ := h
  unfold extractA at hb
  split at hb
  · rename_i cs e1
    rw [e1] at hx; simp only [VRel] at hx
    obtain ⟨vs, hv, hl⟩ := hx
    obtain ⟨v, h1, h2⟩ := hl.get hb
    exact does_pure hH (v := v) (by simp [execOp, ho, Instr.extract, hv, h1]) h2 hk
  · cases hb

theorem iaddr_sound {s i r : AV} {n : Nat} {u v : Value} (h : iaddr n s i = some r) (hu : VRel E c s u) (hv : VRel E c i v) :
    ∃ ad len cap k m, u = .slice (some ad) len cap ∧ v = .int k m ∧ 0 ≤ m ∧ m < (len : Int) ∧ VRel E c r (.pointer (some (ad.add (m.toNat * n)))) := by
  unfold iaddr at h
  split at h
  · rename_i cs off len k m
    split at h
    · rename_i hm
      injection h with h; subst h
      simp only [VRel] at hu hv
      obtain ⟨p, cap, rfl, hle, hp⟩ := hu
      obtain ⟨b, o', rfl, hc⟩ := hp.resolve_left (by omega)
      subst hv
      refine ⟨_, len, cap, k, m, rfl, rfl, hm.1, hm.2, ?_⟩
      simp only [VRel]
      exact ⟨b, o', by rw [Addr.add_at, Nat.add_assoc], hc⟩
    · cases h
  · rename_i b off len g k m
    split at h
    · rename_i hm
      injection h with h; subst h
      simp only [VRel] at hu hv
      obtain ⟨hg, p, cap, rfl, hle, hp⟩ := hu
      subst hv
      refine ⟨p, len, cap, k, m, rfl, rfl, hm.1, hm.2, ?_⟩
      simp only [VRel]
      exact ⟨hg, _, rfl, fun e => by rw [((hp e).resolve_left (by omega)).1, Addr.add_at, Nat.add_assoc]⟩
    · cases h
  · rename_i cs len k m
    split at h
    · rename_i hm
      injection h with h; subst h
      simp only [VRel] at hu hv
      rcases hu with ⟨_, h0⟩ | ⟨p, cap, rfl, hle, hp⟩
      · omega
      · obtain ⟨b, o', rfl, hc⟩ := hp.resolve_left (by omega)
        subst hv
        refine ⟨_, len, cap, k, m, rfl, rfl, hm.1, hm.2, ?_⟩
        simp only [VRel]
        exact ⟨b, o', by rw [Addr.add_at], hc⟩
    · cases h
  · rename_i b cs len g k m
    split at h
    · rename_i hm
      injection h with h; subst h
      simp only [VRel] at hu hv
      obtain ⟨_, p, cap, rfl, hle, hp⟩ := hu
      obtain ⟨b, o', rfl, hc, _⟩ := hp.resolve_left (by omega)
      subst hv
      refine ⟨_, len, cap, k, m, rfl, rfl, hm.1, hm.2, ?_⟩
      simp only [VRel]
      exact ⟨b, o', by rw [Addr.add_at], hc⟩
    · cases h
  · cases h
end
end Go.Sc
