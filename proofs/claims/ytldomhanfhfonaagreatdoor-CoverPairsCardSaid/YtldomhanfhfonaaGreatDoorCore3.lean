/- MAPS: made, put into, looked up: sound. STRUCTS COMPARED, AND COPY: sound. A FUNCTION's CODE DOES WHAT ITS NODES SAY. A REGION WHOSE ORDER IS OPEN DOES WHAT ITS NODES SAY, IN WHATEVER ORDER. A REGION WHOSE ORDER IS OPEN DOES WHAT ITS NODES SAY: the theorem. (of the seat YtldomhanfhfonaaGreatDoor) -/
import Derived.Test.YtldomhanfhfonaaGreatDoorCore2
import Derived.MapKept
import Derived.StillTail
import Derived.TacticsIn
import Derived.OrdersIn
namespace Go.Sc
open Go
set_option linter.unusedSimpArgs false
set_option linter.unusedVariables false
section
variable {E : Env} {P : Program} {c : Cx} {H : AH} {o : Oper} {a : Act} {ts : List AV} {K : Kt}
theorem HRel.maps (hH : HRel E c H) {b g : Nat} {p : List AV × List AV} (h : H.maps b g = some p) : H.bs[b]? = some (.map g p.1 p.2) ∧ c.gen b = some g ∧ g < c.ctr ∧ ∃ es clock, c.w.heap[c.al b]? = some (.map es clock) ∧ LRel E c p.1 (es.toList.map (·.key)) ∧ LRel E c p.2 (es.toList.map (·.val)) := by
  unfold AH.maps at h
  split at h
  · rename_i g' ks vs hb
    split at h
    · rename_i hg
      subst hg
      injection h with h
      subst h
      obtain ⟨h1, h2, h3⟩ := hH.blk b _ hb
      exact ⟨hb, h2, h1, h3⟩
    · cases h
  · cases h
theorem keyIs_key {d : TypeDesc} {k : AV} {v : Value} (hd : keyIs d k = true) (hv : VRel E c k v) : MapKept.IsKey d v := by
  unfold keyIs at hd
  split at hd
  · simp only [VRel] at hv; subst hv; have hd := of_decide_eq_true hd; subst hd; simp [MapKept.IsKey]
  · simp only [VRel] at hv; subst hv; simp [MapKept.IsKey]
  · simp only [VRel] at hv; subst hv; simp [MapKept.IsKey]
  · cases hd
theorem keyEq_now {d : TypeDesc} {k x : AV} {v u : Value} {b : Bool} (hd : keyIs d k = true) (hv : VRel E c k v) (hu : VRel E c x u) (h : keyEq k x = some b) : Instr.sameNow d v u = some b ∧ (b = true → u = v) := by
  unfold keyEq at h
  split at h
  · rename_i j p j' q
    split at h
    · rename_i hj
      subst hj
      injection h with h
      simp only [VRel] at hv hu
      subst hv; subst hu; subst h
      cases d <;> simp [keyIs] at hd
      subst hd
      refine ⟨by simp [Instr.sameNow], fun h => ?_⟩
      have : p = q := by simpa using h
      rw [this]
    · cases h
  · rename_i p q
    injection h with h
    simp only [VRel] at hv hu
    subst hv; subst hu; subst h
    cases d <;> simp [keyIs] at hd
    refine ⟨by simp [Instr.sameNow], fun h => ?_⟩
    have : p = q := (MapKept.bytes_beq p q).1 h
    rw [this]
  · rename_i p q
    injection h with h
    simp only [VRel] at hv hu
    subst hv; subst hu; subst h
    cases d <;> simp [keyIs] at hd
    refine ⟨by simp [Instr.sameNow], fun h => ?_⟩
    have : p = q := by simpa using h
    rw [this]
  · cases h
theorem findK_now {d : TypeDesc} {k : AV} {v : Value} (hd : keyIs d k = true) (hv : VRel E c k v) : ∀ (ks : List AV) (es : List MapEntry) (i : Nat) (r : Option Nat), LRel E c ks (es.map (·.key)) → findK k ks i = some r →
    (r = none ∧ Instr.findNow d v es i = some none) ∨ ∃ j e, r = some (i + j) ∧ es[j]? = some e ∧ e.key = v ∧ Instr.findNow d v es i = some (some (i + j, e.val))
  | [], es, i, r, hk, h => by
    simp only [LRel, List.map_eq_nil_iff] at hk
    subst hk
    simp only [findK, Option.some.injEq] at h
    exact .inl ⟨h.symm, rfl⟩
  | x :: ks, es, i, r, hk, h => by
    simp only [LRel] at hk
    obtain ⟨u, us, he, hu, hk⟩ := hk
    cases es with
    | nil => cases he
    | cons e es =>
      simp only [List.map_cons, List.cons.injEq] at he
      obtain ⟨rfl, rfl⟩ := he
      simp only [findK] at h
      split at h
      · rename_i hq
        obtain ⟨h1, h2⟩ := keyEq_now hd hv hu hq
        injection h with h
        exact .inr ⟨0, e, by simpa using h.symm, rfl, h2 rfl, by simp [Instr.findNow, h1]⟩
      · rename_i hq
        obtain ⟨h1, _⟩ := keyEq_now hd hv hu hq
        rcases findK_now hd hv ks es (i + 1) r hk h with ⟨h3, h4⟩ | ⟨j, e', h3, h4, h5, h6⟩
        · exact .inl ⟨h3, by simp [Instr.findNow, h1, h4]⟩
        · exact .inr ⟨j + 1, e', by rw [h3]; congr 1; omega, by simpa using h4, h5, by simp only [Instr.findNow, h1, h6]; congr 3; omega⟩
      · cases h
theorem run_findKey {d : TypeDesc} {kt : TypeId} {v : Value} {es : List MapEntry} {r : Option (Nat × Value)} (hd : P.underlying kt = some d) (h : Instr.findNow d v es 0 = some r) (w : World) : (Instr.findKey kt v es).run P w = .ok r w := by
  simp [Instr.findKey, run_underlying' hd, h]
theorem run_checkKey {d : TypeDesc} {kt : TypeId} {k : AV} {v : Value} (hd : P.underlying kt = some d) (hk : keyIs d k = true) (hv : VRel E c k v) (e : Bool) (w : World) : (Instr.checkKey e 10000 kt v).run P w = .ok () w := by
  exact MapKept.run_checkKey hd (keyIs_key hk hv) e 9999
theorem mapB_some {t e : TypeId} {d : TypeDesc} (h : mapB P t = some (d, e)) : ∃ k, P.underlying t = some (.map k e) ∧ P.underlying k = some d := by
  unfold mapB at h
  split at h
  · rename_i k e' hu
    simp only [Option.map_eq_some_iff, Prod.mk.injEq] at h
    obtain ⟨d', h1, rfl, rfl⟩ := h
    exact ⟨k, hu, h1⟩
  · cases h
theorem mapGet_sound {d : TypeDesc} {z : AV} {ok : Bool} {k r : AV} {ks vs : List AV} {es : List MapEntry} {v zv : Value} (hd : keyIs d k = true) (hv : VRel E c k v) (hz : VRel E c z zv) (hks : LRel E c ks (es.map (·.key))) (hvs : LRel E c vs (es.map (·.val)))
    (h : mapGet z ok k ks vs = some r) : ∃ f u b, Instr.findNow d v es 0 = some f ∧ (match f with | some (_, x) => (x, true) | none => (zv, false)) = (u, b) ∧ VRel E c r (if ok then .tuple #[u, .bool b] else u) := by
  unfold mapGet at h
  split at h
  · rename_i i hf
    rcases findK_now hd hv ks es 0 _ hks hf with ⟨h1, _⟩ | ⟨j, e, h1, h2, _, h4⟩
    · cases h1
    · simp only [Nat.zero_add, Option.some.injEq] at h1
      subst h1
      simp only [Option.map_eq_some_iff] at h
      obtain ⟨y, hy, rfl⟩ := h
      obtain ⟨u, hu, hr⟩ := hvs.get hy
      rw [List.getElem?_map, h2] at hu
      simp only [Option.map_some, Option.some.injEq] at hu
      subst hu
      refine ⟨_, e.val, true, h4, rfl, ?_⟩
      cases ok with
      | true => simp only [if_true, VRel]; exact ⟨[e.val, .bool true], rfl, by simp only [LRel]; exact ⟨_, _, rfl, hr, _, _, rfl, by simp [VRel], rfl⟩⟩
      | false => simpa using hr
  · rename_i hf
    rcases findK_now hd hv ks es 0 _ hks hf with ⟨_, h2⟩ | ⟨j, e, h1, _⟩
    · injection h with h
      subst h
      refine ⟨_, zv, false, h2, rfl, ?_⟩
      cases ok with
      | true => simp only [if_true, VRel]; exact ⟨[zv, .bool false], rfl, by simp only [LRel]; exact ⟨_, _, rfl, hz, _, _, rfl, by simp [VRel], rfl⟩⟩
      | false => simpa using hz
    · cases h1
  · cases h
theorem does_lookup {t : TypeId} {m k : Operand} {ok : Bool} (ho : o.op = .lookup t m k ok) (hH : HRel E c H) (hr : LRel E c ts a.tmps.toList) (h : opW E P o ts H K) : Does E P c H o a K := by
  simp only [opW, ho] at h
  split at h
  · rename_i d e hm
    obtain ⟨kt, hu, hkt⟩ := mapB_some hm
    split at h
    · rename_i z hz
      obtain ⟨zv, hzr, hzv⟩ := run_zeroV (E := E) (c := c) hz c.w
      obtain ⟨x, hx, hk⟩ := h
      unfold lookupA at hx
      split at hx
      · rename_i hd
        have hkv := ev_rel hH hr k
        have hmv := ev_rel hH hr m
        have hck := run_checkKey (P := P) hkt hd hkv
        split at hx
        · rename_i hme
          rw [hme] at hmv
          simp only [VRel] at hmv
          obtain ⟨f, u, b, h1, h2, h3⟩ := mapGet_sound (es := []) hd hkv hzv (by simp [LRel]) (by simp [LRel]) hx
          refine Does.read hH ?_ h3 hk
          have hf := run_findKey (P := P) (es := []) hkt h1 c.w
          simp only [execOp, ho, Sem.run_bind, Instr.lookup, run_underlying' hu, hmv, Result.andThen_ok, Sem.run_pure, hck, hf, hzr]
          cases f with
          | none => simp only [Prod.mk.injEq] at h2; obtain ⟨rfl, rfl⟩ := h2; simp [hzr]
          | some y => obtain ⟨i, y⟩ := y; simp only [Prod.mk.injEq] at h2; obtain ⟨rfl, rfl⟩ := h2; simp
        · rename_i b g hme
          rw [hme] at hmv
          simp only [VRel] at hmv
          obtain ⟨_, r, hr1, hr2⟩ := hmv
          simp only [Option.bind_eq_some_iff] at hx
          obtain ⟨p, hp, hx⟩ := hx
          obtain ⟨_, hg, _, es, clock, hw, hks, hvs⟩ := hH.maps hp
          obtain rfl := hr2 hg
          obtain ⟨f, u, b, h1, h2, h3⟩ := mapGet_sound hd hkv hzv hks hvs hx
          refine Does.read hH ?_ h3 hk
          have hf := run_findKey (P := P) hkt h1 c.w
          simp only [execOp, ho, Sem.run_bind, Instr.lookup, run_underlying' hu, hr1, Result.andThen_ok, Sem.run_pure, getObj, Sem.run, hw, hck, hf]
          cases f with
          | none => simp only [Prod.mk.injEq] at h2; obtain ⟨rfl, rfl⟩ := h2; simp [hzr]
          | some y => obtain ⟨i, y⟩ := y; simp only [Prod.mk.injEq] at h2; obtain ⟨rfl, rfl⟩ := h2; simp
        · rename_i ks vs hme
          rw [hme] at hmv
          simp only [VRel] at hmv
          obtain ⟨r, es, clock, hr1, _, hw, hks, hvs⟩ := hmv
          obtain ⟨f, u, b, h1, h2, h3⟩ := mapGet_sound hd hkv hzv hks hvs hx
          refine Does.read hH ?_ h3 hk
          have hf := run_findKey (P := P) hkt h1 c.w
          simp only [execOp, ho, Sem.run_bind, Instr.lookup, run_underlying' hu, hr1, Result.andThen_ok, Sem.run_pure, getObj, Sem.run, hw, hck, hf]
          cases f with
          | none => simp only [Prod.mk.injEq] at h2; obtain ⟨rfl, rfl⟩ := h2; simp [hzr]
          | some y => obtain ⟨i, y⟩ := y; simp only [Prod.mk.injEq] at h2; obtain ⟨rfl, rfl⟩ := h2; simp
        · cases hx
      · cases hx
    · exact h.elim
  · exact h.elim
theorem does_makeMap {t : TypeId} {r : Option Operand} (ho : o.op = .makeMap t r) (hH : HRel E c H) (h : opW E P o ts H K) : Does E P c H o a K := by
  simp only [opW, ho] at h
  split at h
  · obtain ⟨b, hb, hk⟩ := h
    have hL := Later.put hH hb 0 0 0 (.map #[] 0)
    refine ⟨.map (some c.w.heap.size), c.put b 0 0 0 (.map #[] 0), _, _, .inl ?_, hk, ?_, ?_, hL, .inr (by simp [ho, readOp])⟩
    · simp [execOp, ho, Instr.makeMap, newObj, Sem.run, Cx.put]
    · refine hH.put hb _ _ _ _ (.map H.ctr [] []) ⟨?_, ?_, #[], 0, ?_, ?_, ?_⟩ (fun _ => rfl)
      · simp [Cx.put, hH.ctr]
      · simp [Cx.put, hH.ctr]
      · simp only [Cx.put, if_true]; exact heap_alloc_new' _ _
      · simp [LRel]
      · simp [LRel]
    · simp only [VRel, Cx.put, if_true]
      exact ⟨by rw [hH.ctr]; omega, _, rfl, fun _ => rfl⟩
  · exact h.elim
theorem mods_key {es : Array MapEntry} {i : Nat} {e : MapEntry} {k v : Value} (he : es[i]? = some e) (hk : e.key = k) :
    ((es.modify i fun e => { e with key := k, val := v }).toList.map (·.key)) = es.toList.map (·.key) ∧ ((es.modify i fun e => { e with key := k, val := v }).toList.map (·.val)) = (es.toList.map (·.val)).set i v := by
  constructor
  · exact MapKept.modify_keys i _ fun x hx => by rw [he] at hx; injection hx with hx; subst hx; exact hk.symm
  · have hlt : i < es.size := (Array.getElem?_eq_some_iff.1 he).1
    apply List.ext_getElem?
    intro j
    simp only [List.getElem?_map, Array.getElem?_toList, Array.getElem?_modify]
    by_cases hij : i = j
    · subst hij; simp [hlt]
    · rw [List.getElem?_set_ne hij]; simp [hij]
theorem insert_sound {t : TypeId} {d : TypeDesc} {e0 : TypeId} {m k v : AV} {mv kv vv : Value} {H' : AH} (hm : mapB P t = some (d, e0)) (hH : HRel E c H) (hx : insertA d m k v H = some H') (hmv : VRel E c m mv) (hkv : VRel E c k kv) (hvv : VRel E c v vv) :
    ∃ w', (Instr.mapUpdate t mv kv vv).run P c.w = .ok () w' ∧ HRel E { c with w := w' } H' ∧ Later c { c with w := w' } := by
  obtain ⟨kt, hu, hkt⟩ := mapB_some hm
  unfold insertA at hx
  split at hx
  · rename_i hd
    have hkk := keyIs_key hd hkv
    split at hx
    · rename_i b g
      simp only [VRel] at hmv
      obtain ⟨_, r, rfl, hr2⟩ := hmv
      simp only [Option.bind_eq_some_iff] at hx
      obtain ⟨p, hp, hx⟩ := hx
      obtain ⟨hb, hg, hgl, es, clock, hw, hks, hvs⟩ := hH.maps hp
      obtain rfl := hr2 hg
      have hck := run_checkKey (P := P) hkt hd hkv false c.w
      have hlt := hH.lt b (by rw [hg]; simp)
      have set : ∀ (ks vs : List AV) (es' : Array MapEntry) (clock' : Nat), (c.le { c with w := { c.w with heap := c.w.heap.setIfInBounds (c.al b) (.map es' clock') } } → LRel E { c with w := { c.w with heap := c.w.heap.setIfInBounds (c.al b) (.map es' clock') } } ks (es'.toList.map (·.key)) ∧ LRel E { c with w := { c.w with heap := c.w.heap.setIfInBounds (c.al b) (.map es' clock') } } vs (es'.toList.map (·.val))) →
          HRel E { c with w := { c.w with heap := c.w.heap.setIfInBounds (c.al b) (.map es' clock') } } ⟨H.bs.set b (.map g ks vs), H.ctr⟩ ∧ Later c { c with w := { c.w with heap := c.w.heap.setIfInBounds (c.al b) (.map es' clock') } } := fun ks vs es' clock' h =>
        hH.setBlk hb (by simp) rfl rfl (by simp) (o := .map es' clock') rfl rfl rfl rfl fun hle => ⟨hgl, hg, es', clock', by simp [hlt], (h hle).1, (h hle).2⟩
      split at hx
      · rename_i i hf
        injection hx with hx
        subst hx
        rcases findK_now hd hkv p.1 es.toList 0 _ hks hf with ⟨h1, _⟩ | ⟨j, e, h1, h2, h3, h4⟩
        · cases h1
        · simp only [Nat.zero_add, Option.some.injEq] at h1
          subst h1
          have he : es[i]? = some e := by simpa using h2
          obtain ⟨q1, q2⟩ := mods_key (v := vv) he h3
          refine ⟨_, ?_, set p.1 (p.2.set i v) (es.modify i fun e => { e with key := kv, val := vv }) clock fun hle => ⟨by rw [q1]; exact hks.le hle, by rw [q2]; exact (hvs.le hle).set i (hvv.le hle)⟩⟩
          simp only [Nat.zero_add] at h4
          have hst : (Instr.keyThatStays kv kv).run P c.w = .ok kv c.w := MapKept.run_keyThatStays hkk
          simp only [Instr.mapUpdate, Sem.run_bind, run_underlying' hu, Result.andThen_ok, MapKept.run_getObj_map hw, hck, run_findKey hkt h4, he, Option.map_some, Option.getD_some, h3, hst, MapKept.run_setObj_map _ hw]
      · rename_i hf
        injection hx with hx
        subst hx
        rcases findK_now hd hkv p.1 es.toList 0 _ hks hf with ⟨_, h2⟩ | ⟨j, e, h1, _⟩
        · refine ⟨_, ?_, set (p.1 ++ [k]) (p.2 ++ [v]) (es.push { key := kv, val := vv, born := clock }) (clock + 1) fun hle => ⟨?_, ?_⟩⟩
          · simp only [Instr.mapUpdate, Sem.run_bind, run_underlying' hu, Result.andThen_ok, MapKept.run_getObj_map hw, hck, run_findKey hkt h2, MapKept.run_setObj_map _ hw]
          · simp only [Array.toList_push, List.map_append, List.map_cons, List.map_nil]
            exact (hks.le hle).append (by simp only [LRel]; exact ⟨_, _, rfl, hkv.le hle, rfl⟩)
          · simp only [Array.toList_push, List.map_append, List.map_cons, List.map_nil]
            exact (hvs.le hle).append (by simp only [LRel]; exact ⟨_, _, rfl, hvv.le hle, rfl⟩)
        · cases h1
      · cases hx
    · cases hx
  · cases hx
theorem does_insert {t : TypeId} {m k v : Operand} (ho : o.op = .insert t m k v ∨ o.op = .mapUpdate t m k v) (hH : HRel E c H) (hr : LRel E c ts a.tmps.toList) (h : opW E P o ts H K) : Does E P c H o a K := by
  have h' : ∃ d e H', mapB P t = some (d, e) ∧ insertA d (ev E ts m) (ev E ts k) (ev E ts v) H = some H' ∧ K undefA H' := by
    rcases ho with ho | ho
    all_goals
      simp only [opW, ho] at h
      split at h
      · rename_i d e hm
        obtain ⟨H', hx, hk⟩ := h
        exact ⟨d, e, H', hm, hx, hk⟩
      · exact h.elim
  obtain ⟨d, e, H', hm, hx, hk⟩ := h'
  obtain ⟨w', h1, h2, h3⟩ := insert_sound hm hH hx (ev_rel hH hr m) (ev_rel hH hr k) (ev_rel hH hr v)
  refine ⟨undef, _, H', undefA, .inr ⟨?_, rfl⟩, hk, h2, by simp [undefA, undef, VRel], h3, .inr (by rcases ho with ho | ho <;> simp [ho, readOp])⟩
  rcases ho with ho | ho <;> simp [execOp, ho, h1]
end
end Go.Sc
namespace Go.Sc
open Go
set_option linter.unusedSimpArgs false
set_option linter.unusedVariables false
section
variable {E : Env} {P : Program} {c : Cx} {H : AH} {o : Oper} {a : Act} {ts : List AV} {K : Kt}
theorem equalIn_basic {ft : TypeId} {d : TypeDesc} {x y : AV} {u v : Value} {b : Bool} (hd : P.underlying ft = some d) (hx : keyIs d x = true) (hy : keyIs d y = true) (hu : VRel E c x u) (hv : VRel E c y v) (h : keyEq x y = some b) (n : Nat) (w : World) :
    (Op.equalIn (n + 1) ft u v).run P w = .ok b w := by
  have hrun := run_underlying' hd w
  unfold keyEq at h
  split at h
  · rename_i k p k' q
    split at h
    · rename_i hk
      subst hk
      injection h with h; subst h
      simp only [VRel] at hu hv; subst hu hv
      cases d <;> simp [keyIs] at hx
      simp [Op.equalIn, hrun]
    · cases h
  · injection h with h; subst h
    simp only [VRel] at hu hv; subst hu hv
    cases d <;> simp [keyIs] at hx
    simp [Op.equalIn, hrun]
  · injection h with h; subst h
    simp only [VRel] at hu hv; subst hu hv
    cases d <;> simp [keyIs] at hx
    simp [Op.equalIn, hrun]
  · cases h
theorem fields_loop {n : Nat} {xs ys : List AV} {us vs : List Value} (hu : LRel E c xs us) (hv : LRel E c ys vs) {w : World} : ∀ (fs : List Field) (l : List (Nat × TypeDesc)) (b : Bool), strF P fs = some l → eqS l xs ys = some b →
    (forIn fs ((none, ()) : Option Bool × Unit) fun (f : Field) r => do
      if f.name ≠ "_" then
        if !(← Op.equalIn (n + 1) f.type (← part f.type us.toArray f.offset) (← part f.type vs.toArray f.offset)) then pure (ForInStep.done (some false, ())) else pure (ForInStep.yield (none, ()))
      else pure (ForInStep.yield (none, ()))).run P w = .ok (if b then (none, ()) else (some false, ())) w := by
  intro fs
  induction fs with
  | nil =>
    intro l b h1 h2
    simp [strF] at h1; subst h1
    simp [eqS] at h2; subst h2
    simp
  | cons f fs ih =>
    intro l b h1 h2
    simp only [strF] at h1
    split at h1
    · cases h1
    · rename_i hnm
      split at h1
      · rename_i k d l' ht hd hl
        injection h1 with h1; subst h1
        simp only [eqS] at h2
        split at h2
        · rename_i x y hx hy
          split at h2
          · rename_i hk
            rw [Bool.and_eq_true] at hk
            obtain ⟨u, hu1, hu2⟩ := part_sound (P := P) (b := false) ht hu (r := x) (by simpa using hx) w
            obtain ⟨v, hv1, hv2⟩ := part_sound (P := P) (b := false) ht hv (r := y) (by simpa using hy) w
            split at h2
            · rename_i he
              have heq := equalIn_basic hd hk.1 hk.2 hu2 hv2 he n w
              have := ih l' b hl h2
              simp only [List.forIn_cons, Sem.run_bind, if_pos hnm, hu1, hv1, Result.andThen_ok, heq, Bool.not_true, Bool.false_eq_true, if_false, Sem.run_pure]
              exact this
            · rename_i he
              injection h2 with h2; subst h2
              have heq := equalIn_basic hd hk.1 hk.2 hu2 hv2 he n w
              simp only [List.forIn_cons, Sem.run_bind, if_pos hnm, hu1, hv1, Result.andThen_ok, heq, Bool.not_false, if_true, Sem.run_pure, Bool.false_eq_true, if_false]
            · cases h2
          · cases h2
        · cases h2
      · cases h1
theorem eqSA_sound {l : List (Nat × TypeDesc)} {neg : Bool} {x y r : AV} {u v : Value} {t : TypeId} (hs : strB P t = some l) (h : eqSA l neg x y = some r) (hu : VRel E c x u) (hv : VRel E c y v) (w : World) :
    ∃ b us vs, r = .val (.bool (b != neg)) ∧ u = .agg us ∧ v = .agg vs ∧ P.eqGuardType P.depth t = false ∧ (Op.equal t u v).run P w = .ok b w := by
  unfold eqSA at h
  split at h
  · rename_i xs ys
    obtain ⟨b, hb, rfl⟩ := Option.map_eq_some_iff.1 h
    simp only [VRel] at hu hv
    obtain ⟨us, rfl, hul⟩ := hu
    obtain ⟨vs, rfl, hvl⟩ := hv
    unfold strB at hs
    split at hs
    · rename_i fs hd
      split at hs
      · cases hs
      · rename_i hg
        rw [Bool.or_eq_true, not_or, Bool.not_eq_true, Bool.not_eq_true] at hg
        refine ⟨b, us.toArray, vs.toArray, rfl, rfl, rfl, hg.2, ?_⟩
        have hrun := run_underlying' hd w
        have := fields_loop (P := P) (n := 9998) hul hvl (w := w) fs.toList l b hs hb
        show (Op.equalIn (9998 + 1 + 1) t _ _).run P w = _
        generalize 9998 = n at this
        rw [Op.equalIn]
        simp only [Sem.run_bind, hrun, Result.andThen_ok, run_program, hg.1, Bool.false_eq_true, if_false]
        rw [← Array.forIn_toList, this]
        cases b <;> simp
    · cases hs
  · cases h
theorem does_eqS {op : BinOp} {t : TypeId} {x y : Operand} {t' : TypeId} {l : List (Nat × TypeDesc)} (ho : o.op = .binOp op t x y t') (hs : shpB P t = none) (hs2 : strB P t = some l) (hH : HRel E c H) (hr : LRel E c ts a.tmps.toList) (h : opW E P o ts H K) : Does E P c H o a K := by
  have hx := ev_rel hH hr x
  have hy := ev_rel hH hr y
  cases op with
  | eql =>
    simp only [opW, ho, hs, hs2] at h
    obtain ⟨r, hb, hk⟩ := h
    obtain ⟨b, us, vs, rfl, e1, e2, hg, he⟩ := eqSA_sound hs2 hb hx hy c.w
    rw [e1, e2] at he
    exact does_pure hH (v := .bool (b != false)) (by simp [execOp, ho, e1, e2, eqGuard, run_program, hg, binOp, he]) (by simp [VRel]) hk
  | neq =>
    simp only [opW, ho, hs, hs2] at h
    obtain ⟨r, hb, hk⟩ := h
    obtain ⟨b, us, vs, rfl, e1, e2, hg, he⟩ := eqSA_sound hs2 hb hx hy c.w
    rw [e1, e2] at he
    exact does_pure hH (v := .bool (b != true)) (by simp [execOp, ho, e1, e2, eqGuard, run_program, hg, binOp, he]) (by simp [VRel]) hk
  | _ => simp only [opW, ho, hs, hs2] at h

/-- the first ones of a slice, as a slice of their own -/
theorem shortA_sound {n : Nat} {x y : AV} {v : Value} (h : shortA n x = some y) (hv : VRel E c x v) :
    ∃ v', VRel E c y v' ∧ ∀ size w, (Builtin.firstCells size n v).run P w = (Builtin.firstCells size n v').run P w := by
  unfold shortA at h
  split at h
  · split at h
    · injection h with h; subst h
      exact ⟨v, hv, fun _ _ => rfl⟩
    · cases h
  all_goals try (cases h; done)
  all_goals
    split at h
    · rename_i hn
      injection h with h; subst h
      simp only [VRel] at hv ⊢
      first
        | (obtain ⟨p, cap, rfl, hl, hp⟩ := hv
           exact ⟨.slice (some p) n cap, ⟨p, cap, rfl, by omega, hp⟩, fun _ _ => rfl⟩)
        | (obtain ⟨hg, p, cap, rfl, hl, hp⟩ := hv
           exact ⟨.slice (some p) n cap, ⟨hg, p, cap, rfl, by omega, hp⟩, fun _ _ => rfl⟩)
        | (rcases hv with ⟨rfl, rfl⟩ | ⟨p, cap, rfl, hl, hp⟩
           · exact ⟨.slice none 0 0, .inl ⟨rfl, by omega⟩, fun _ _ => rfl⟩
           · exact ⟨.slice (some p) n cap, .inr ⟨p, cap, rfl, by omega, hp⟩, fun _ _ => rfl⟩)
    · cases h
theorem shortA_len {sz n m : Nat} {x y : AV} {new : List AV} (h : shortA n x = some y) (hc : cellsOfA sz y H = some (m, new)) : m = n := by
  unfold shortA at h
  split at h
  · split at h
    · injection h with h; subst h
      simp [cellsOfA] at hc; omega
    · cases h
  all_goals try (cases h; done)
  all_goals
    split at h
    · injection h with h; subst h
      simp only [cellsOfA, Option.bind_eq_some_iff, Option.map_eq_some_iff, Prod.mk.injEq] at hc
      first
        | (obtain ⟨_, _, h1, _⟩ := hc; exact h1.symm)
        | (obtain ⟨_, _, _, _, h1, _⟩ := hc; exact h1.symm)
    · cases h
theorem lenA_run {x : AV} {m : Int} {v : Value} (h : lenA x = some (.val (.int .i64 m))) (hv : VRel E c x v) (w : World) : ∃ k : Nat, m = k ∧ (Builtin.lenOf v).run P w = .ok k w := by
  unfold lenA at h
  split at h
  · injection h with h; injection h with h; injection h with _ h; simp only [VRel] at hv; obtain ⟨p, cap, rfl, -⟩ := hv; exact ⟨_, h.symm, by simp [Builtin.lenOf]⟩
  · injection h with h; injection h with h; injection h with _ h; simp only [VRel] at hv; obtain ⟨_, p, cap, rfl, -⟩ := hv; exact ⟨_, h.symm, by simp [Builtin.lenOf]⟩
  · injection h with h; injection h with h; injection h with _ h; simp only [VRel] at hv
    rcases hv with ⟨rfl, rfl⟩ | ⟨p, cap, rfl, -⟩ <;> exact ⟨_, h.symm, by simp [Builtin.lenOf]⟩
  · injection h with h; injection h with h; injection h with _ h; simp only [VRel] at hv; obtain ⟨_, p, cap, rfl, -⟩ := hv; exact ⟨_, h.symm, by simp [Builtin.lenOf]⟩
  · injection h with h; injection h with h; injection h with _ h; simp only [VRel] at hv; subst hv; exact ⟨_, h.symm, by simp [Builtin.lenOf]⟩
  · cases h
theorem does_copy {cl : Call} (ho : o.op = .call cl) (hc : cl.callee = .builtin .copy) (hH : HRel E c H) (hr : LRel E c ts a.tmps.toList) (h : opW E P o ts H K) : Does E P c H o a K := by
  simp only [opW, ho, hc] at h
  split at h
  · rename_i e n b d x h1 h2
    obtain ⟨t, ht, h1⟩ := Option.bind_eq_some_iff.1 h1
    obtain ⟨i, hd, hi, rfl, rfl⟩ := elemB_some h1
    have hargs := args_two h2
    have hdv := ev_rel hH hr d
    have hxv := ev_rel hH hr x
    obtain ⟨r, H', hb, hk⟩ := h
    unfold copyA at hb
    split at hb
    · rename_i bb off len g k m e1 e2
      rw [e1] at hdv
      cases k <;> first | (simp [lenA] at e2; done) | skip
      all_goals try (unfold lenA at e2; split at e2 <;> simp at e2; done)
      obtain ⟨m, rfl, hlen⟩ := lenA_run (P := P) e2 hxv c.w
      simp only [Int.toNat_natCast, Option.bind_eq_some_iff] at hb
      obtain ⟨y, hy, p, hp, hb⟩ := hb
      split at hb
      · rename_i hsc
        obtain ⟨v', hv', hfirst⟩ := shortA_sound (P := P) hy hxv
        obtain ⟨hl', news, hn1, hn2, hn3⟩ := cellsOfA_sound (P := P) (show cellsOfA i.size y H = some (p.1, p.2) from hp) hH hv'
        have hmn := shortA_len hy hp
        have hdv0 := hdv
        simp only [VRel] at hdv
        obtain ⟨hg, ad, cap, hav, hlc, hpl⟩ := hdv
        have hnews := hn3 c.w rfl
        rw [hmn] at hnews hn1
        have hf := (hfirst i.size c.w).trans hnews
        split at hb
        · rename_i h0
          injection hb with hb; injection hb with hb1 hb2; subst hb1 hb2
          have hnil : news = [] := List.eq_nil_of_length_eq_zero (by rw [hn1, h0]; simp)
          subst hnil
          refine ⟨.int .i64 0, c, H, _, .inl ?_, hk, hH, by simp [VRel], Later.refl c, .inr (by simp [ho, hc, readOp])⟩
          simp [execOp, ho, resolve, hc, invoke, builtin, hargs, Builtin.copy_, ht, run_underlying' hd, hav, hlen, sizeOf, typeInfo, hi, hf, storeCells, goInt]
          omega
        · rename_i h0
          obtain ⟨H1, hst, hb⟩ := Option.map_eq_some_iff.1 hb
          injection hb with hb1 hb2; subst hb1 hb2
          have hgen : c.gen bb = some g := by
            unfold storeN at hst
            simp only at hst
            split at hst
            · obtain ⟨cs, hcs, _⟩ := Option.bind_eq_some_iff.1 hst
              obtain ⟨sz, p0, pre, rest, e, hbk, hg', _⟩ := hH.block hcs
              exact hg'
            · cases hst
          have hpos : cap ≠ 0 := by omega
          obtain ⟨rfl, _⟩ := (hpl hgen).resolve_left hpos
          have hptr : VRel E c (.ptrL bb off g) (.pointer (some ⟨c.al bb, c.base bb + off, none⟩)) := by
            simp only [VRel]; exact ⟨hg, _, rfl, fun _ => rfl⟩
          have hagg : VRel E c (.agg p.2) (.agg news.toArray) := by simp only [VRel]; exact ⟨news, rfl, hn2⟩
          obtain ⟨ad, had, hs, w', hrun, c', hw, h3, h4⟩ := storeN_sound (P := P) hH hst hptr hagg
          injection had with had; injection had with had; subst had
          simp only [Value.cells, List.size_toArray] at hrun
          refine ⟨.int .i64 (min m len : Nat), c', H1, _, .inl ?_, hk, h3, by simp [VRel], h4, .inr (by simp [ho, hc, readOp])⟩
          simp [execOp, ho, resolve, hc, invoke, builtin, hargs, Builtin.copy_, ht, run_underlying' hd, hav, hlen, sizeOf, typeInfo, hi, hf, hrun, hw, goInt]
      · cases hb
    · cases hb
  · exact h.elim
end
end Go.Sc
namespace Go.Sc
open Go
set_option linter.unusedVariables false
section
variable {E : Env} {P : Program}
/-- what a result comes to, wherever it is used -/
def UponN (P : Program) (N : Value → World → Prop) (r : Result Next) : Prop :=
  ∀ (o : Oper) (a : Act) (next : Act → World → Prop) (Q : Exit → Act → World → Prop), (∀ v w', N v w' → next (a.put o.dst v) w') → o.upon P a next Q r
theorem UponN.mono {N N' : Value → World → Prop} {r : Result Next} (h : UponN P N r) (hn : ∀ v w', N v w' → N' v w') : UponN P N' r :=
  fun o a next Q k => h o a next Q fun v w' hv => k v w' (hn v w' hv)

/-- the wide fence, or a round's -/
def roundF (ro : Option Nat) : Fence := { Fence.wide with round := ro }
theorem callsIn_round {ro : Option Nat} {n : Nat} {P : Program} {f : FuncId} {args : Array Value} {w : World} {R : Ending → World → Prop} : CallsIn (roundF ro) n P f args w R ↔ Calls P f args w R :=
  callsIn_wide (n := n)
theorem upon_in {ro : Option Nat} {n : Nat} {P : Program} {o : Oper} {a : Act} {next : Act → World → Prop} {Q : Exit → Act → World → Prop} {r : Result Next} (h : o.upon P a next Q r) : o.uponIn (roundF ro) n P a next Q r := by
  cases r with
  | ok nx w =>
    cases nx with
    | value v => exact h
    | skip => exact h
    | defer d => exact h
    | enter f args => exact ⟨fun h => (by cases h), callsIn_round.2 h⟩
    | row row args =>
      refine ⟨fun h => (by cases h), fun c cs _ => ?_⟩
      obtain ⟨v, w', h1, h2⟩ := (h : Rows P row args w _) c cs
      exact ⟨v, w', h1, stepsIn_wide.2 h2⟩
    | _ => exact h.elim
  | halt e w =>
    cases e with
    | panic v => exact h
    | _ => exact h.elim
theorem wp_in {ro : Option Nat} {n : Nat} {P : Program} {o : Oper} {a : Act} {w : World} {next : Act → World → Prop} {Q : Exit → Act → World → Prop} (hnd : ∀ c, o.op ≠ .defer c) (h : o.wp P a w next Q) : o.wpIn (roundF ro) n P a w next Q := by
  refine ⟨fun _ _ => trivial, ?_⟩
  rw [Oper.semAt_eq _ _ _ hnd]
  exact upon_in h
def OpPost (E : Env) (c : Cx) (H : AH) (o : Oper) (K : Kt) (v : Value) (w' : World) : Prop :=
  ∃ x c' H', c'.w = w' ∧ K x H' ∧ HRel E c' H' ∧ VRel E c' x v ∧ Later c c' ∧ ((c' = c ∧ H' = H) ∨ lookOp o.op = false)

theorem Does.run {c : Cx} {H : AH} {o : Oper} {a : Act} {K : Kt} (h : Does E P c H o a K) : UponN P (OpPost E c H o K) ((execOp a.eval o).run P c.w) := by
  obtain ⟨v, c', H', x, hrun, hk, h1, h2, h3, h4⟩ := h
  intro o' a' next Q hn
  have hp : OpPost E c H o K v c'.w := ⟨x, c', H', rfl, hk, h1, h2, h3, h4.imp id fun h => by
    cases ho : o.op <;> simp_all [lookOp, readOp]⟩
  rcases hrun with hrun | ⟨hrun, rfl⟩
  · rw [hrun]; exact hn v c'.w hp
  · rw [hrun]; exact hn undef c'.w hp

/-- operations without a call of a function -/
def plainOp : Op → Bool
  | .call c => match c.callee with
    | .value _ => false
    | .invoke _ _ => false
    | _ => true
  | _ => true
theorem does_all {c : Cx} {o : Oper} {a : Act} {ts : List AV} {H : AH} {K : Kt} (hp : plainOp o.op = true) (h : opW E P o ts H K) (hH : HRel E c H) (hr : LRel E c ts a.tmps.toList) : Does E P c H o a K := by
  cases ho : o.op with
  | move x => exact (does_move (.inl ho) hH hr h)
  | assign x => exact (does_move (.inr ho) hH hr h)
  | pick x y z => exact (does_pick ho hH hr h)
  | alloc t => exact (does_alloc ho hH h)
  | box t x => exact (does_box ho hH hr h)
  | build t ps => exact (does_build ho hH hr h)
  | buildSlice t n ps => exact (does_buildSlice ho hH hr h)
  | load t x => exact (does_load ho hH hr h)
  | store t x y => exact (does_store ho hH hr h)
  | nilCheck x => exact (does_nilCheck ho hH hr h)
  | binOp op t x y t' =>
    cases hs : shpB P t with
    | none =>
      cases hs2 : strB P t with
      | none => exact (does_bin ho hs hs2 hH hr h)
      | some l => exact (does_eqS ho hs hs2 hH hr h)
    | some s => exact (does_eq ho hs hH hr h)
  | unOp op t x => exact (does_un ho hH hr h)
  | convert s t x => exact (does_convert ho hH hr h)
  | makeInterface t x => exact (does_makeInterface ho hH hr h)
  | makeFunc f fs cs => exact (does_makeFunc ho hH hr h)
  | makeSlice t x y => exact (does_makeSlice ho hH hr h)
  | slice t x lo hi m => exact (does_slice ho hH hr h)
  | fieldAddr t x f => exact (does_fieldAddr ho hH hr h)
  | field t x f => exact (does_field ho hH hr h)
  | indexAddr t x i => exact (does_indexAddr ho hH hr h)
  | index t x i => exact (does_index ho hH hr h)
  | extract x i => exact (does_extract ho hH hr h)
  | typeAssert x xt t ok => exact (does_typeAssert ho hH hr h)
  | makeMap t r => exact (does_makeMap ho hH h)
  | insert t m k v => exact (does_insert (.inl ho) hH hr h)
  | mapUpdate t m k v => exact (does_insert (.inr ho) hH hr h)
  | lookup t m k ok => exact (does_lookup ho hH hr h)
  | call cl =>
    cases hc : cl.callee with
    | builtin b =>
      cases b with
      | len => exact (does_len ho hc hH hr h)
      | append => exact (does_append ho hc hH hr h)
      | copy => exact (does_copy ho hc hH hr h)
      | max => exact (does_minmax true ho hc hH hr h)
      | min => exact (does_minmax false ho hc hH hr h)
      | _ => simp only [opW, ho, hc] at h
    | invoke r m => simp [ho, hc, plainOp] at hp
    | value f => simp [ho, hc, plainOp] at hp
  | _ => simp only [opW, ho] at h

theorem op_run {c : Cx} {o : Oper} {a : Act} {ts : List AV} {H : AH} {K : Kt} (h : opW E P o ts H K) (hH : HRel E c H) (hr : LRel E c ts a.tmps.toList) : UponN P (OpPost E c H o K) ((execOp a.eval o).run P c.w) := by
  cases ho : o.op with
  | call cl =>
    cases hc : cl.callee with
    | builtin b => exact (does_all (by simp [ho, hc, plainOp]) h hH hr).run
    | invoke r m =>
      simp only [opW, ho, hc] at h
      obtain ⟨k, x, f, hx, hm, R, hA, hRK⟩ := h
      have hr0 := ev_rel hH hr r
      rw [hx] at hr0; simp only [VRel] at hr0
      obtain ⟨u, hu, _, hxu⟩ := hr0
      have hargs : LRel E c (x :: cl.args.toList.map (ev E ts)) (u :: cl.args.toList.map a.eval) := by
        simp only [LRel]; exact ⟨u, _, rfl, hxu, evs_rel hH hr _⟩
      have this := hA c _ hH hargs
      have e : (execOp a.eval o).run P c.w = (callFunc (E.fn f) (u :: cl.args.toList.map a.eval).toArray).run P c.w := by
        have hm' := hm u c.w
        have e2 : (#[u] ++ (#[a.eval r] ++ cl.args.map a.eval).extract 1 (#[a.eval r] ++ cl.args.map a.eval).size) = (u :: cl.args.toList.map a.eval).toArray := by
          apply Array.ext'; simp [List.take_of_length_le]
        have e3 : (#[a.eval r] ++ cl.args.map a.eval)[0]? = some (.iface (E.ty k) u) := by
          rw [Array.getElem?_append_left (by simp)]; simp [hu]
        simp only [execOp, ho, resolve, hc, Sem.run_bind, Sem.run_pure, Result.andThen_ok, invoke, e3, callMethod, run_program, hm', e2]
      rw [e]
      refine UponN.mono this ?_
      rintro v w' ⟨r', c', H', rfl, h1, h2, h3, h4⟩
      exact ⟨r', c', H', rfl, hRK r' H' h1, h2, h3, h4, .inr (by simp [ho, hc, lookOp, readOp])⟩
    | value f =>
      have args := evs_rel hH hr cl.args.toList
      have key : ∀ k fs cs R (gs ds : List Value), a.eval f = .func (.func (E.fn k)) gs.toArray ds.toArray → LRel E c fs gs → LRel E c cs ds → ACalls E P k (fs ++ cl.args.toList.map (ev E ts) ++ cs) H R → (∀ r H', R r H' → K r H') →
          UponN P (OpPost E c H o K) ((execOp a.eval o).run P c.w) := by
        intro k fs cs R gs ds hf hfs hcs hA hRK
        have := hA c (gs ++ cl.args.toList.map a.eval ++ ds) hH ((hfs.append args).append hcs)
        have e : execOp a.eval o = callFunc (E.fn k) (gs ++ cl.args.toList.map a.eval ++ ds).toArray := by
          simp only [execOp, ho, resolve, hc, hf, Deferred.ofValue]
          have : (gs.toArray ++ cl.args.map a.eval ++ ds.toArray) = (gs ++ cl.args.toList.map a.eval ++ ds).toArray := by
            apply Array.ext'; simp
          rw [← this]
          rfl
        rw [e]
        refine UponN.mono this ?_
        rintro v w' ⟨r, c', H', rfl, h1, h2, h3, h4⟩
        exact ⟨r, c', H', rfl, hRK r H' h1, h2, h3, h4, .inr (by simp [ho, hc, lookOp, readOp])⟩
      cases f with
      | func f =>
        simp only [opW, ho, hc] at h
        split at h
        · rename_i hf
          obtain ⟨R, hA, hRK⟩ := h
          exact key (E.fk f) [] [] R [] [] (by simp [Act.eval, hf]) (by simp [LRel]) (by simp [LRel]) (by simpa using hA) hRK
        · exact h.elim
      | tmp t =>
        simp only [opW, ho, hc] at h
        obtain ⟨k, fs, cs, he, R, hA, hRK⟩ := h
        have hv := ev_rel hH hr (.tmp t)
        rw [he] at hv; simp only [VRel] at hv
        obtain ⟨gs, ds, hv, h1, h2⟩ := hv
        exact key k fs cs R gs ds hv h1 h2 hA hRK
      | const t =>
        simp only [opW, ho, hc] at h
        obtain ⟨k, fs, cs, he, R, hA, hRK⟩ := h
        have hv := ev_rel hH hr (.const t)
        rw [he] at hv; simp only [VRel] at hv
        obtain ⟨gs, ds, hv, h1, h2⟩ := hv
        exact key k fs cs R gs ds hv h1 h2 hA hRK
      | global t =>
        simp only [opW, ho, hc] at h
        obtain ⟨k, fs, cs, he, R, hA, hRK⟩ := h
        have hv := ev_rel hH hr (.global t)
        rw [he] at hv; simp only [VRel] at hv
        obtain ⟨gs, ds, hv, h1, h2⟩ := hv
        exact key k fs cs R gs ds hv h1 h2 hA hRK
  | _ => exact (does_all (by simp [ho, plainOp]) h hH hr).run

theorem op_no_defer {o : Oper} {ts : List AV} {H : AH} {K : Kt} (h : opW E P o ts H K) : ∀ c, o.op ≠ .defer c := by
  intro c ho
  simp [opW, ho] at h
theorem op_sound {ro : Option Nat} {n : Nat} {c : Cx} {o : Oper} {a : Act} {ts : List AV} {H : AH} {K : Kt} (h : opW E P o ts H K) (hH : HRel E c H) (hr : LRel E c ts a.tmps.toList) {next : Act → World → Prop} {Q : Exit → Act → World → Prop}
    (hn : ∀ x v c' H', K x H' → HRel E c' H' → VRel E c' x v → Later c c' → next (a.put o.dst v) c'.w) : o.wpIn (roundF ro) n P a c.w next Q :=
  wp_in (op_no_defer h) (op_run h hH hr o a next Q fun v w' ⟨x, c', H', e, h1, h2, h3, h4, _⟩ => e ▸ hn x v c' H' h1 h2 h3 h4)

/-- outside 'W' nothing turns -/
def Agree (W : List Nat) (ts ts' : List AV) : Prop := ts'.length = ts.length ∧ ∀ t, t ∉ W → ts'[t]? = ts[t]?
theorem Agree.refl (W : List Nat) (ts : List AV) : Agree W ts ts := ⟨rfl, fun _ _ => rfl⟩
theorem Agree.trans {W W' : List Nat} {a b c : List AV} (h : Agree W a b) (k : Agree W' b c) : Agree (W ++ W') a c :=
  ⟨k.1.trans h.1, fun t ht => by
    simp only [List.mem_append, not_or] at ht
    rw [k.2 t ht.2, h.2 t ht.1]⟩
theorem Agree.mono {W W' : List Nat} {a b : List AV} (h : Agree W a b) (hs : ∀ t ∈ W, t ∈ W') : Agree W' a b := ⟨h.1, fun t ht => h.2 t fun h' => ht (hs t h')⟩
theorem Agree.put (ts : List AV) (d : Option Tmp) (x : AV) : Agree d.toList ts (putT ts d x) := by
  cases d with
  | none => exact Agree.refl _ _
  | some d => exact ⟨by simp [putT], fun t ht => by simp at ht; simp [putT, List.getElem?_set_ne (Ne.symm ht)]⟩

theorem put_rel {c : Cx} {ts : List AV} {a : Act} {x : AV} {v : Value} (hr : LRel E c ts a.tmps.toList) (hv : VRel E c x v) (d : Option Tmp) : LRel E c (putT ts d x) (a.put d v).tmps.toList := by
  cases d with
  | none => exact hr
  | some d => simpa [putT, Act.put] using hr.set d hv
theorem put_defers {a : Act} {d : Option Tmp} {v : Value} : (a.put d v).defers = a.defers := by cases d <;> rfl

theorem yielded_is {all : Array Oper} {tmps : Array Value} {j : Nat} {d : Tmp} (h : (all[j]?).bind (·.dst) = some d) : yielded all tmps j = (match tmps[d]? with | some (.bool b) => some b | _ => none) := by
  simp only [yielded, h, Option.bind_some]
  rcases tmps[d]? with _ | v
  · rfl
  · cases v <;> rfl

theorem opsW_sound {ro : Option Nat} {n : Nat} {d0 : List Deferred} {all : Array Oper} (c0 : Cx) (ts0 : List AV) (W0 : List Nat) {K : List AV → AH → Prop} {Q : Exit → Act → World → Prop} : ∀ (rest : List Oper) (ts : List AV) (H : AH) (c : Cx) (a : Act),
    opsW E P all rest ts H K → HRel E c H → LRel E c ts a.tmps.toList → a.defers = d0 → Later c0 c → Agree W0 ts0 ts → (∀ o ∈ rest, ∀ d ∈ o.dst.toList, d ∈ W0) →
    (∀ ts' H' c' a', K ts' H' → HRel E c' H' → LRel E c' ts' a'.tmps.toList → a'.defers = d0 → Later c0 c' → Agree W0 ts0 ts' → Q .normal a' c'.w) →
    wpListIn (roundF ro) n P all Q rest a c.w
  | [], ts, H, c, a, h, hH, hr, hd, hL, hA, _, hQ => hQ ts H c a h hH hr hd hL hA
  | o :: rest, ts, H, c, a, h, hH, hr, hd, hL, hA, hW, hQ => by
    have hstep : ∀ x v c' H', HRel E c' H' → VRel E c' x v → Later c c' → opsW E P all rest (putT ts o.dst x) H' K → wpListIn (roundF ro) n P all Q rest (a.put o.dst v) c'.w := by
      intro x v c' H' h1 h2 h3 h4
      refine opsW_sound c0 ts0 W0 rest _ H' c' _ h4 h1 (put_rel (hr.le h3.le) h2 _) (put_defers.trans hd) (hL.trans h3) ?_ (fun o' ho' => hW o' (List.mem_cons_of_mem _ ho')) hQ
      refine (hA.trans (Agree.put ts o.dst x)).mono fun t ht => ?_
      rcases List.mem_append.1 ht with ht | ht
      · exact ht
      · exact hW o (List.mem_cons_self ..) t ht
    have hskip : opsW E P all rest (putT ts o.dst undefA) H K → wpListIn (roundF ro) n P all Q rest (a.put o.dst undef) c.w := fun h4 =>
      hstep undefA undef c H hH (by simp [VRel, undefA, undef]) (Later.refl c) h4
    simp only [opsW] at h
    simp only [wpListIn]
    cases hg : o.guard with
    | none =>
      simp only [hg] at h
      rw [if_pos (by simp [Region.wanted, hg])]
      exact (op_sound h hH hr fun x v c' H' hk h1 h2 h3 => hstep x v c' H' h1 h2 h3 hk)
    | some p =>
      obtain ⟨j, want⟩ := p
      simp only [hg] at h
      split at h
      · rename_i d hjd
        have hval : ∀ x, ts.getD d undefA = x → ∀ v, a.tmps.getD d undef = v → VRel E c x v := by
          intro x hx v hv
          have := ev_rel hH hr (.tmp d)
          simp only [ev, Act.eval] at this
          rw [← hx, ← hv]; exact this
        obtain ⟨h⟩ := h
        rcases h with ⟨b, hb, hyes, hno⟩ | ⟨hu, hk⟩
        · have hv := hval _ hb _ rfl
          simp only [VRel] at hv
          have hy : yielded all a.tmps j = some b := by
            rw [yielded_is hjd]
            cases htd : a.tmps[d]? with
            | none => simp [Array.getD_eq_getD_getElem?, htd, undef] at hv
            | some u => simp [Array.getD_eq_getD_getElem?, htd] at hv; simp [hv]
          by_cases hbw : b = want
          · rw [if_pos (by simp [Region.wanted, hg, hy, hbw])]
            exact (op_sound (hyes hbw) hH hr fun x v c' H' hk h1 h2 h3 => hstep x v c' H' h1 h2 h3 hk)
          · rw [if_neg (by simp [Region.wanted, hg, hy, hbw])]
            exact ⟨fun _ _ => trivial, hskip (hno hbw)⟩
        · have hv := hval _ hu _ rfl
          simp only [undefA, VRel] at hv
          have hy : yielded all a.tmps j = none := by
            rw [yielded_is hjd]
            cases htd : a.tmps[d]? with
            | none => rfl
            | some u => simp [Array.getD_eq_getD_getElem?, htd] at hv; simp [hv]
          rw [if_neg (by simp [Region.wanted, hg, hy])]
          exact ⟨fun _ _ => trivial, hskip hk⟩
      · exact h.elim

theorem dst_writes {ops : Array Oper} {o : Oper} (ho : o ∈ ops.toList) : ∀ d ∈ o.dst.toList, d ∈ opWrites ops := by
  intro d hd'
  unfold opWrites
  rw [List.mem_filterMap]
  exact ⟨o, ho, by cases hx : o.dst <;> simp_all⟩

theorem region_sound {ro : Option Nat} {n : Nat} {d0 : List Deferred} {id : Nat} {ops : Array Oper} {K : List AV → AH → Prop} {Q : Exit → Act → World → Prop} {ts : List AV} {H : AH} {c : Cx} {a : Act} (h : opsW E P ops ops.toList ts H K) (hH : HRel E c H) (hr : LRel E c ts a.tmps.toList) (hd : a.defers = d0)
    (hQ : ∀ ts' H' c' a', K ts' H' → HRel E c' H' → LRel E c' ts' a'.tmps.toList → a'.defers = d0 → Later c c' → Agree (opWrites ops) ts ts' → Q .normal a' c'.w) : (Code.region id ops false).wpIn (roundF ro) n P Q a c.w :=
  wpIn_region_list (opsW_sound c ts (opWrites ops) ops.toList ts H c a h hH hr hd (Later.refl c) (Agree.refl _ _) (fun o ho => dst_writes ho) hQ)
end
end Go.Sc
namespace Go.Sc
open Go
section
variable {E : Env} {P : Program}
/-- what an operation that only looks gives -/
def rdA (E : Env) (P : Program) (o : Oper) (ts : List AV) (H : AH) : Option AV :=
  match o.op with
  | .move x => some (ev E ts x)
  | .pick c a b => pickA (ev E ts c) (ev E ts a) (ev E ts b)
  | .build t parts => match partsB E P ts t parts.toList, zeroB P t with
    | some l, some z => (fillA z l).map .agg
    | _, _ => none
  | .load t a => match tyB P t with
    | some (true, n) => loadN n (ev E ts a) H
    | some (false, _) => load1 (ev E ts a) H
    | none => none
  | .nilCheck x => nilA (ev E ts x)
  | .binOp op t x y _ => match shpB P t with
    | some s => match op with
      | .eql => if s = .iface ∧ !(isConstO x || isConstO y) then none else (eqA s (ev E ts x) (ev E ts y)).map fun b => .val (.bool (b != false))
      | .neq => if s = .iface ∧ !(isConstO x || isConstO y) then none else (eqA s (ev E ts x) (ev E ts y)).map fun b => .val (.bool (b != true))
      | _ => none
    | none => match strB P t with
      | some l => match op with
        | .eql => eqSA l false (ev E ts x) (ev E ts y)
        | .neq => eqSA l true (ev E ts x) (ev E ts y)
        | _ => none
      | none => binA op (ev E ts x) (ev E ts y)
  | .unOp op _ x => unA op (ev E ts x)
  | .convert s t x => match P.underlying s, P.underlying t with
    | some _, some d => convA d (ev E ts x)
    | _, _ => none
  | .makeInterface t x => match P.underlying t with
    | some (.interface _) => none
    | some _ => if E.ty (E.tk t) = t then some (.ifc (E.tk t) (ev E ts x)) else none
    | none => none
  | .makeFunc f fs cs => match f with
    | .func f => if E.fn (E.fk f) = f then some (.fn (E.fk f) (fs.toList.map (ev E ts)) (cs.toList.map (ev E ts))) else none
    | _ => none
  | .slice t x lo hi m => match m with
    | some _ => none
    | none => match P.underlying t with
      | some .string => sliceS (ev E ts x) (lo.map (ev E ts)) (hi.map (ev E ts))
      | some (.slice _) => match elemB P t with
        | some (_, n, _) => sliceA n (ev E ts x) (lo.map (ev E ts)) (hi.map (ev E ts)) H
        | none => none
      | _ => none
  | .fieldAddr t x f => match fieldB P t f with
    | some (off, _, n) => if n = 0 then none else faddr off (ev E ts x)
    | none => none
  | .field t x f => match fieldB P t f with
    | some (off, a, n) => fieldA off n a (ev E ts x)
    | none => none
  | .indexAddr t x i => match P.underlying t with
    | some (.slice e) => match tyB P e with
      | some (_, n) => iaddr n (ev E ts x) (ev E ts i)
      | none => none
    | some (.array len e) => match tyB P e with
      | some (_, n) => iaddrArr n len (ev E ts x) (ev E ts i)
      | none => none
    | _ => none
  | .index t x i => match P.underlying t with
    | some .string => idxStr (ev E ts x) (ev E ts i)
    | some (.array len e) => match tyB P e with
      | some (a, n) => idxArr n len a (ev E ts x) (ev E ts i)
      | none => none
    | _ => none
  | .extract t i => extractA (ev E ts t) i
  | .call c => match c.callee with
    | .builtin .len => match (c.argTypes[0]?).bind P.underlying, c.args.toList with
      | some .string, [x] => lenS (ev E ts x)
      | some (.slice _), [x] => lenA (ev E ts x)
      | _, _ => none
    | _ => none
  | _ => none

theorem get_iff {r : Option AV} {H : AH} {K : Kt} : wGet r H K ↔ ∃ x, r = some x ∧ K x H := ⟨fun h => h.ok, fun h => ⟨h⟩⟩
theorem agg_iff {r : Option (List AV)} {H : AH} {K : Kt} : wAgg r H K ↔ ∃ x, r.map .agg = some x ∧ K x H :=
  ⟨fun ⟨l, h, k⟩ => ⟨.agg l, by simp [h], k⟩, fun ⟨x, h, k⟩ => by
    obtain ⟨l, h1, rfl⟩ := Option.map_eq_some_iff.1 h
    exact ⟨l, h1, k⟩⟩
theorem bool_iff {r : Option Bool} {H : AH} {neg : Bool} {K : Kt} : wBool r H neg K ↔ ∃ x, (r.map fun b => AV.val (.bool (b != neg))) = some x ∧ K x H :=
  ⟨fun ⟨l, h, k⟩ => ⟨_, by simp [h], k⟩, fun ⟨x, h, k⟩ => by
    obtain ⟨l, h1, rfl⟩ := Option.map_eq_some_iff.1 h
    exact ⟨l, h1, k⟩⟩
theorem some_iff' {x : AV} {K : Kt} {H : AH} : K x H ↔ ∃ y, some x = some y ∧ K y H := ⟨fun h => ⟨x, rfl, h⟩, fun ⟨y, e, h⟩ => by injection e with e; rw [e]; exact h⟩
theorem none_iff' {K : Kt} {H : AH} : False ↔ ∃ y, (none : Option AV) = some y ∧ K y H := ⟨fun h => h.elim, fun ⟨y, e, _⟩ => by cases e⟩

theorem opW_rd {o : Oper} {ts : List AV} {H : AH} {K : Kt} (hl : lookOp o.op = true) : opW E P o ts H K ↔ ∃ x, rdA E P o ts H = some x ∧ K x H := by
  cases ho : o.op with
  | move x => simp only [opW, rdA, ho]; exact some_iff'
  | pick x y z => simp only [opW, rdA, ho]; exact get_iff
  | build t ps =>
    simp only [opW, rdA, ho]
    generalize partsB E P ts t ps.toList = z
    generalize zeroB P t = z'
    cases z <;> cases z' <;> first | exact agg_iff | exact none_iff'
  | load t x =>
    simp only [opW, rdA, ho]
    generalize tyB P t = z
    rcases z with _ | ⟨_ | _, n⟩ <;> first | exact get_iff | exact none_iff'
  | nilCheck x => simp only [opW, rdA, ho]; exact get_iff
  | binOp op t x y t' =>
    simp only [opW, rdA, ho]
    generalize shpB P t = z
    rcases z with _ | s
    · generalize strB P t = z'
      rcases z' with _ | l
      · exact get_iff
      · cases op <;> simp only <;> first | exact get_iff | exact none_iff'
    · cases op <;> simp only <;> first
        | exact none_iff'
        | (by_cases hc : s = .iface ∧ (!(isConstO x || isConstO y)) = true
           · rw [if_pos hc, if_pos hc]; exact none_iff'
           · rw [if_neg hc, if_neg hc]; exact bool_iff)
  | unOp op t x => simp only [opW, rdA, ho]; exact get_iff
  | convert s t x =>
    simp only [opW, rdA, ho]
    generalize P.underlying s = z
    generalize P.underlying t = z'
    cases z <;> cases z' <;> first | exact get_iff | exact none_iff'
  | makeInterface t x =>
    simp only [opW, rdA, ho]
    generalize P.underlying t = z
    rcases z with _ | d
    · exact none_iff'
    · cases d <;> simp only <;> first
        | exact none_iff'
        | (by_cases hc : E.ty (E.tk t) = t
           · rw [if_pos hc, if_pos hc]; exact some_iff'
           · rw [if_neg hc, if_neg hc]; exact none_iff')
  | makeFunc f fs cs =>
    simp only [opW, rdA, ho]
    cases f <;> simp only <;> first
      | exact none_iff'
      | (rename_i f
         by_cases hc : E.fn (E.fk f) = f
         · rw [if_pos hc, if_pos hc]; exact some_iff'
         · rw [if_neg hc, if_neg hc]; exact none_iff')
  | slice t x lo hi m =>
    simp only [opW, rdA, ho]
    cases m with
    | some m => exact none_iff'
    | none =>
      simp only
      generalize P.underlying t = z
      generalize elemB P t = z'
      rcases z with _ | d
      · exact none_iff'
      · cases d <;> simp only <;> first
          | exact none_iff'
          | exact get_iff
          | (cases z' <;> first | exact get_iff | exact none_iff')
  | fieldAddr t x f =>
    simp only [opW, rdA, ho]
    generalize fieldB P t f = z
    rcases z with _ | ⟨off, b, n⟩
    · exact none_iff'
    · simp only
      by_cases hc : n = 0
      · rw [if_pos hc, if_pos hc]; exact none_iff'
      · rw [if_neg hc, if_neg hc]; exact get_iff
  | field t x f =>
    simp only [opW, rdA, ho]
    generalize fieldB P t f = z
    rcases z with _ | ⟨off, b, n⟩ <;> first | exact get_iff | exact none_iff'
  | indexAddr t x i =>
    simp only [opW, rdA, ho]
    generalize P.underlying t = z
    rcases z with _ | d
    · exact none_iff'
    · cases d <;> simp only <;> first
        | exact none_iff'
        | (generalize tyB P _ = z'
           rcases z' with _ | ⟨b, n⟩ <;> first | exact get_iff | exact none_iff')
  | index t x i =>
    simp only [opW, rdA, ho]
    generalize P.underlying t = z
    rcases z with _ | d
    · exact none_iff'
    · cases d <;> simp only <;> first
        | exact none_iff'
        | exact get_iff
        | (generalize tyB P _ = z'
           rcases z' with _ | ⟨b, n⟩ <;> first | exact get_iff | exact none_iff')
  | extract x i => simp only [opW, rdA, ho]; exact get_iff
  | call cl =>
    cases hc : cl.callee with
    | builtin b =>
      cases b with
      | len =>
        simp only [opW, rdA, ho, hc]
        generalize (cl.argTypes[0]?).bind P.underlying = z
        generalize cl.args.toList = l
        rcases z with _ | d
        · exact none_iff'
        · rcases l with _ | ⟨x, _ | ⟨y, l⟩⟩ <;> cases d <;> first | exact get_iff | exact none_iff'
      | _ => simp [ho, hc, lookOp, readOp] at hl
    | _ => simp [ho, hc, lookOp, readOp] at hl
  | _ => simp [ho, lookOp, readOp] at hl

theorem rdA_free {o : Oper} {ts : List AV} {H H' : AH} (hl : lookOp o.op = true) (hh : heapOp o.op = false) : rdA E P o ts H = rdA E P o ts H' := by
  cases ho : o.op <;> simp_all [rdA, heapOp, lookOp]

theorem partsP_congr {ts ts' : List AV} {place : Nat → Option (Nat × Nat)} : ∀ (ps : List (Nat × Operand)), (∀ p ∈ ps, ev E ts p.2 = ev E ts' p.2) → partsP E ts place ps = partsP E ts' place ps
  | [], _ => rfl
  | (i, x) :: ps, h => by
    simp only [partsP, partsP_congr ps (fun p hp => h p (List.mem_cons_of_mem _ hp)), h (i, x) (List.mem_cons_self ..)]

theorem rdA_congr {o : Oper} {ts ts' : List AV} {H : AH} (h : ∀ x ∈ o.op.operands.toList, ev E ts x = ev E ts' x) : rdA E P o ts H = rdA E P o ts' H := by
  cases ho : o.op with
  | build t ps =>
    simp only [ho, Op.operands] at h
    have : partsB E P ts t ps.toList = partsB E P ts' t ps.toList := by
      unfold partsB
      have hp : ∀ p ∈ ps.toList, ev E ts p.2 = ev E ts' p.2 := fun p hp => h p.2 (by simpa using ⟨p.1, by simpa using hp⟩)
      simp only [partsP_congr _ hp]
    simp only [rdA, ho, this]
  | makeFunc f fs cs =>
    simp only [ho, Op.operands] at h
    have h1 : fs.toList.map (ev E ts) = fs.toList.map (ev E ts') := List.map_congr_left fun x hx => h x (by simp at hx ⊢; exact .inl hx)
    have h2 : cs.toList.map (ev E ts) = cs.toList.map (ev E ts') := List.map_congr_left fun x hx => h x (by simp at hx ⊢; exact .inr hx)
    simp only [rdA, ho, h1, h2]
  | slice t x lo hi m =>
    simp only [ho, Op.operands] at h
    have h0 := h x (by simp)
    have h1 : lo.map (ev E ts) = lo.map (ev E ts') := by cases lo <;> simp; exact h _ (by simp)
    have h2 : hi.map (ev E ts) = hi.map (ev E ts') := by cases hi <;> simp; exact h _ (by simp)
    simp only [rdA, ho, h0, h1, h2]
  | call cl =>
    simp only [ho, Op.operands, Call.operands] at h
    have h1 : ∀ x ∈ cl.args.toList, ev E ts x = ev E ts' x := fun x hx => h x (by simp at hx ⊢; exact .inr hx)
    simp only [rdA, ho]
    split
    · split
      · rename_i x _ e; rw [h1 x (by rw [e]; simp)]
      · rename_i x _ e; rw [h1 x (by rw [e]; simp)]
      · rfl
    · rfl
  | _ => simp only [ho, Op.operands] at h; simp_all [rdA]

/-- what is looked at, as abstract values -/
theorem looks_ev {ops : Array Oper} {o : Oper} {ts ts' : List AV} (h : ∀ t ∈ o.looksAt ops, ts.getD t undefA = ts'.getD t undefA) : ∀ x ∈ o.op.operands.toList, ev E ts x = ev E ts' x := by
  intro x hx
  cases x with
  | tmp t =>
    refine h t ?_
    unfold Oper.looksAt
    refine List.mem_append.2 (.inl ?_)
    rw [List.mem_filterMap]
    exact ⟨.tmp t, hx, rfl⟩
  | _ => rfl

theorem guard_looks {ops : Array Oper} {o : Oper} {j : Nat} {want : Bool} {d : Tmp} (hg : o.guard = some (j, want)) (hd : (ops[j]?).bind (·.dst) = some d) : d ∈ o.looksAt ops := by
  unfold Oper.looksAt
  refine List.mem_append.2 (.inr ?_)
  simp [hg, hd]

/-- a look at 'H', told as 'x' -/
def Told (E : Env) (P : Program) (ops : Array Oper) (o : Oper) (ts : List AV) (H : AH) (x : AV) : Prop := opG E P ops o ts H fun y H' => y = x ∧ H' = H

theorem told_of {ops : Array Oper} {o : Oper} {ts : List AV} {H : AH} {K : Kt} (hl : lookOp o.op = true) (h : opG E P ops o ts H K) : ∃ x, K x H ∧ Told E P ops o ts H x := by
  unfold Told opG at *
  cases hg : o.guard with
  | none =>
    simp only [hg] at h ⊢
    obtain ⟨x, hx, hk⟩ := (opW_rd hl).1 h
    exact ⟨x, hk, (opW_rd hl).2 ⟨x, hx, rfl, rfl⟩⟩
  | some p =>
    obtain ⟨j, want⟩ := p
    simp only [hg] at h ⊢
    cases hd : (ops[j]?).bind (·.dst) with
    | none => simp only [hd] at h
    | some d =>
      simp only [hd] at h ⊢
      obtain ⟨h⟩ := h
      rcases h with ⟨b, hb, hy, hn⟩ | ⟨hu, hk⟩
      · by_cases hw : b = want
        · obtain ⟨x, hx, hk⟩ := (opW_rd hl).1 (hy hw)
          exact ⟨x, hk, ⟨.inl ⟨b, hb, fun _ => (opW_rd hl).2 ⟨x, hx, rfl, rfl⟩, fun hne => absurd hw hne⟩⟩⟩
        · exact ⟨undefA, hn hw, ⟨.inl ⟨b, hb, fun he => absurd he hw, fun _ => ⟨rfl, rfl⟩⟩⟩⟩
      · exact ⟨undefA, hk, ⟨.inr ⟨hu, rfl, rfl⟩⟩⟩

theorem Told.congr {ops : Array Oper} {o : Oper} {ts ts' : List AV} {H : AH} {x : AV} (hl : lookOp o.op = true) (hs : ∀ t ∈ o.looksAt ops, ts.getD t undefA = ts'.getD t undefA) (h : Told E P ops o ts H x) : Told E P ops o ts' H x := by
  unfold Told opG at *
  have hr := rdA_congr (E := E) (P := P) (o := o) (H := H) (looks_ev (E := E) hs)
  cases hg : o.guard with
  | none =>
    simp only [hg] at h ⊢
    obtain ⟨y, hy, hk⟩ := (opW_rd hl).1 h
    exact (opW_rd hl).2 ⟨y, by rw [← hr]; exact hy, hk⟩
  | some p =>
    obtain ⟨j, want⟩ := p
    simp only [hg] at h ⊢
    cases hd : (ops[j]?).bind (·.dst) with
    | none => simp only [hd] at h
    | some d =>
      simp only [hd] at h ⊢
      rw [← hs d (guard_looks hg hd)]
      obtain ⟨h⟩ := h
      refine ⟨h.imp ?_ id⟩
      rintro ⟨b, hb, hy, hn⟩
      refine ⟨b, hb, fun hw => ?_, hn⟩
      obtain ⟨y, hy, hk⟩ := (opW_rd hl).1 (hy hw)
      exact (opW_rd hl).2 ⟨y, by rw [← hr]; exact hy, hk⟩

theorem Told.free {ops : Array Oper} {o : Oper} {ts : List AV} {H H2 : AH} {x : AV} (hl : lookOp o.op = true) (hh : heapOp o.op = false) (h : Told E P ops o ts H x) : Told E P ops o ts H2 x := by
  unfold Told opG at *
  have hr := rdA_free (E := E) (P := P) (o := o) (ts := ts) (H := H) (H' := H2) hl hh
  cases hg : o.guard with
  | none =>
    simp only [hg] at h ⊢
    obtain ⟨y, hy, hk⟩ := (opW_rd hl).1 h
    exact (opW_rd hl).2 ⟨y, by rw [← hr]; exact hy, hk.1, rfl⟩
  | some p =>
    obtain ⟨j, want⟩ := p
    simp only [hg] at h ⊢
    cases hd : (ops[j]?).bind (·.dst) with
    | none => simp only [hd] at h
    | some d =>
      simp only [hd] at h ⊢
      obtain ⟨h⟩ := h
      refine ⟨h.imp ?_ (fun h => ⟨h.1, h.2.1, rfl⟩)⟩
      rintro ⟨b, hb, hy, hn⟩
      refine ⟨b, hb, fun hw => ?_, fun hw => ⟨(hn hw).1, rfl⟩⟩
      obtain ⟨y, hy, hk⟩ := (opW_rd hl).1 (hy hw)
      exact (opW_rd hl).2 ⟨y, by rw [← hr]; exact hy, hk.1, rfl⟩

/-- an operation under its guard: what it comes to -/
theorem opG_run {ops : Array Oper} {c : Cx} {o : Oper} {a : Act} {ts : List AV} {H : AH} {K : Kt} (h : opG E P ops o ts H K) (hH : HRel E c H) (hr : LRel E c ts a.tmps.toList) :
    (Region.wanted o (yielded ops a.tmps) = true → UponN P (OpPost E c H o K) ((execOp a.eval o).run P c.w)) ∧
    (Region.wanted o (yielded ops a.tmps) = false → OpPost E c H o K undef c.w) ∧ (Region.wanted o (yielded ops a.tmps) = true → ∀ c, o.op ≠ .defer c) := by
  unfold opG at h
  cases hg : o.guard with
  | none =>
    simp only [hg] at h
    exact ⟨fun _ => op_run h hH hr, fun hw => by simp [Region.wanted, hg] at hw, fun _ => op_no_defer h⟩
  | some p =>
    obtain ⟨j, want⟩ := p
    simp only [hg] at h
    cases hd : (ops[j]?).bind (·.dst) with
    | none => simp only [hd] at h
    | some d =>
      simp only [hd] at h
      have hval : VRel E c (ts.getD d undefA) (a.tmps.getD d undef) := by simpa [ev, Act.eval] using ev_rel hH hr (.tmp d)
      have hskip : K undefA H → OpPost E c H o K undef c.w := fun hk => ⟨undefA, c, H, rfl, hk, hH, by simp [undefA, undef, VRel], Later.refl c, .inl ⟨rfl, rfl⟩⟩
      obtain ⟨h⟩ := h
      rcases h with ⟨b, hb, hyes, hno⟩ | ⟨hu, hk⟩
      · rw [hb] at hval
        simp only [VRel] at hval
        have hy : yielded ops a.tmps j = some b := by
          rw [yielded_is hd]
          cases htd : a.tmps[d]? with
          | none => simp [Array.getD_eq_getD_getElem?, htd, undef] at hval
          | some u => simp [Array.getD_eq_getD_getElem?, htd] at hval; simp [hval]
        by_cases hbw : b = want
        · exact ⟨fun _ => op_run (hyes hbw) hH hr, fun hw => by simp [Region.wanted, hg, hy, hbw] at hw, fun _ => op_no_defer (hyes hbw)⟩
        · exact ⟨fun hw => by simp [Region.wanted, hg, hy, hbw] at hw, fun _ => hskip (hno hbw), fun hw => by simp [Region.wanted, hg, hy, hbw] at hw⟩
      · rw [hu] at hval
        simp only [undefA, VRel] at hval
        have hy : yielded ops a.tmps j = none := by
          rw [yielded_is hd]
          cases htd : a.tmps[d]? with
          | none => rfl
          | some u => simp [Array.getD_eq_getD_getElem?, htd] at hval; simp [hval]
        exact ⟨fun hw => by simp [Region.wanted, hg, hy] at hw, fun _ => hskip hk, fun hw => by simp [Region.wanted, hg, hy] at hw⟩

/-- two frames that are alike in what is looked at -/
theorem run_alike {ops : Array Oper} {o : Oper} {a a' : Act} (hsel : ∀ cs b, o.op ≠ .select cs b) (hs : ∀ t ∈ o.looksAt ops, a.tmps[t]? = a'.tmps[t]?) :
    execOp a.eval o = execOp a'.eval o ∧ Region.wanted o (yielded ops a.tmps) = Region.wanted o (yielded ops a'.tmps) := by
  refine ⟨execOp_congr o hsel fun x hx => ?_, ?_⟩
  · cases x with
    | tmp t =>
      have : t ∈ o.looksAt ops := by
        unfold Oper.looksAt
        refine List.mem_append.2 (.inl ?_)
        rw [List.mem_filterMap]
        exact ⟨.tmp t, by simpa using hx, rfl⟩
      simp only [Act.eval, Array.getD_eq_getD_getElem?, hs t this]
    | _ => rfl
  · unfold Region.wanted
    cases hg : o.guard with
    | none => rfl
    | some p =>
      obtain ⟨j, want⟩ := p
      simp only
      cases hd : (ops[j]?).bind (·.dst) with
      | none => simp [yielded, hd]
      | some d =>
        rw [yielded_is hd, yielded_is hd, hs d (guard_looks hg hd)]
end
end Go.Sc
namespace Go.Sc
open Go
set_option linter.unusedVariables false
section
variable {E : Env} {P : Program} {ops : Array Oper}
def Closed (ops : Array Oper) (b : Array Bool) : Prop := ∀ (i : Nat) (o : Oper), ops[i]? = some o → b.getD i false = true → ∀ e ∈ o.after, Region.binds .any e = true → b.getD e.on false = true

theorem mem_ready {b : Array Bool} {i : Nat} : i ∈ Region.ready .any ops b ↔ ∃ o, ops[i]? = some o ∧ b.getD i true = false ∧ ∀ e ∈ o.after, Region.binds .any e = true → b.getD e.on false = true := by
  unfold Region.ready
  simp only [List.mem_filter, List.mem_range, Bool.and_eq_true, Bool.not_eq_true']
  constructor
  · rintro ⟨hi, hb, ha⟩
    refine ⟨ops[i], by simp [hi], hb, fun e he hbd => ?_⟩
    simp [hi] at ha
    obtain ⟨k, hk, rfl⟩ := Array.mem_iff_getElem.1 he
    have := ha k hk
    simpa [hbd] using this
  · rintro ⟨o, ho, hb, ha⟩
    have hi := (Array.getElem?_eq_some_iff.1 ho).1
    refine ⟨hi, hb, ?_⟩
    have hoi : ops[i] = o := (Array.getElem?_eq_some_iff.1 ho).2
    simp [hi, hoi]
    intro k hk
    have := ha o.after[k] (Array.getElem_mem hk)
    cases hbd : Region.binds .any o.after[k] with
    | false => simp
    | true => simpa [Array.getD_eq_getD_getElem?] using this hbd

theorem waits_iff {y : Oper} {i : Nat} : waits y i = true ↔ ∃ e ∈ y.after, Region.binds .any e = true ∧ e.on = i := by
  unfold waits
  rw [Array.any_eq_true']
  constructor
  · rintro ⟨e, he, h⟩; simp at h; exact ⟨e, he, h.1, h.2⟩
  · rintro ⟨e, he, h1, h2⟩; exact ⟨e, he, by simp [h1, h2]⟩

structure Pairs (ops : Array Oper) : Prop where
  low : ∀ (i : Nat) (x : Oper), ops[i]? = some x → ∀ e ∈ x.after, Region.binds .any e = true → e.on < i
  look : ∀ (i : Nat) (x : Oper), ops[i]? = some x → lookOp x.op = true → ∃ d, x.dst = some d ∧ d ∉ x.looksAt ops ∧ ∀ (j : Nat) (y : Oper), j ≠ i → ops[j]? = some y → y.dst ≠ some d ∧ (d ∈ y.looksAt ops → waits y i = true)
  other : ∀ (i : Nat) (x : Oper), ops[i]? = some x → lookOp x.op = false → ∀ d, x.dst = some d → ∀ (j : Nat) (y : Oper), j ≠ i → ops[j]? = some y → lookOp y.op = true → d ∈ y.looksAt ops → waits y i = true ∨ waits x j = true

theorem pairs_of (h : pairsOk ops = true) : Pairs ops := by
  have key : ∀ (i : Nat) (x : Oper), ops[i]? = some x → (x.after.all fun e => !Region.binds .any e || decide (e.on < i)) = true ∧
      (if lookOp x.op then (match x.dst with
          | none => false
          | some d => !(x.looksAt ops).contains d && (List.range ops.size).all fun j => i == j || match ops[j]? with
            | none => true
            | some y => y.dst != some d && (!(y.looksAt ops).contains d || waits y i))
        else (match x.dst with
          | none => true
          | some d => (List.range ops.size).all fun j => i == j || match ops[j]? with
            | none => true
            | some y => !lookOp y.op || !(y.looksAt ops).contains d || waits y i || waits x j)) = true := by
    intro i x hx
    have hi := (Array.getElem?_eq_some_iff.1 hx).1
    have := List.all_eq_true.1 h i (List.mem_range.2 hi)
    simp only [hx, Bool.and_eq_true] at this
    exact this
  refine ⟨?_, ?_, ?_⟩
  · intro i x hx e he hb
    have := Array.all_eq_true_iff_forall_mem.1 (key i x hx).1 e he
    simpa [hb] using this
  · intro i x hx hl
    have h2 := (key i x hx).2
    rw [if_pos hl] at h2
    cases hd : x.dst with
    | none => simp [hd] at h2
    | some d =>
      simp only [hd, Bool.and_eq_true] at h2
      refine ⟨d, rfl, by simpa using h2.1, fun j y hne hy => ?_⟩
      have hj := (Array.getElem?_eq_some_iff.1 hy).1
      have := List.all_eq_true.1 h2.2 j (List.mem_range.2 hj)
      simp only [hy, Bool.or_eq_true, beq_iff_eq, Bool.and_eq_true] at this
      rcases this with h3 | ⟨h3, h4⟩
      · exact absurd h3.symm hne
      · refine ⟨by simpa using h3, fun hmem => ?_⟩
        rcases h4 with h4 | h4
        · simp [hmem] at h4
        · exact h4
  · intro i x hx hl d hd j y hne hy hly hmem
    have h2 := (key i x hx).2
    rw [if_neg (by simp [hl])] at h2
    simp only [hd] at h2
    have hj := (Array.getElem?_eq_some_iff.1 hy).1
    have := List.all_eq_true.1 h2 j (List.mem_range.2 hj)
    simp only [hy, Bool.or_eq_true, beq_iff_eq] at this
    rcases this with h3 | ((h3 | h3) | h3) | h3
    · exact absurd h3.symm hne
    · simp [hly] at h3
    · simp [hmem] at h3
    · exact .inl h3
    · exact .inr h3

theorem anc_closed {b : Array Bool} (hc : Closed ops b) : ∀ (f i : Nat) (o : Oper), ops[i]? = some o → (∀ e ∈ o.after, Region.binds .any e = true → b.getD e.on false = true) → ∀ j ∈ anc ops f i, b.getD j false = true
  | 0, i, o, _, _, j, hj => by simp [anc] at hj
  | f + 1, i, o, ho, hr, j, hj => by
    simp only [anc, ho, List.mem_flatMap, List.mem_filter, List.mem_cons] at hj
    obtain ⟨e, ⟨he, hb⟩, hj⟩ := hj
    have hon := hr e (by simpa using he) hb
    rcases hj with rfl | hj
    · exact hon
    · cases hx : ops[e.on]? with
      | none =>
        cases f with
        | zero => simp [anc] at hj
        | succ f => simp [anc, hx] at hj
      | some y => exact anc_closed hc f e.on y hx (hc e.on y hx hon) j hj

theorem getD_setB {b : Array Bool} {i j : Nat} {d : Bool} (hi : i < b.size) : (b.setIfInBounds i true).getD j d = if j = i then true else b.getD j d := by
  simp only [Array.getD_eq_getD_getElem?, Array.getElem?_setIfInBounds]
  by_cases h : i = j
  · subst h; simp [hi]
  · simp [h, Ne.symm h]

theorem Closed.set {b : Array Bool} (h : Closed ops b) {i : Nat} (hs : b.size = ops.size) (hr : i ∈ Region.ready .any ops b) : Closed ops (b.setIfInBounds i true) := by
  obtain ⟨o, ho, hb, ha⟩ := mem_ready.1 hr
  have hi : i < b.size := by rw [hs]; exact (Array.getElem?_eq_some_iff.1 ho).1
  intro j y hy hj e he hbd
  rw [getD_setB hi]
  split
  · rfl
  · rw [getD_setB hi] at hj
    split at hj
    · rename_i e1; subst e1
      rw [ho] at hy; injection hy with hy; subst hy
      exact ha e he hbd
    · exact h j y hy hj e he hbd

def cntF : List Bool → Nat
  | [] => 0
  | true :: l => cntF l
  | false :: l => cntF l + 1
theorem cntF_set : ∀ (l : List Bool) (i : Nat), l[i]? = some false → cntF (l.set i true) + 1 = cntF l
  | [], i, h => by simp at h
  | b :: l, 0, h => by simp at h; subst h; simp [cntF]
  | b :: l, i + 1, h => by
    have := cntF_set l i (by simpa using h)
    cases b <;> simp [cntF] <;> omega
theorem cntF_zero : ∀ (l : List Bool), cntF l = 0 → ∀ (i : Nat) (b : Bool), l[i]? = some b → b = true
  | [], _, i, b, h => by simp at h
  | false :: l, h, _, _, _ => by simp [cntF] at h
  | true :: l, h, 0, b, hb => by simpa using hb.symm
  | true :: l, h, i + 1, b, hb => cntF_zero l h i b (by simpa using hb)
theorem cntF_replicate : ∀ n, cntF (List.replicate n false) = n
  | 0 => rfl
  | n + 1 => by simp [List.replicate_succ, cntF, cntF_replicate n]

theorem set_same {c : Cx} {ts : List AV} {vs : List Value} (h : LRel E c ts vs) {d : Nat} {v : Value} (hv : VRel E c (ts.getD d undefA) v) : LRel E c ts (vs.set d v) := by
  by_cases hd : d < ts.length
  · have := h.set d (x := ts.getD d undefA) hv
    have e : ts.set d (ts.getD d undefA) = ts := by
      simp only [List.getD, List.getElem?_eq_getElem hd, Option.getD_some]
      exact List.set_getElem_self hd
    rwa [e] at this
  · rw [List.set_eq_of_length_le (by rw [← h.length]; omega)]; exact h

structure DInv (d0 : List Deferred) (E : Env) (P : Program) (ops : Array Oper) (c0 : Cx) (ts0 : List AV) (listed done : Array Bool) (ts : List AV) (H : AH) (c : Cx) (a ac : Act) : Prop where
  szl : listed.size = ops.size
  szd : done.size = ops.size
  sub : ∀ i, listed.getD i false = true → done.getD i false = true
  cll : Closed ops listed
  cld : Closed ops done
  heap : HRel E c H
  tmps : LRel E c ts ac.tmps.toList
  da : a.defers = d0
  asz : a.tmps.size = ac.tmps.size
  same : ∀ t, (∀ (i : Nat) (o : Oper), ops[i]? = some o → done.getD i false = true → listed.getD i false = false → o.dst ≠ some t) → a.tmps[t]? = ac.tmps[t]?
  pend : ∀ (i : Nat) (o : Oper), ops[i]? = some o → done.getD i false = true → listed.getD i false = false → lookOp o.op = true ∧ ∃ d, o.dst = some d ∧ Told E P ops o ts H (ts.getD d undefA)
  later : Later c0 c
  agree : Agree (opWrites ops) ts0 ts

section
variable {d0 : List Deferred} {c0 : Cx} {ts0 : List AV} {listed done : Array Bool} {ts : List AV} {H : AH} {c : Cx} {a ac : Act}
theorem getD_ft {b : Array Bool} {i : Nat} (hi : i < b.size) (d d' : Bool) : b.getD i d = b.getD i d' := by
  simp [Array.getD_eq_getD_getElem?, hi]

/-- what a ready operation looks at is as it should be -/
theorem DInv.alike (I : DInv d0 E P ops c0 ts0 listed done ts H c a ac) (hp : Pairs ops) {i : Nat} {o : Oper} (ho : ops[i]? = some o) (hr : i ∈ Region.ready .any ops listed) : ∀ t ∈ o.looksAt ops, a.tmps[t]? = ac.tmps[t]? := by
  intro t ht
  refine I.same t fun j y hy hdj hlj hdst => ?_
  obtain ⟨hlk, _⟩ := I.pend j y hy hdj hlj
  obtain ⟨d, hd, hself, hother⟩ := hp.look j y hy hlk
  rw [hd] at hdst; injection hdst with hdst; subst hdst
  by_cases hij : i = j
  · subst hij
    rw [ho] at hy; injection hy with hy; subst hy
    exact hself ht
  · obtain ⟨_, hw⟩ := hother i o hij ho
    obtain ⟨e, he, hb, rfl⟩ := waits_iff.1 (hw ht)
    obtain ⟨o', ho', _, ha⟩ := mem_ready.1 hr
    rw [ho] at ho'; injection ho' with ho'; subst ho'
    rw [ha e he hb] at hlj; cases hlj

theorem actPut_get {a : Act} {d t : Nat} {v : Value} (h : t ≠ d) : (a.put (some d) v).tmps[t]? = a.tmps[t]? := by
  simp [Act.put, Ne.symm h]

/-- the schedule comes to what has been done ahead -/
theorem DInv.list (I : DInv d0 E P ops c0 ts0 listed done ts H c a ac) (hp : Pairs ops) {i : Nat} {o : Oper} (ho : ops[i]? = some o) (hr : i ∈ Region.ready .any ops listed) (hdone : done.getD i false = true) {d : Nat} (hd : o.dst = some d) {v : Value}
    (hv : VRel E c (ts.getD d undefA) v) : DInv d0 E P ops c0 ts0 (listed.setIfInBounds i true) done ts H c (a.put o.dst v) (ac.put o.dst v) := by
  have hi : i < listed.size := by rw [I.szl]; exact (Array.getElem?_eq_some_iff.1 ho).1
  rw [hd]
  refine ⟨by simp [I.szl], I.szd, ?_, I.cll.set I.szl hr, I.cld, I.heap, ?_, put_defers.trans I.da, by simp [Act.put, I.asz], ?_, ?_, I.later, I.agree⟩
  · intro j hj
    rw [getD_setB hi] at hj
    split at hj
    · rename_i e; subst e; exact hdone
    · exact I.sub j hj
  · simpa [Act.put] using set_same I.tmps hv
  · intro t ht
    by_cases htd : t = d
    · subst htd
      simp [Act.put, Array.getElem?_setIfInBounds, I.asz]
    · rw [actPut_get htd, actPut_get htd]
      refine I.same t fun j y hy h1 h2 => ?_
      by_cases hij : j = i
      · subst hij
        rw [ho] at hy; injection hy with hy; subst hy
        rw [hd]; simpa using Ne.symm htd
      · exact ht j y hy h1 (by rw [getD_setB hi, if_neg hij]; exact h2)
  · intro j y hy h1 h2
    rw [getD_setB hi] at h2
    split at h2
    · cases h2
    · exact I.pend j y hy h1 h2

/-- one that only looks is done ahead -/
theorem DInv.ahead (I : DInv d0 E P ops c0 ts0 listed done ts H c a ac) (hp : Pairs ops) (hlen : ∀ (i : Nat) (o : Oper) d, ops[i]? = some o → o.dst = some d → d < ts0.length) {i : Nat} {o : Oper} (ho : ops[i]? = some o) (hr : i ∈ Region.ready .any ops done)
    (hl : lookOp o.op = true) {x : AV} (hx : Told E P ops o ts H x) : ∃ ac', DInv d0 E P ops c0 ts0 listed (done.setIfInBounds i true) (putT ts o.dst x) H c a ac' := by
  obtain ⟨d, hd, hself, hother⟩ := hp.look i o ho hl
  have hi : i < done.size := by rw [I.szd]; exact (Array.getElem?_eq_some_iff.1 ho).1
  obtain ⟨o', ho', hnd, hready⟩ := mem_ready.1 hr
  rw [ho] at ho'; injection ho' with ho'; subst ho'
  have hnd' : done.getD i false = false := by rw [getD_ft hi false true]; exact hnd
  have hval : ∃ u, VRel E c x u := by
    unfold Told opG at hx
    have hone : ∀ {K : Kt}, (∀ y H', K y H' → y = x) → opW E P o ts H K → ∃ u, VRel E c x u := by
      intro K hK h
      obtain ⟨v, c', H', y, _, hk, _, h2, _, h4⟩ := does_all (by cases hop : o.op <;> simp_all [plainOp, lookOp, readOp]; rename_i cl; cases hc : cl.callee <;> simp_all) h I.heap I.tmps
      rcases h4 with ⟨rfl, rfl⟩ | h4
      · exact ⟨v, hK y _ hk ▸ h2⟩
      · cases hop : o.op <;> simp_all [lookOp]
    cases hg : o.guard with
    | none => simp only [hg] at hx; exact hone (fun y H' h => h.1) hx
    | some p =>
      obtain ⟨j, want⟩ := p
      simp only [hg] at hx
      split at hx
      · obtain ⟨hx⟩ := hx
        rcases hx with ⟨b, _, hy, hn⟩ | ⟨_, hk⟩
        · by_cases hw : b = want
          · exact hone (fun y H' h => h.1) (hy hw)
          · exact ⟨undef, by rw [← (hn hw).1]; simp [undefA, undef, VRel]⟩
        · exact ⟨undef, by rw [← hk.1]; simp [undefA, undef, VRel]⟩
      · exact hx.elim
  obtain ⟨u, hu⟩ := hval
  have hdl : d < ts.length := by rw [I.agree.1]; exact hlen i o d ho hd
  rw [hd]
  refine ⟨ac.put (some d) u, I.szl, by simp [I.szd], ?_, I.cll, I.cld.set I.szd hr, I.heap, put_rel I.tmps hu (some d), I.da, by simp [Act.put, I.asz], ?_, ?_, I.later, ?_⟩
  · intro j hj
    rw [getD_setB hi]
    split
    · rfl
    · exact I.sub j hj
  · intro t ht
    have hnl : listed.getD i false = false := by
      cases hli : listed.getD i false with
      | false => rfl
      | true => rw [I.sub i hli] at hnd'; cases hnd'
    have htd : t ≠ d := by
      have := ht i o ho (by rw [getD_setB hi, if_pos rfl]) hnl
      rw [hd] at this
      intro e; exact this (by rw [e])
    rw [actPut_get htd]
    exact I.same t fun j y hy h1 h2 => ht j y hy (by rw [getD_setB hi]; split <;> first | rfl | exact h1) h2
  · intro j y hy h1 h2
    by_cases hij : j = i
    · subst hij
      rw [ho] at hy; injection hy with hy; subst hy
      refine ⟨hl, d, hd, ?_⟩
      have e : (putT ts (some d) x).getD d undefA = x := by simp [putT, List.getD, hdl]
      rw [e]
      refine hx.congr hl fun t ht => ?_
      have htd : d ≠ t := fun e => hself (e ▸ ht)
      simp [putT, List.getD, List.getElem?_set_ne htd]
    · rw [getD_setB hi, if_neg hij] at h1
      obtain ⟨k1, dj, k2, k3⟩ := I.pend j y hy h1 h2
      obtain ⟨h3, h4⟩ := hother j y hij hy
      have hdj : d ≠ dj := fun e => h3 (by rw [k2, e])
      refine ⟨k1, dj, k2, ?_⟩
      have e : (putT ts (some d) x).getD dj undefA = ts.getD dj undefA := by simp [putT, List.getD, List.getElem?_set_ne hdj]
      rw [e]
      refine k3.congr k1 fun t ht => ?_
      have htd : d ≠ t := by
        rintro rfl
        obtain ⟨e1, he1, hb1, h5⟩ := waits_iff.1 (h4 ht)
        have := I.cld j y hy h1 e1 he1 hb1
        rw [h5] at this
        rw [this] at hnd'; cases hnd'
      simp [putT, List.getD, List.getElem?_set_ne htd]
  · exact (I.agree.trans (Agree.put ts (some d) x)).mono fun t ht => by
      rcases List.mem_append.1 ht with ht | ht
      · exact ht
      · rw [← hd] at ht
        exact dst_writes (Array.mem_toList_iff.2 (Array.mem_of_getElem? ho)) t ht

/-- one that does more: in both -/
theorem DInv.both (I : DInv d0 E P ops c0 ts0 listed done ts H c a ac) (hp : Pairs ops) {i : Nat} {o : Oper} (ho : ops[i]? = some o) (hr : i ∈ Region.ready .any ops listed) (hr' : i ∈ Region.ready .any ops done)
    (hl : lookOp o.op = false) {x : AV} {v : Value} {c' : Cx} {H' : AH} (hH : HRel E c' H') (hv : VRel E c' x v) (hL : Later c c')
    (hag : ∀ j ∈ again ops done i, ∀ y d, ops[j]? = some y → y.dst = some d → Told E P ops y (putT ts o.dst x) H' ((putT ts o.dst x).getD d undefA)) :
    DInv d0 E P ops c0 ts0 (listed.setIfInBounds i true) (done.setIfInBounds i true) (putT ts o.dst x) H' c' (a.put o.dst v) (ac.put o.dst v) := by
  have hi : i < listed.size := by rw [I.szl]; exact (Array.getElem?_eq_some_iff.1 ho).1
  have hi' : i < done.size := by rw [I.szd]; exact (Array.getElem?_eq_some_iff.1 ho).1
  obtain ⟨o1, ho1, hnl, hreadyl⟩ := mem_ready.1 hr
  obtain ⟨o2, ho2, hnd, hreadyd⟩ := mem_ready.1 hr'
  rw [ho] at ho1; injection ho1 with ho1; subst ho1
  rw [ho] at ho2; injection ho2 with ho2; subst ho2
  have hnd' : done.getD i false = false := by rw [getD_ft hi' false true]; exact hnd
  refine ⟨by simp [I.szl], by simp [I.szd], ?_, I.cll.set I.szl hr, I.cld.set I.szd hr', hH, put_rel (I.tmps.le hL.le) hv _, put_defers.trans I.da, ?_, ?_, ?_, I.later.trans hL, ?_⟩
  · intro j hj
    rw [getD_setB hi] at hj
    rw [getD_setB hi']
    split
    · rfl
    · rename_i hne; rw [if_neg hne] at hj; exact I.sub j hj
  · cases hd : o.dst <;> simp [Act.put, I.asz]
  · intro t ht
    have old : a.tmps[t]? = ac.tmps[t]? ∨ o.dst = some t := by
      by_cases hdt : o.dst = some t
      · exact .inr hdt
      · refine .inl (I.same t fun j y hy h1 h2 => ?_)
        have hij : j ≠ i := by rintro rfl; rw [h1] at hnd'; cases hnd'
        exact ht j y hy (by rw [getD_setB hi', if_neg hij]; exact h1) (by rw [getD_setB hi, if_neg hij]; exact h2)
    cases hd : o.dst with
    | none => rcases old with h | h
              · exact h
              · rw [hd] at h; cases h
    | some d =>
      by_cases htd : t = d
      · subst htd; simp [Act.put, Array.getElem?_setIfInBounds, I.asz]
      · rw [actPut_get htd, actPut_get htd]
        rcases old with h | h
        · exact h
        · rw [hd] at h; injection h with h; exact absurd h.symm htd
  · intro j y hy h1 h2
    have hij : j ≠ i := by
      rintro rfl
      rw [getD_setB hi, if_pos rfl] at h2; cases h2
    rw [getD_setB hi', if_neg hij] at h1
    rw [getD_setB hi, if_neg hij] at h2
    obtain ⟨k1, dj, k2, k3⟩ := I.pend j y hy h1 h2
    refine ⟨k1, dj, k2, ?_⟩
    by_cases hh : heapOp y.op = true
    · refine hag j ?_ y dj hy k2
      unfold again
      simp only [List.mem_filter, List.mem_range, Bool.and_eq_true, Bool.not_eq_true']
      refine ⟨(Array.getElem?_eq_some_iff.1 hy).1, ⟨h1, by simp [hy, k1, hh]⟩, ?_⟩
      cases hanc : (anc ops ops.size i).contains j with
      | false => rfl
      | true =>
        have := anc_closed I.cll ops.size i o ho hreadyl j (by simpa using hanc)
        rw [this] at h2; cases h2
    · have hh' : heapOp y.op = false := by simpa using hh
      have hdd : ∀ d, o.dst = some d → d ≠ dj := by
        intro d hd e
        obtain ⟨d', hd', _, hoth⟩ := hp.look j y hy k1
        rw [k2] at hd'; injection hd' with hd'
        exact (hoth i o (Ne.symm hij) ho).1 (by rw [hd, e, hd'])
      have e : (putT ts o.dst x).getD dj undefA = ts.getD dj undefA := by
        cases hd : o.dst with
        | none => rfl
        | some d => simp [putT, List.getD, List.getElem?_set_ne (hdd d hd)]
      rw [e]
      refine (k3.free (H2 := H') k1 hh').congr k1 fun t ht => ?_
      cases hd : o.dst with
      | none => rfl
      | some d =>
        have htd : d ≠ t := by
          rintro rfl
          rcases hp.other i o ho hl d hd j y hij hy k1 ht with hw | hw
          · obtain ⟨e1, he1, hb1, h5⟩ := waits_iff.1 hw
            have := I.cld j y hy h1 e1 he1 hb1
            rw [h5, hnd'] at this; cases this
          · obtain ⟨e1, he1, hb1, h5⟩ := waits_iff.1 hw
            have := hreadyl e1 he1 hb1
            rw [h5, h2] at this; cases this
        simp [putT, List.getD, List.getElem?_set_ne htd]
  · exact (I.agree.trans (Agree.put ts o.dst x)).mono fun t ht => by
      rcases List.mem_append.1 ht with ht | ht
      · exact ht
      · exact dst_writes (Array.mem_toList_iff.2 (Array.mem_of_getElem? ho)) t ht

theorem firstRead_some : ∀ (l : List Nat) (i : Nat), firstRead ops l = some i → i ∈ l ∧ ∃ o, ops[i]? = some o ∧ lookOp o.op = true
  | [], i, h => by simp [firstRead] at h
  | j :: l, i, h => by
    unfold firstRead at h
    split at h
    · rename_i o ho
      split at h
      · rename_i hl; injection h with h; subst h; exact ⟨List.mem_cons_self .., o, ho, hl⟩
      · have := firstRead_some l i h; exact ⟨List.mem_cons_of_mem _ this.1, this.2⟩
    · have := firstRead_some l i h; exact ⟨List.mem_cons_of_mem _ this.1, this.2⟩
theorem firstRead_none : ∀ (l : List Nat), firstRead ops l = none → ∀ i ∈ l, ∀ o, ops[i]? = some o → lookOp o.op = false
  | [], h, i, hi => by simp at hi
  | j :: l, h, i, hi => by
    intro o ho
    unfold firstRead at h
    split at h
    · rename_i o' ho'
      split at h
      · cases h
      · rename_i hl
        rcases List.mem_cons.1 hi with rfl | hi
        · rw [ho] at ho'; injection ho' with ho'; subst ho'; simpa using hl
        · exact firstRead_none l h i hi o ho
    · rename_i hn
      rcases List.mem_cons.1 hi with rfl | hi
      · rw [ho] at hn; cases hn
      · exact firstRead_none l h i hi o ho

theorem allW_mem : ∀ (l : List Prop), allW l → ∀ p ∈ l, p
  | [], h, p, hp => by simp at hp
  | [q], h, p, hp => by rw [List.mem_singleton] at hp; subst hp; exact h
  | q :: r :: l, h, p, hp => by
    simp only [allW] at h
    rcases List.mem_cons.1 hp with rfl | hp
    · exact h.1
    · exact allW_mem (r :: l) h.2 p hp

theorem again_all {ts : List AV} {H : AH} : ∀ (l : List Nat) (p : Prop), againW E P ops ts H l p → p ∧ ∀ j ∈ l, ∀ y d, ops[j]? = some y → y.dst = some d → Told E P ops y ts H (ts.getD d undefA)
  | [], p, h => ⟨h, fun j hj => by simp at hj⟩
  | i :: l, p, h => by
    unfold againW at h
    split at h
    · rename_i o ho
      split at h
      · rename_i d hd
        obtain ⟨h1, h2⟩ := again_all l p h.2
        refine ⟨h1, fun j hj y d' hy hd' => ?_⟩
        rcases List.mem_cons.1 hj with rfl | hj
        · rw [ho] at hy; injection hy with hy; subst hy
          rw [hd] at hd'; injection hd' with hd'; subst hd'
          exact h.1
        · exact h2 j hj y d' hy hd'
      · rename_i hd
        obtain ⟨h1, h2⟩ := again_all l p h
        refine ⟨h1, fun j hj y d' hy hd' => ?_⟩
        rcases List.mem_cons.1 hj with rfl | hj
        · rw [ho] at hy; injection hy with hy; subst hy
          rw [hd] at hd'; cases hd'
        · exact h2 j hj y d' hy hd'
    · rename_i ho
      obtain ⟨h1, h2⟩ := again_all l p h
      refine ⟨h1, fun j hj y d' hy hd' => ?_⟩
      rcases List.mem_cons.1 hj with rfl | hj
      · rw [ho] at hy; cases hy
      · exact h2 j hj y d' hy hd'

/-- ahead as far as it goes -/
theorem norm {c0 : Cx} {ts0 : List AV} {listed : Array Bool} {K : List AV → AH → Prop} {c : Cx} {a : Act} (hp : Pairs ops) (hlen : ∀ (i : Nat) (o : Oper) d, ops[i]? = some o → o.dst = some d → d < ts0.length) : ∀ (f : Nat) (done : Array Bool) (ts : List AV) (H : AH) (ac : Act),
    DInv d0 E P ops c0 ts0 listed done ts H c a ac → drawW E P ops f done ts H K →
    ∃ done' ts' H' ac' f2, DInv d0 E P ops c0 ts0 listed done' ts' H' c a ac' ∧ drawW E P ops f2 done' ts' H' K ∧
      ((Region.ready .any ops done' = [] ∧ K ts' H') ∨ (Region.ready .any ops done' ≠ [] ∧ ∃ f', (∀ i ∈ Region.ready .any ops done', ∀ o, ops[i]? = some o → lookOp o.op = false) ∧
        ∀ i ∈ Region.ready .any ops done', ∀ o, ops[i]? = some o → opG E P ops o ts' H' fun x H2 => againW E P ops (putT ts' o.dst x) H2 (again ops done' i) (drawW E P ops f' (done'.setIfInBounds i true) (putT ts' o.dst x) H2 K)))
  | 0, done, ts, H, ac, I, h => by
    have h0 := h
    simp only [drawW] at h
    split at h
    · rename_i hr; exact ⟨done, ts, H, ac, 0, I, h0, .inl ⟨hr, h⟩⟩
    · exact h.elim
  | f + 1, done, ts, H, ac, I, h => by
    have h0 := h
    simp only [drawW] at h
    split at h
    · rename_i i hi
      obtain ⟨hmem, o, ho, hl⟩ := firstRead_some _ i hi
      simp only [ho] at h
      obtain ⟨x, hk, htold⟩ := told_of hl h
      obtain ⟨ac', I'⟩ := I.ahead hp hlen ho hmem hl htold
      exact norm hp hlen f _ _ _ _ I' hk
    · rename_i hn
      split at h
      · rename_i hr; exact ⟨done, ts, H, ac, f + 1, I, h0, .inl ⟨hr, h⟩⟩
      · rename_i l hne
        refine ⟨done, ts, H, ac, f + 1, I, h0, .inr ⟨fun e => hne e, f, firstRead_none _ hn, fun i hi o ho => ?_⟩⟩
        have := allW_mem _ h _ (List.mem_map.2 ⟨i, hi, rfl⟩)
        simpa only [ho] using this

/-- where nothing is ready all has been done -/
theorem all_listed (hp : Pairs ops) {b : Array Bool} (hs : b.size = ops.size) (hr : Region.ready .any ops b = []) : ∀ i, i < ops.size → b.getD i false = true := by
  intro i
  induction i using Nat.strongRecOn with
  | _ i ih =>
    intro hi
    cases hb : b.getD i false with
    | true => rfl
    | false =>
      have : i ∈ Region.ready .any ops b := by
        refine mem_ready.2 ⟨ops[i], by simp [hi], by rw [getD_ft (by omega) true false]; exact hb, fun e he hbd => ?_⟩
        have hlt := hp.low i ops[i] (by simp [hi]) e he hbd
        exact ih e.on hlt (by omega)
      rw [hr] at this; cases this

theorem draw_any {ro : Option Nat} {nn : Nat} {c0 : Cx} {ts0 : List AV} {K : List AV → AH → Prop} {Q : Exit → Act → World → Prop} (hp : Pairs ops) (hsel : ∀ (j : Nat) (o : Oper) cs b, ops[j]? = some o → o.op ≠ .select cs b) (hlen : ∀ (i : Nat) (o : Oper) d, ops[i]? = some o → o.dst = some d → d < ts0.length)
    (hQ : ∀ ts' H' c' a', K ts' H' → HRel E c' H' → LRel E c' ts' a'.tmps.toList → a'.defers = d0 → Later c0 c' → Agree (opWrites ops) ts0 ts' → Q .normal a' c'.w) :
    ∀ (n f : Nat) (listed done : Array Bool) (ts : List AV) (H : AH) (c : Cx) (a ac : Act), cntF listed.toList ≤ n → DInv d0 E P ops c0 ts0 listed done ts H c a ac → drawW E P ops f done ts H K → wpAnyIn (roundF ro) nn P .any ops Q n listed a c.w := by
  have fin : ∀ (f : Nat) (listed done : Array Bool) (ts : List AV) (H : AH) (c : Cx) (a ac : Act), DInv d0 E P ops c0 ts0 listed done ts H c a ac → drawW E P ops f done ts H K → Region.ready .any ops listed = [] → Q .normal a c.w := by
    intro f listed done ts H c a ac I h hr
    obtain ⟨done', ts', H', ac', f2, I', hdraw, hcase⟩ := norm hp hlen f done ts H ac I h
    have hall := all_listed hp I'.szl hr
    have hsame : a.tmps = ac'.tmps := by
      apply Array.ext_getElem?
      intro t
      refine I'.same t fun i o ho h1 h2 => ?_
      rw [hall i (Array.getElem?_eq_some_iff.1 ho).1] at h2; cases h2
    have hrd : Region.ready .any ops done' = [] := by
      cases hx : Region.ready .any ops done' with
      | nil => rfl
      | cons i l =>
        exfalso
        obtain ⟨o, ho, h1, _⟩ := mem_ready.1 (by rw [hx]; exact List.mem_cons_self .. : i ∈ Region.ready .any ops done')
        have hi := (Array.getElem?_eq_some_iff.1 ho).1
        have := I'.sub i (hall i hi)
        rw [getD_ft (by rw [I'.szd]; exact hi) false true, h1] at this; cases this
    rcases hcase with ⟨_, hk⟩ | ⟨hne, _⟩
    · exact hQ ts' H' c a hk I'.heap (by rw [hsame]; exact I'.tmps) I'.da I'.later I'.agree
    · exact absurd hrd hne
  intro n
  induction n with
  | zero =>
    intro f listed done ts H c a ac hn I h
    have hr : Region.ready .any ops listed = [] := by
      cases hx : Region.ready .any ops listed with
      | nil => rfl
      | cons i l =>
        exfalso
        obtain ⟨o, ho, h1, _⟩ := mem_ready.1 (by rw [hx]; exact List.mem_cons_self .. : i ∈ Region.ready .any ops listed)
        have hi : i < listed.size := by rw [I.szl]; exact (Array.getElem?_eq_some_iff.1 ho).1
        have hget : listed.toList[i]? = some false := by
          simp [Array.getD_eq_getD_getElem?, hi] at h1
          simp [hi, h1]
        have := cntF_zero listed.toList (by omega) i false hget
        cases this
    exact ⟨hr, fin f listed done ts H c a ac I h hr⟩
  | succ n ih =>
    intro f listed done ts H c a ac hn I h
    refine ⟨fun hr => fin f listed done ts H c a ac I h hr, fun i hi => ?_⟩
    obtain ⟨done', ts', H', ac', f2, I', hdraw, hcase⟩ := norm hp hlen f done ts H ac I h
    obtain ⟨o, ho, hnl, hrl⟩ := mem_ready.1 hi
    have hil : i < listed.size := by rw [I.szl]; exact (Array.getElem?_eq_some_iff.1 ho).1
    have hcnt : cntF (listed.setIfInBounds i true).toList ≤ n := by
      have hget : listed.toList[i]? = some false := by
        simp [Array.getD_eq_getD_getElem?, hil] at hnl
        simp [hil, hnl]
      have := cntF_set listed.toList i hget
      simp only [Array.toList_setIfInBounds]
      omega
    obtain ⟨hexec, hwant⟩ := run_alike (ops := ops) (a := a) (a' := ac') (fun cs b => hsel i o cs b ho) (I'.alike hp ho hi)
    unfold wpOpIn
    simp only [ho]
    -- out of what the operation comes to
    have close : ∀ {K' : Kt}, opG E P ops o ts' H' K' → (∀ v w', OpPost E c H' o K' v w' → wpAnyIn (roundF ro) nn P .any ops Q n (listed.setIfInBounds i true) (a.put o.dst v) w') →
        (if Region.wanted o (yielded ops a.tmps) then o.wpIn (roundF ro) nn P a c.w (wpAnyIn (roundF ro) nn P .any ops Q n (listed.setIfInBounds i true)) Q else (∀ f, o.about P c.w a.eval = some f → (roundF ro).fn f) ∧ wpAnyIn (roundF ro) nn P .any ops Q n (listed.setIfInBounds i true) (a.put o.dst undef) c.w) := by
      intro K' hG hk
      obtain ⟨h1, h2, h3⟩ := opG_run hG I'.heap I'.tmps
      rw [hwant]
      split
      · rename_i hw
        refine wp_in (h3 hw) ?_
        unfold Oper.wp
        rw [hexec]
        exact h1 hw o a _ Q hk
      · rename_i hw
        exact ⟨fun _ _ => trivial, hk undef c.w (h2 (by simpa using hw))⟩
    by_cases hd : done'.getD i false = true
    · -- it was done ahead
      have hnl' : listed.getD i false = false := by rw [getD_ft hil false true]; exact hnl
      obtain ⟨hlk, d, hdst, htold⟩ := I'.pend i o ho hd hnl'
      refine close htold ?_
      rintro v w' ⟨x, c', H2, rfl, ⟨rfl, rfl⟩, h2, h3, h4, h5⟩
      rcases h5 with ⟨rfl, _⟩ | h5
      · have I2 := I'.list hp ho hi hd hdst h3
        exact ih f2 _ _ _ _ _ _ _ hcnt I2 hdraw
      · rw [hlk] at h5; cases h5
    · -- it is done now
      have hid : i < done'.size := by rw [I'.szd]; exact (Array.getElem?_eq_some_iff.1 ho).1
      have hrd : i ∈ Region.ready .any ops done' := by
        refine mem_ready.2 ⟨o, ho, ?_, fun e he hb => I'.sub e.on (hrl e he hb)⟩
        rw [getD_ft hid true false]; simpa using hd
      rcases hcase with ⟨hr0, _⟩ | ⟨_, f', hno, hop⟩
      · rw [hr0] at hrd; cases hrd
      · refine close (hop i hrd o ho) ?_
        rintro v w' ⟨x, c', H2, rfl, hk, h2, h3, h4, _⟩
        obtain ⟨hrest, hag⟩ := again_all _ _ hk
        exact ih f' _ _ _ _ _ _ _ hcnt (I'.both hp ho hi hrd (hno i hrd o ho) h2 h3 h4 hag) hrest

theorem region_draw_sound {ro : Option Nat} {nn : Nat} {id : Nat} {K : List AV → AH → Prop} {Q : Exit → Act → World → Prop} {ts : List AV} {H : AH} {c : Cx} {a : Act} (hok : drawOk P ops ts.length = true) (h : drawW E P ops ops.size (Array.replicate ops.size false) ts H K) (hH : HRel E c H)
    (hr : LRel E c ts a.tmps.toList) (hd : a.defers = d0)
    (hQ : ∀ ts' H' c' a', K ts' H' → HRel E c' H' → LRel E c' ts' a'.tmps.toList → a'.defers = d0 → Later c c' → Agree (opWrites ops) ts ts' → Q .normal a' c'.w) : (Code.region id ops true).wpIn (roundF ro) nn P Q a c.w := by
  simp only [drawOk, Bool.and_eq_true] at hok
  obtain ⟨⟨⟨hm, hsel⟩, hp⟩, hall⟩ := hok
  obtain ⟨k1, k2⟩ := hH.heap_eq (w' := { c.w with drawn := c.w.drawn + 1 }) rfl rfl rfl rfl
  have hno : ∀ i, (Array.replicate ops.size false).getD i false = false := by
    intro i
    simp only [Array.getD_eq_getD_getElem?, Array.getElem?_replicate]
    split <;> rfl
  refine wpIn_region_any hm (draw_any (c0 := c) (ts0 := ts) (K := K) (pairs_of hp) (Region.noSelect_spec hsel) ?_ hQ ops.size ops.size (Array.replicate ops.size false) (Array.replicate ops.size false) ts H { c with w := { c.w with drawn := c.w.drawn + 1 } } a a ?_ ?_ h)
  · intro i o d ho hdst
    have := List.all_eq_true.1 hall o (Array.mem_toList_iff.2 (Array.mem_of_getElem? ho))
    simpa [hdst] using this
  · simp [cntF_replicate]
  · exact ⟨by simp, by simp, fun i h => h, fun i o ho hi => (by rw [hno] at hi; cases hi), fun i o ho hi => (by rw [hno] at hi; cases hi), k1, hr.le k2.le, hd, rfl, fun _ _ => rfl, fun i o ho hi => (by rw [hno] at hi; cases hi), k2, Agree.refl _ _⟩
end
end
end Go.Sc
