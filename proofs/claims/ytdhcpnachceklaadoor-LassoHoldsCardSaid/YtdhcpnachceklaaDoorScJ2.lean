/-
  MAPS: made, put into, looked up: sound.
-/
import Derived.Test.YtdhcpnachceklaaDoorScJ
import Derived.MapKept
namespace Go.Sc
open Go
set_option linter.unusedSimpArgs false
set_option linter.unusedVariables false
section
variable {E : Env} {P : Program} {c : Cx} {H : AH} {o : Oper} {a : Act} {ts : List AV} {K : Kt}

theorem HRel.maps (hH : HRel E c H) {b g : Nat} {p : List AV × List AV} (h : H.maps b g = some p) : H.bs[b]? = some (.map g p.1 p.2) ∧ c.gen b = some g ∧ g < c.ctr ∧ ∃ es clock, c.w.heap[c.al b]? = some (.map es clock) ∧ LRel E c p.1 (es.toList.map (·.key)) ∧ LRel E c p.2 (es.toList.map (·.val)) := by
  unfold AH.maps at h
  split at h
  · rename_i g' ks vs hb
    split at h
    · rename_i hg
      subst hg
      injection h with h
      subst h
      obtain ⟨h1, h2, h3⟩ := hH.blk b _ hb
      exact ⟨hb, h2, h1, h3⟩
    · cases h
  · cases h
theorem keyIs_key {d : TypeDesc} {k : AV} {v : Value} (hd : keyIs d k = true) (hv : VRel E c k v) : MapKept.IsKey d v := by
  unfold keyIs at hd
  split at hd
  · simp only [VRel] at hv; subst hv; have hd := of_decide_eq_true hd; subst hd; simp [MapKept.IsKey]
  · simp only [VRel] at hv; subst hv; simp [MapKept.IsKey]
  · simp only [VRel] at hv; subst hv; simp [MapKept.IsKey]
  · cases hd
theorem keyEq_now {d : TypeDesc} {k x : AV} {v u : Value} {b : Bool} (hd : keyIs d k = true) (hv : VRel E c k v) (hu : VRel E c x u) (h : keyEq k x = some b) : Instr.sameNow d v u = some b ∧ (b = true → u = v) := by
  unfold keyEq at h
  split at h
  · rename_i j p j' q
    split at h
    · rename_i hj
      subst hj
      injection h with h
      simp only [VRel] at hv hu
      subst hv; subst hu; subst h
      cases d <;> simp [keyIs] at hd
      subst hd
      refine ⟨by simp [Instr.sameNow], fun h => ?_⟩
      have : p = q := by simpa using h
      rw [this]
    · cases h
  · rename_i p q
    injection h with h
    simp only [VRel] at hv hu
    subst hv; subst hu; subst h
    cases d <;> simp [keyIs] at hd
    refine ⟨by simp [Instr.sameNow], fun h => ?_⟩
    have : p = q := (MapKept.bytes_beq p q).1 h
    rw [this]
  · rename_i p q
    injection h with h
    simp only [VRel] at hv hu
    subst hv; subst hu; subst h
    cases d <;> simp [keyIs] at hd
    refine ⟨by simp [Instr.sameNow], fun h => ?_⟩
    have : p = q := by simpa using h
    rw [this]
  · cases h
theorem findK_now {d : TypeDesc} {k : AV} {v : Value} (hd : keyIs d k = true) (hv : VRel E c k v) : ∀ (ks : List AV) (es : List MapEntry) (i : Nat) (r : Option Nat), LRel E c ks (es.map (·.key)) → findK k ks i = some r →
    (r = none ∧ Instr.findNow d v es i = some none) ∨ ∃ j e, r = some (i + j) ∧ es[j]? = some e ∧ e.key = v ∧ Instr.findNow d v es i = some (some (i + j, e.val))
  | [], es, i, r, hk, h => by
    simp only [LRel, List.map_eq_nil_iff] at hk
    subst hk
    simp only [findK, Option.some.injEq] at h
    exact .inl ⟨h.symm, rfl⟩
  | x :: ks, es, i, r, hk, h => by
    simp only [LRel] at hk
    obtain ⟨u, us, he, hu, hk⟩ := hk
    cases es with
    | nil => cases he
    | cons e es =>
      simp only [List.map_cons, List.cons.injEq] at he
      obtain ⟨rfl, rfl⟩ := he
      simp only [findK] at h
      split at h
      · rename_i hq
        obtain ⟨h1, h2⟩ := keyEq_now hd hv hu hq
        injection h with h
        exact .inr ⟨0, e, by simpa using h.symm, rfl, h2 rfl, by simp [Instr.findNow, h1]⟩
      · rename_i hq
        obtain ⟨h1, _⟩ := keyEq_now hd hv hu hq
        rcases findK_now hd hv ks es (i + 1) r hk h with ⟨h3, h4⟩ | ⟨j, e', h3, h4, h5, h6⟩
        · exact .inl ⟨h3, by simp [Instr.findNow, h1, h4]⟩
        · exact .inr ⟨j + 1, e', by rw [h3]; congr 1; omega, by simpa using h4, h5, by simp only [Instr.findNow, h1, h6]; congr 3; omega⟩
      · cases h
theorem run_findKey {d : TypeDesc} {kt : TypeId} {v : Value} {es : List MapEntry} {r : Option (Nat × Value)} (hd : P.underlying kt = some d) (h : Instr.findNow d v es 0 = some r) (w : World) : (Instr.findKey kt v es).run P w = .ok r w := by
  simp [Instr.findKey, run_underlying' hd, h]
theorem run_checkKey {d : TypeDesc} {kt : TypeId} {k : AV} {v : Value} (hd : P.underlying kt = some d) (hk : keyIs d k = true) (hv : VRel E c k v) (e : Bool) (w : World) : (Instr.checkKey e 10000 kt v).run P w = .ok () w := by
  exact MapKept.run_checkKey hd (keyIs_key hk hv) e 9999
theorem mapB_some {t e : TypeId} {d : TypeDesc} (h : mapB P t = some (d, e)) : ∃ k, P.underlying t = some (.map k e) ∧ P.underlying k = some d := by
  unfold mapB at h
  split at h
  · rename_i k e' hu
    simp only [Option.map_eq_some_iff, Prod.mk.injEq] at h
    obtain ⟨d', h1, rfl, rfl⟩ := h
    exact ⟨k, hu, h1⟩
  · cases h
theorem mapGet_sound {d : TypeDesc} {z : AV} {ok : Bool} {k r : AV} {ks vs : List AV} {es : List MapEntry} {v zv : Value} (hd : keyIs d k = true) (hv : VRel E c k v) (hz : VRel E c z zv) (hks : LRel E c ks (es.map (·.key))) (hvs : LRel E c vs (es.map (·.val)))
    (h : mapGet z ok k ks vs = some r) : ∃ f u b, Instr.findNow d v es 0 = some f ∧ (match f with | some (_, x) => (x, true) | none => (zv, false)) = (u, b) ∧ VRel E c r (if ok then .tuple #[u, .bool b] else u) := by
  unfold mapGet at h
  split at h
  · rename_i i hf
    rcases findK_now hd hv ks es 0 _ hks hf with ⟨h1, _⟩ | ⟨j, e, h1, h2, _, h4⟩
    · cases h1
    · simp only [Nat.zero_add, Option.some.injEq] at h1
      subst h1
      simp only [Option.map_eq_some_iff] at h
      obtain ⟨y, hy, rfl⟩ := h
      obtain ⟨u, hu, hr⟩ := hvs.get hy
      rw [List.getElem?_map, h2] at hu
      simp only [Option.map_some, Option.some.injEq] at hu
      subst hu
      refine ⟨_, e.val, true, h4, rfl, ?_⟩
      cases ok with
      | true => simp only [if_true, VRel]; exact ⟨[e.val, .bool true], rfl, by simp only [LRel]; exact ⟨_, _, rfl, hr, _, _, rfl, by simp [VRel], rfl⟩⟩
      | false => simpa using hr
  · rename_i hf
    rcases findK_now hd hv ks es 0 _ hks hf with ⟨_, h2⟩ | ⟨j, e, h1, _⟩
    · injection h with h
      subst h
      refine ⟨_, zv, false, h2, rfl, ?_⟩
      cases ok with
      | true => simp only [if_true, VRel]; exact ⟨[zv, .bool false], rfl, by simp only [LRel]; exact ⟨_, _, rfl, hz, _, _, rfl, by simp [VRel], rfl⟩⟩
      | false => simpa using hz
    · cases h1
  · cases h
theorem does_lookup {t : TypeId} {m k : Operand} {ok : Bool} (ho : o.op = .lookup t m k ok) (hH : HRel E c H) (hr : LRel E c ts a.tmps.toList) (h : opW E P o ts H K) : Does E P c H o a K := by
  simp only [opW, ho] at h
  split at h
  · rename_i d e hm
    obtain ⟨kt, hu, hkt⟩ := mapB_some hm
    split at h
    · rename_i z hz
      obtain ⟨zv, hzr, hzv⟩ := run_zeroV (E := E) (c := c) hz c.w
      obtain ⟨x, hx, hk⟩ := h
      unfold lookupA at hx
      split at hx
      · rename_i hd
        have hkv := ev_rel hH hr k
        have hmv := ev_rel hH hr m
        have hck := run_checkKey (P := P) hkt hd hkv
        split at hx
        · rename_i hme
          rw [hme] at hmv
          simp only [VRel] at hmv
          obtain ⟨f, u, b, h1, h2, h3⟩ := mapGet_sound (es := []) hd hkv hzv (by simp [LRel]) (by simp [LRel]) hx
          refine Does.read hH ?_ h3 hk
          have hf := run_findKey (P := P) (es := []) hkt h1 c.w
          simp only [execOp, ho, Sem.run_bind, Instr.lookup, run_underlying' hu, hmv, Result.andThen_ok, Sem.run_pure, hck, hf, hzr]
          cases f with
          | none => simp only [Prod.mk.injEq] at h2; obtain ⟨rfl, rfl⟩ := h2; simp [hzr]
          | some y => obtain ⟨i, y⟩ := y; simp only [Prod.mk.injEq] at h2; obtain ⟨rfl, rfl⟩ := h2; simp
        · rename_i b g hme
          rw [hme] at hmv
          simp only [VRel] at hmv
          obtain ⟨_, r, hr1, hr2⟩ := hmv
          simp only [Option.bind_eq_some_iff] at hx
          obtain ⟨p, hp, hx⟩ := hx
          obtain ⟨_, hg, _, es, clock, hw, hks, hvs⟩ := hH.maps hp
          obtain rfl := hr2 hg
          obtain ⟨f, u, b, h1, h2, h3⟩ := mapGet_sound hd hkv hzv hks hvs hx
          refine Does.read hH ?_ h3 hk
          have hf := run_findKey (P := P) hkt h1 c.w
          simp only [execOp, ho, Sem.run_bind, Instr.lookup, run_underlying' hu, hr1, Result.andThen_ok, Sem.run_pure, getObj, Sem.run, hw, hck, hf]
          cases f with
          | none => simp only [Prod.mk.injEq] at h2; obtain ⟨rfl, rfl⟩ := h2; simp [hzr]
          | some y => obtain ⟨i, y⟩ := y; simp only [Prod.mk.injEq] at h2; obtain ⟨rfl, rfl⟩ := h2; simp
        · rename_i ks vs hme
          rw [hme] at hmv
          simp only [VRel] at hmv
          obtain ⟨r, es, clock, hr1, _, hw, hks, hvs⟩ := hmv
          obtain ⟨f, u, b, h1, h2, h3⟩ := mapGet_sound hd hkv hzv hks hvs hx
          refine Does.read hH ?_ h3 hk
          have hf := run_findKey (P := P) hkt h1 c.w
          simp only [execOp, ho, Sem.run_bind, Instr.lookup, run_underlying' hu, hr1, Result.andThen_ok, Sem.run_pure, getObj, Sem.run, hw, hck, hf]
          cases f with
          | none => simp only [Prod.mk.injEq] at h2; obtain ⟨rfl, rfl⟩ := h2; simp [hzr]
          | some y => obtain ⟨i, y⟩ := y; simp only [Prod.mk.injEq] at h2; obtain ⟨rfl, rfl⟩ := h2; simp
        · cases hx
      · cases hx
    · exact h.elim
  · exact h.elim
theorem does_makeMap {t : TypeId} {r : Option Operand} (ho : o.op = .makeMap t r) (hH : HRel E c H) (h : opW E P o ts H K) : Does E P c H o a K := by
  simp only [opW, ho] at h
  split at h
  · obtain ⟨b, hb, hk⟩ := h
    have hL := Later.put hH hb 0 0 0 (.map #[] 0)
    refine ⟨.map (some c.w.heap.size), c.put b 0 0 0 (.map #[] 0), _, _, .inl ?_, hk, ?_, ?_, hL, .inr (by simp [ho, readOp])⟩
    · simp [execOp, ho, Instr.makeMap, newObj, Sem.run, Cx.put]
    · refine hH.put hb _ _ _ _ (.map H.ctr [] []) ⟨?_, ?_, #[], 0, ?_, ?_, ?_⟩ (fun _ => rfl)
      · simp [Cx.put, hH.ctr]
      · simp [Cx.put, hH.ctr]
      · simp only [Cx.put, if_true]; exact heap_alloc_new' _ _
      · simp [LRel]
      · simp [LRel]
    · simp only [VRel, Cx.put, if_true]
      exact ⟨by rw [hH.ctr]; omega, _, rfl, fun _ => rfl⟩
  · exact h.elim
theorem mods_key {es : Array MapEntry} {i : Nat} {e : MapEntry} {k v : Value} (he : es[i]? = some e) (hk : e.key = k) :
    ((es.modify i fun e => { e with key := k, val := v }).toList.map (·.key)) = es.toList.map (·.key) ∧ ((es.modify i fun e => { e with key := k, val := v }).toList.map (·.val)) = (es.toList.map (·.val)).set i v := by
  constructor
  · exact MapKept.modify_keys i _ fun x hx => by rw [he] at hx; injection hx with hx; subst hx; exact hk.symm
  · have hlt : i < es.size := (Array.getElem?_eq_some_iff.1 he).1
    apply List.ext_getElem?
    intro j
    simp only [List.getElem?_map, Array.getElem?_toList, Array.getElem?_modify]
    by_cases hij : i = j
    · subst hij; simp [hlt]
    · rw [List.getElem?_set_ne hij]; simp [hij]
theorem insert_sound {t : TypeId} {d : TypeDesc} {e0 : TypeId} {m k v : AV} {mv kv vv : Value} {H' : AH} (hm : mapB P t = some (d, e0)) (hH : HRel E c H) (hx : insertA d m k v H = some H') (hmv : VRel E c m mv) (hkv : VRel E c k kv) (hvv : VRel E c v vv) :
    ∃ w', (Instr.mapUpdate t mv kv vv).run P c.w = .ok () w' ∧ HRel E { c with w := w' } H' ∧ Later c { c with w := w' } := by
  obtain ⟨kt, hu, hkt⟩ := mapB_some hm
  unfold insertA at hx
  split at hx
  · rename_i hd
    have hkk := keyIs_key hd hkv
    split at hx
    · rename_i b g
      simp only [VRel] at hmv
      obtain ⟨_, r, rfl, hr2⟩ := hmv
      simp only [Option.bind_eq_some_iff] at hx
      obtain ⟨p, hp, hx⟩ := hx
      obtain ⟨hb, hg, hgl, es, clock, hw, hks, hvs⟩ := hH.maps hp
      obtain rfl := hr2 hg
      have hck := run_checkKey (P := P) hkt hd hkv false c.w
      have hlt := hH.lt b (by rw [hg]; simp)
      have set : ∀ (ks vs : List AV) (es' : Array MapEntry) (clock' : Nat), (c.le { c with w := { c.w with heap := c.w.heap.setIfInBounds (c.al b) (.map es' clock') } } → LRel E { c with w := { c.w with heap := c.w.heap.setIfInBounds (c.al b) (.map es' clock') } } ks (es'.toList.map (·.key)) ∧ LRel E { c with w := { c.w with heap := c.w.heap.setIfInBounds (c.al b) (.map es' clock') } } vs (es'.toList.map (·.val))) →
          HRel E { c with w := { c.w with heap := c.w.heap.setIfInBounds (c.al b) (.map es' clock') } } ⟨H.bs.set b (.map g ks vs), H.ctr⟩ ∧ Later c { c with w := { c.w with heap := c.w.heap.setIfInBounds (c.al b) (.map es' clock') } } := fun ks vs es' clock' h =>
        hH.setBlk hb (by simp) rfl rfl (by simp) (o := .map es' clock') rfl rfl rfl rfl fun hle => ⟨hgl, hg, es', clock', by simp [hlt], (h hle).1, (h hle).2⟩
      split at hx
      · rename_i i hf
        injection hx with hx
        subst hx
        rcases findK_now hd hkv p.1 es.toList 0 _ hks hf with ⟨h1, _⟩ | ⟨j, e, h1, h2, h3, h4⟩
        · cases h1
        · simp only [Nat.zero_add, Option.some.injEq] at h1
          subst h1
          have he : es[i]? = some e := by simpa using h2
          obtain ⟨q1, q2⟩ := mods_key (v := vv) he h3
          refine ⟨_, ?_, set p.1 (p.2.set i v) (es.modify i fun e => { e with key := kv, val := vv }) clock fun hle => ⟨by rw [q1]; exact hks.le hle, by rw [q2]; exact (hvs.le hle).set i (hvv.le hle)⟩⟩
          simp only [Nat.zero_add] at h4
          have hst : (Instr.keyThatStays kv kv).run P c.w = .ok kv c.w := MapKept.run_keyThatStays hkk
          simp only [Instr.mapUpdate, Sem.run_bind, run_underlying' hu, Result.andThen_ok, MapKept.run_getObj_map hw, hck, run_findKey hkt h4, he, Option.map_some, Option.getD_some, h3, hst, MapKept.run_setObj_map _ hw]
      · rename_i hf
        injection hx with hx
        subst hx
        rcases findK_now hd hkv p.1 es.toList 0 _ hks hf with ⟨_, h2⟩ | ⟨j, e, h1, _⟩
        · refine ⟨_, ?_, set (p.1 ++ [k]) (p.2 ++ [v]) (es.push { key := kv, val := vv, born := clock }) (clock + 1) fun hle => ⟨?_, ?_⟩⟩
          · simp only [Instr.mapUpdate, Sem.run_bind, run_underlying' hu, Result.andThen_ok, MapKept.run_getObj_map hw, hck, run_findKey hkt h2, MapKept.run_setObj_map _ hw]
          · simp only [Array.toList_push, List.map_append, List.map_cons, List.map_nil]
            exact (hks.le hle).append (by simp only [LRel]; exact ⟨_, _, rfl, hkv.le hle, rfl⟩)
          · simp only [Array.toList_push, List.map_append, List.map_cons, List.map_nil]
            exact (hvs.le hle).append (by simp only [LRel]; exact ⟨_, _, rfl, hvv.le hle, rfl⟩)
        · cases h1
      · cases hx
    · cases hx
  · cases hx
theorem does_insert {t : TypeId} {m k v : Operand} (ho : o.op = .insert t m k v ∨ o.op = .mapUpdate t m k v) (hH : HRel E c H) (hr : LRel E c ts a.tmps.toList) (h : opW E P o ts H K) : Does E P c H o a K := by
  have h' : ∃ d e H', mapB P t = some (d, e) ∧ insertA d (ev E ts m) (ev E ts k) (ev E ts v) H = some H' ∧ K undefA H' := by
    rcases ho with ho | ho
    all_goals
      simp only [opW, ho] at h
      split at h
      · rename_i d e hm
        obtain ⟨H', hx, hk⟩ := h
        exact ⟨d, e, H', hm, hx, hk⟩
      · exact h.elim
  obtain ⟨d, e, H', hm, hx, hk⟩ := h'
  obtain ⟨w', h1, h2, h3⟩ := insert_sound hm hH hx (ev_rel hH hr m) (ev_rel hH hr k) (ev_rel hH hr v)
  refine ⟨undef, _, H', undefA, .inr ⟨?_, rfl⟩, hk, h2, by simp [undefA, undef, VRel], h3, .inr (by rcases ho with ho | ho <;> simp [ho, readOp])⟩
  rcases ho with ho | ho <;> simp [execOp, ho, h1]
end
end Go.Sc
