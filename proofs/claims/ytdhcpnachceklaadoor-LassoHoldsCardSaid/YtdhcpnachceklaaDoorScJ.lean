/-
  APPEND DOES WHAT ITS NODE SAYS; and all operations without a call, in one.
-/
import Derived.Test.YtdhcpnachceklaaDoorScI
namespace Go.Sc
open Go

section
variable {E : Env} {P : Program} {c : Cx} {ts : List AV} {H : AH} {a : Act} {K : Kt} {o : Oper}

theorem fits_cap {need old bytes : Nat} (h : old < need) (hb : need * bytes ≤ mostBytes) : ¬ (281474976710656 < Builtin.nextslicecap need old * bytes) := by
  have := growslice_fits h (bytes := bytes) (by unfold mostBytes at hb; omega)
  omega

theorem append_grow {t ty e xt : TypeId} {ats : Array TypeId} {i : TypeInfo} (ht : ats[0]? = some t) (hxt : ats[1]? = some xt) (hd : P.underlying t = some (.slice e)) (hi : P.info? e = some i) (hxd : (∃ e', P.underlying xt = some (.slice e')) ∨ P.underlying xt = some .string) {z : Value} (hz : i.zero = some z)
    {base : Option Addr} {sLen sCap n : Nat} {xv : Value} {olds news : List Value} {w : World} (hlen : ∀ w, (Builtin.lenOf xv).run P w = .ok n w)
    (hnew : ∀ w' : World, w'.heap = w.heap → (Builtin.firstCells i.size n xv).run P w' = .ok news.toArray w')
    (hold : ∀ w' : World, w'.heap = w.heap → (Builtin.firstCells i.size sLen (.slice base sLen sCap)).run P w' = .ok olds.toArray w')
    (hcap : sCap < sLen + n) (hb : (sLen + n) * i.bytes ≤ mostBytes) (hm : sLen + n ≤ mostBytes) :
    ∃ newCap, sLen + n ≤ newCap ∧ (Builtin.append_ ats ty #[.slice base sLen sCap, xv]).run P w =
      .ok (.slice (some ⟨w.heap.size, 0, none⟩) (sLen + n) newCap) (w.drew.alloc (.cells (olds ++ (news ++ (Builtin.zeroCells z.cells (newCap - (sLen + n))).toList)).toArray e)) := by
  have hn : ¬ (sLen + n ≤ sCap) := by omega
  have h63' : ¬ (9223372036854775807 < ((sLen : Int) + (n : Int))) := by simp only [mostBytes] at hm; omega
  have h48' := fits_cap (bytes := i.bytes) hcap hb
  have ho := hold w.drew rfl
  have hw := hnew w.drew rfl
  refine ⟨grownCap w (sLen + n) sCap e, by simp [grownCap, Question.cut], ?_⟩
  rcases hxd with ⟨e', hxd⟩ | hxd
  · simp [Builtin.append_, ht, hxt, run_underlying' hd, run_underlying' hxd, sizeOf, typeInfo, zeroValue, hi, hz, hlen, hn, h63', h48', Question.forced, ho, hw, newRow, grownCap]
    congr 2
    apply Array.ext'
    simp
  · simp [Builtin.append_, ht, hxt, run_underlying' hd, run_underlying' hxd, sizeOf, typeInfo, zeroValue, hi, hz, hlen, hn, h63', h48', Question.forced, ho, hw, newRow, grownCap]
    congr 2
    apply Array.ext'
    simp

theorem append_room {t ty e xt : TypeId} {ats : Array TypeId} {i : TypeInfo} (ht : ats[0]? = some t) (hxt : ats[1]? = some xt) (hd : P.underlying t = some (.slice e)) (hi : P.info? e = some i) (hxd : (∃ e', P.underlying xt = some (.slice e')) ∨ P.underlying xt = some .string)
    {base : Option Addr} {sLen sCap n : Nat} {xv : Value} {news : List Value} {w w' : World} (hlen : ∀ w, (Builtin.lenOf xv).run P w = .ok n w)
    (hnew : (Builtin.firstCells i.size n xv).run P w = .ok news.toArray w) (hcap : sLen + n ≤ sCap)
    (hst : (∃ ad, base = some ad ∧ (storeCells (ad.add (sLen * i.size)) news).run P w = .ok () w') ∨ (base = none ∧ w' = w)) :
    (Builtin.append_ ats ty #[.slice base sLen sCap, xv]).run P w = .ok (.slice base (sLen + n) sCap) w' := by
  rcases hst with ⟨ad, rfl, hst⟩ | ⟨rfl, rfl⟩
  · rcases hxd with ⟨e', hxd⟩ | hxd <;> simp [Builtin.append_, ht, hxt, run_underlying' hd, run_underlying' hxd, sizeOf, typeInfo, hi, hlen, hcap, hnew, hst]
  · rcases hxd with ⟨e', hxd⟩ | hxd <;> simp [Builtin.append_, ht, hxt, run_underlying' hd, run_underlying' hxd, sizeOf, typeInfo, hi, hlen, hcap, hnew]

theorem zero_some {e : TypeId} {i : TypeInfo} {z : List AV} (hz : zeroB P e = some z) (hi : P.info? e = some i) : ∃ v, i.zero = some v ∧ v.cells.size = i.size := by
  obtain ⟨v, hv, _, _, hvs⟩ := run_zero (w := default) hz
  unfold zeroB at hz
  simp [hi] at hz
  cases hiz : i.zero with
  | none => simp [hiz] at hz
  | some v' =>
    simp [zeroValue, typeInfo, hi, hiz] at hv
    subst hv
    refine ⟨v', rfl, ?_⟩
    cases hu : P.underlying e with
    | none => simp [tyB, hu] at hvs
    | some d => simp [tyB, hu, hi] at hvs; exact hvs

theorem setRow_other {w : World} {g : Nat} {cs : Array Value} {i : Nat} (h : i ≠ g) : (w.setRow g cs).heap[i]? = w.heap[i]? := by
  simp only [World.setRow, Array.getElem?_modify]
  rw [if_neg (by omega)]

theorem cut_mid {α : Type} (A rest news : List α) : (A ++ rest).take A.length ++ news ++ (A ++ rest).drop (A.length + news.length) = A ++ news ++ rest.drop news.length := by
  have : A.drop (A.length + news.length) = [] := List.drop_eq_nil_of_le (by omega)
  simp [List.drop_append, this, show A.length + news.length - A.length = news.length by omega]

theorem append_sound {t xt e ty : TypeId} {ats : Array TypeId} {n b : Nat} {z : List AV} {s x r : AV} {sv xv : Value} {H' : AH} (ht : ats[0]? = some t) (hxt : ats[1]? = some xt) (he : elemB P t = some (e, n, b)) (hz : zeroB P e = some z)
    (hxd : (∃ e', P.underlying xt = some (.slice e')) ∨ P.underlying xt = some .string) (hH : HRel E c H) (hs : VRel E c s sv) (hx : VRel E c x xv) (hb : appendA n b s x H = some (r, H')) :
    ∃ v c', (Builtin.append_ ats ty #[sv, xv]).run P c.w = .ok v c'.w ∧ HRel E c' H' ∧ VRel E c' r v ∧ Later c c' := by
  obtain ⟨i, hd, hi, rfl, rfl⟩ := elemB_some he
  obtain ⟨zv, hzv, hzs⟩ := zero_some hz hi
  simp only [appendA, Option.bind_eq_some_iff] at hb
  obtain ⟨⟨m, new⟩, hcells, hb⟩ := hb
  obtain ⟨hlen, news, hnl, hnr, hnf⟩ := cellsOfA_sound (P := P) hcells hH hx
  split at hb
  · -- onto nil
    simp only [VRel] at hs; subst hs
    split at hb
    · rename_i h0
      subst h0
      injection hb with hb; injection hb with hb1 hb2; subst hb1 hb2
      have hrun := append_room (P := P) (ty := ty) ht hxt hd hi hxd (base := none) (sLen := 0) (sCap := 0) (w' := c.w) hlen (hnf c.w rfl) (Nat.le_refl _) (.inr ⟨rfl, rfl⟩)
      exact ⟨_, c, hrun, hH, by simp [VRel], Later.refl c⟩
    · rename_i h0
      split at hb
      · rename_i hbd
        injection hb with hb; injection hb with hb1 hb2; subst hb1 hb2
        obtain ⟨cap, hcap, hrun⟩ := append_grow (P := P) (ty := ty) ht hxt hd hi hxd hzv (base := none) (sLen := 0) (sCap := 0) (olds := []) (w := c.w) hlen hnf (fun w _ => by simp [Builtin.firstCells]) (by omega) (by simpa using hbd.1) (by simpa using hbd.2)
        obtain ⟨k1, k2⟩ := hH.heap_eq (w' := c.w.drew) rfl rfl rfl rfl
        obtain ⟨c', h1, h2, h3, _, h5⟩ := k1.newCells (b := H.bs.length) (.inl rfl) i.size e news (Builtin.zeroCells zv.cells (cap - (0 + m))).toList new (hnr.le k2.le)
        refine ⟨_, c', ?_, by simpa [AH.put, AH.push] using h2, h5 m cap ?_ (by omega), k2.trans h3⟩
        · rw [hrun, h1]; simp
        · simp [hnl, Builtin.zeroCells, hzs]
          rw [← Nat.add_mul]; congr 1; omega
      · cases hb
  · -- onto one of the call's own
    rename_i b off len g
    have hs' := hs
    simp only [VRel] at hs
    simp only [Option.bind_eq_some_iff] at hb
    obtain ⟨cs, hcs, hb⟩ := hb
    obtain ⟨sz, p0, pre, rest, e', hbk, hg, hgc, hsz, hw, hcsz, hp0, hl⟩ := hH.block hcs
    obtain ⟨_, p, cap, rfl, hlc, hp⟩ := hs
    split at hb
    · rename_i hbd
      obtain ⟨hesz, hfr, hby, hmo, hsc⟩ := hbd
      have hsz' : c.sz b = i.size := hH.esz hesz
      rw [hsz] at hsz'; subst hsz'
      have hlenl := hl.length
      split at hb
      · rename_i h0
        subst h0
        injection hb with hb; injection hb with hb1 hb2; subst hb1 hb2
        have hnil : news = [] := List.eq_nil_of_length_eq_zero (by simpa using hnl)
        subst hnil
        have hrun := append_room (P := P) (ty := ty) ht hxt hd hi hxd (base := some p) (sLen := len) (sCap := cap) (w' := c.w) hlen (hnf c.w rfl) (by omega) (.inl ⟨p, rfl, by simp [storeCells]⟩)
        exact ⟨_, c, hrun, hH, hs', Later.refl c⟩
      · rename_i h0
        injection hb with hb; injection hb with hb1 hb2; subst hb1 hb2
        by_cases hroom : len + m ≤ cap
        · -- there is room
          obtain ⟨rfl, hoff⟩ := (hp hg).resolve_left (by omega)
          have hone := scalar_all hsc hnr
          have hprel : pre.length = off + len * i.size := by omega
          have htot : c.base b + off + len * i.size + news.length ≤ (p0 ++ pre ++ rest).length := by
            rw [← hcsz, ← hoff, hnl, hsz, Nat.add_assoc (c.base b + off), ← Nat.add_mul]
            exact Nat.add_le_add_left (Nat.mul_le_mul_right _ hroom) _
          have hst := run_storeCells_at P (c.al b) (c.base b + off + len * i.size) e' news 0 (p0 ++ pre ++ rest).toArray c.w hw (by simpa using htot) hone
          have hrun := append_room (P := P) (ty := ty) ht hxt hd hi hxd (base := some ⟨c.al b, c.base b + off, none⟩) (sLen := len) (sCap := cap) hlen (hnf c.w rfl) hroom (.inl ⟨_, rfl, by rw [Addr.add_at]; exact hst⟩)
          have hcells : (p0 ++ pre ++ rest).toArray.toList.take (c.base b + off + len * i.size + 0) ++ news ++ (p0 ++ pre ++ rest).toArray.toList.drop (c.base b + off + len * i.size + 0 + news.length) = (p0 ++ pre.take off) ++ (pre.drop off ++ news) ++ rest.drop news.length := by
            have e0 : c.base b + off + len * i.size = (p0 ++ pre).length := by simp; omega
            simp only [Nat.add_zero, e0]
            rw [cut_mid]
            simp only [List.append_assoc]
            rw [← List.append_assoc (pre.take off), List.take_append_drop]
          have hlr : (p0 ++ pre ++ rest).length = p0.length + pre.length + rest.length := by simp only [List.length_append]
          have hnr' : news.length ≤ rest.length := by omega
          obtain ⟨c', h1, h2, h3, h5⟩ := hH.regenC (k := c.al b) (cs' := cs.drop off ++ new) (p0 := p0 ++ pre.take off) (pre := pre.drop off ++ news) (rest := rest.drop news.length) (e := e') (w' := c.w.setRow (c.al b) ((p0 ++ pre.take off) ++ (pre.drop off ++ news) ++ rest.drop news.length).toArray) hbk (.inl rfl)
            (by rw [setRow_is hw, Array.getElem?_setIfInBounds]; simp [hH.lt b (hH.live' hbk)]) (fun j hj _ => setRow_other hj) (by simp [World.setRow]) rfl rfl rfl ((hl.drop off).append hnr)
          have hp0' : (p0 ++ pre.take off).length = c.base b + off := by simp; omega
          have hv := h5 0 (len + m) cap (by
            rw [hp0', Nat.add_zero, ← hsz, hoff, hcsz]
            simp only [List.length_append, List.length_drop, List.length_take]
            omega) hroom
          rw [hp0', Nat.add_zero] at hv
          exact ⟨_, c', by rw [hrun, h1, hcells], h2, hv, h3⟩
        · -- it must grow
          have hold : ∀ w' : World, w'.heap = c.w.heap → (Builtin.firstCells i.size len (.slice (some p) len cap)).run P w' = .ok ((pre.drop off)).toArray w' := by
            intro w' hw'
            have hlen2 : (pre.drop off).length = len * i.size := by simp; omega
            rcases Nat.eq_zero_or_pos len with h00 | hpos
            · subst h00
              have : pre.drop off = [] := List.eq_nil_of_length_eq_zero (by simpa using hlen2)
              simp [Builtin.firstCells, loadCells, loadCellsFrom, this]
            · obtain ⟨rfl, hoff⟩ := (hp hg).resolve_left (by omega)
              have := run_loadCells_list (P := P) w' ⟨c.al b, c.base b + off, none⟩ (pre.drop off) (fun j u hj => by
                rw [Addr.add_at, cell_of_heap (show w'.heap[c.al b]? = c.w.heap[c.al b]? by rw [hw']), cell_of_block hw, ← hp0, Nat.add_assoc]
                rw [List.getElem?_drop] at hj
                exact mid_get hj)
              rw [hlen2] at this
              simp only [Builtin.firstCells, this]
          obtain ⟨nc, hcap, hrun⟩ := append_grow (P := P) (ty := ty) ht hxt hd hi hxd hzv (base := some p) (sLen := len) (sCap := cap) (w := c.w) hlen hnf hold (by omega) hby hmo
          obtain ⟨k1, k2⟩ := hH.heap_eq (w' := c.w.drew) rfl rfl rfl rfl
          obtain ⟨c', h1, h2, h3, h5⟩ := k1.regenC (k := c.w.heap.size) (cs' := cs.drop off ++ new) (p0 := []) (pre := pre.drop off ++ news) (rest := (Builtin.zeroCells zv.cells (nc - (len + m))).toList) (e := e)
            (w' := c.w.drew.alloc (.cells (pre.drop off ++ (news ++ (Builtin.zeroCells zv.cells (nc - (len + m))).toList)).toArray e)) hbk (.inr rfl)
            (by simp only [List.nil_append, List.append_assoc]; exact heap_alloc_new' c.w.drew _) (fun j _ hj => heap_alloc_old _ _ _ hj) (by simp) rfl rfl rfl (((hl.drop off).append hnr).le k2.le)
          have hv := h5 0 (len + m) nc (by
            have hlen2 : pre.length - off = len * i.size := by omega
            simp [hnl, Builtin.zeroCells, hzs, hlen2]
            rw [← Nat.add_mul, ← Nat.add_mul]; congr 1; omega) (by omega)
          exact ⟨_, c', by rw [hrun, h1]; rfl, h2, hv, k2.trans h3⟩
    · cases hb
  · cases hb

theorem appR_sound {t xt e ty : TypeId} {ats : Array TypeId} {n b : Nat} {z : List AV} {s x r : AV} {sv xv : Value} {H' : AH} (ht : ats[0]? = some t) (hxt : ats[1]? = some xt) (he : elemB P t = some (e, n, b)) (hz : zeroB P e = some z)
    (hxd : (∃ e', P.underlying xt = some (.slice e')) ∨ P.underlying xt = some .string) (hH : HRel E c H) (hs : VRel E c s sv) (hx : VRel E c x xv) (hb : AppR n b s x H r H') :
    ∃ v c', (Builtin.append_ ats ty #[sv, xv]).run P c.w = .ok v c'.w ∧ HRel E c' H' ∧ VRel E c' r v ∧ Later c c' := by
  cases hb with
  | old hb => exact append_sound ht hxt he hz hxd hH hs hx hb
  | @first k m new new' h0 hf hcells hm hsub hby hmo =>
    obtain ⟨i, hd, hi, rfl, rfl⟩ := elemB_some he
    obtain ⟨zv, hzv, hzs⟩ := zero_some hz hi
    obtain ⟨hlen, news, hnl, hnr, hnf⟩ := cellsOfA_sound (P := P) hcells hH hx
    subst h0
    simp only [VRel] at hs; subst hs
    obtain ⟨cap, hcap, hrun⟩ := append_grow (P := P) (ty := ty) ht hxt hd hi hxd hzv (base := none) (sLen := 0) (sCap := 0) (olds := []) (w := c.w) hlen hnf (fun w _ => by simp [Builtin.firstCells]) (by omega) (by simpa using hby) (by simpa using hmo)
    obtain ⟨k1, k2⟩ := hH.heap_eq (w' := c.w.drew) rfl rfl rfl rfl
    obtain ⟨c', h1, h2, h3, h5⟩ := k1.newTail hf i.size e news (Builtin.zeroCells zv.cells (cap - (0 + m))).toList new' (hsub.rel (hnr.le k2.le))
    refine ⟨_, c', ?_, h2, h5 m cap ?_ (by omega), k2.trans h3⟩
    · rw [hrun, h1]; simp
    · simp [hnl, Builtin.zeroCells, hzs]
      rw [← Nat.add_mul]; congr 1; omega
  | @grow k len g m cs new new' h0 htl hcl hcells hsub hsc hby hmo =>
    obtain ⟨i, hd, hi, rfl, rfl⟩ := elemB_some he
    obtain ⟨zv, hzv, hzs⟩ := zero_some hz hi
    obtain ⟨hlen, news, hnl, hnr, hnf⟩ := cellsOfA_sound (P := P) hcells hH hx
    subst h0
    simp only [VRel] at hs
    obtain ⟨hgc, p, cap, rfl, hlc, hp⟩ := hs
    obtain ⟨_, hg, hsz, arr, e', hw, hcsz⟩ := hH.blk k _ htl
    have hlt := hH.lt k (by rw [hg]; simp)
    by_cases hroom : len + m ≤ cap
    · rcases Nat.eq_zero_or_pos cap with hc0 | hcpos
      · -- nothing at all
        have e1 : len = 0 := by omega
        have e2 : m = 0 := by omega
        subst e1 e2
        have hcs : cs = [] := List.eq_nil_of_length_eq_zero (by simpa using hcl)
        have hnil : news = [] := List.eq_nil_of_length_eq_zero (by simpa using hnl)
        have hnew : new' = [] := by
          subst hnil
          have h1 := hnr.length
          have h2 := hsub.length
          exact List.eq_nil_of_length_eq_zero (by rw [← h2, h1]; rfl)
        subst hcs hnil hnew
        have hrun := append_room (P := P) (ty := ty) ht hxt hd hi hxd (base := some p) (sLen := 0) (sCap := cap) (w' := c.w) hlen (hnf c.w rfl) (by omega) (.inl ⟨p, rfl, by simp [storeCells]⟩)
        obtain ⟨h1, h2⟩ := hH.regen (x' := .tail H.ctr i.size) (sz := i.size) (k := c.al k) (nf := 0) (o := 0) (p0 := 0) (arr := arr) (e := e') (w' := c.w) htl (by simp) (.inl rfl) hw (fun _ _ _ => rfl) (Nat.le_refl _) (fun _ _ => rfl) rfl rfl rfl (by simp) (fun hh => by simp [Blk.isTail] at hh) fun hle => by
          refine ⟨?_, ?_, ?_, arr, e', ?_, ?_⟩
          · simp [hH.ctr]
          · simp [hH.ctr]
          · simp
          · simp only [if_true]; exact hw
          · simp
        refine ⟨_, { w := c.w, al := fun j => if j = k then c.al k else c.al j, base := fun j => if j = k then 0 else c.base j, gen := fun j => if j = k then some c.ctr else c.gen j, sz := fun j => if j = k then i.size else c.sz j, csz := fun j => if j = k then arr.length else c.csz j, fz := c.fz, fc := fun i j => c.fc i j ∨ (i = c.al k ∧ 0 ≤ j ∧ j < 0 + 0), ctr := c.ctr + 1 }, hrun, h1, ?_, h2⟩
        simp only [VRel]
        exact ⟨by rw [← hH.ctr]; exact Nat.lt_succ_self _, p, cap, rfl, by omega, .inl hc0⟩
      · obtain ⟨kk, o', rfl, hcr, hown⟩ := hp.resolve_left (by omega)
        obtain ⟨rfl, hfr, hoff⟩ := hown hg
        have hone := scalar_all hsc hnr
        have htot : o' + len * i.size + news.length ≤ arr.length := by
          rw [← hcsz, ← hoff, hnl, hsz, Nat.add_assoc, ← Nat.add_mul]
          exact Nat.add_le_add_left (Nat.mul_le_mul_right _ hroom) _
        have hst := run_storeCells_at P (c.al k) (o' + len * i.size) e' news 0 arr.toArray c.w hw (by simpa using htot) hone
        have hrun := append_room (P := P) (ty := ty) ht hxt hd hi hxd (base := some ⟨c.al k, o', none⟩) (sLen := len) (sCap := cap) hlen (hnf c.w rfl) hroom (.inl ⟨_, rfl, by rw [Addr.add_at]; exact hst⟩)
        have harr : (arr.toArray.toList.take (o' + len * i.size + 0) ++ news ++ arr.toArray.toList.drop (o' + len * i.size + 0 + news.length)) = arr.take (o' + len * i.size) ++ news ++ arr.drop (o' + len * i.size + news.length) := by simp
        have hl2 : (arr.take (o' + len * i.size) ++ news ++ arr.drop (o' + len * i.size + news.length)).length = arr.length := by simp; omega
        have hbefore : ∀ j, j < o' + len * i.size → (arr.take (o' + len * i.size) ++ news ++ arr.drop (o' + len * i.size + news.length))[j]? = arr[j]? := fun j hj => by
          rw [List.append_assoc, List.getElem?_append_left (by simp; omega), List.getElem?_take_of_lt hj]
        have hheap : (c.w.setRow (c.al k) (arr.take (o' + len * i.size) ++ news ++ arr.drop (o' + len * i.size + news.length)).toArray).heap[c.al k]? = some (.cells (arr.take (o' + len * i.size) ++ news ++ arr.drop (o' + len * i.size + news.length)).toArray e' (0, 0)) := by
          rw [setRow_is hw, Array.getElem?_setIfInBounds]; simp [hlt]
        obtain ⟨us, u1, u2, u3⟩ := hcr.sub 0 cs.length (by omega)
        have hus : LRel E c cs us := by simpa using u2
        have hnn := hsub.length
        have hnn2 := hnr.length
        obtain ⟨c', h1, h2, h3, h5⟩ := hH.regenT (k := c.al k) (o := o') (cs := cs ++ new') (us := us ++ news) (e := e') (arr := arr.take (o' + len * i.size) ++ news ++ arr.drop (o' + len * i.size + news.length))
          (w' := c.w.setRow (c.al k) (arr.take (o' + len * i.size) ++ news ++ arr.drop (o' + len * i.size + news.length)).toArray) htl (.inl rfl) hheap (fun j hj _ => setRow_other hj) (by simp [World.setRow])
          (fun j hj => by
            have hjl : j < o' + cs.length := by
              by_cases hx : j < o' + cs.length
              · exact hx
              · exact absurd hj (hfr j (by omega))
            simp only [World.cell?, hheap, hw]
            have := hbefore j (by omega)
            simpa using this)
          (fun j hj hf => hfr j (by simp at hj; omega) hf) rfl rfl rfl (hus.append (hsub.rel hnr))
          (fun j v hj => by
            by_cases hjl : j < us.length
            · rw [List.getElem?_append_left hjl] at hj
              rw [hbefore (o' + j) (by omega)]
              have := u3 j v hj
              simpa [World.cell?, hw] using this
            · rw [List.getElem?_append_right (by omega)] at hj
              have hjn := lt_of_get hj
              rw [List.append_assoc, List.getElem?_append_right (by simp; omega), List.getElem?_append_left (by simp; omega), ← hj]
              congr 1
              simp; omega)
        have hv := h5 (len + m) cap (by rw [hl2, ← hcsz, ← hsz]; exact hoff) hroom
        refine ⟨_, c', ?_, h2, hv, h3⟩
        rw [hrun, h1, harr]
    · -- it must grow
      have holds : ∃ olds : List Value, olds.length = len * i.size ∧ LRel E c cs olds ∧ ∀ w' : World, w'.heap = c.w.heap → (Builtin.firstCells i.size len (.slice (some p) len cap)).run P w' = .ok olds.toArray w' := by
        rcases Nat.eq_zero_or_pos len with h00 | hpos
        · subst h00
          have hcs : cs = [] := List.eq_nil_of_length_eq_zero (by simpa using hcl)
          subst hcs
          exact ⟨[], by simp, by simp [LRel], fun w' _ => by simp [Builtin.firstCells, loadCells, loadCellsFrom]⟩
        · obtain ⟨kk, o', rfl, hcr, hown⟩ := hp.resolve_left (by omega)
          obtain ⟨us, u1, u2, u3⟩ := hcr.sub 0 cs.length (by omega)
          refine ⟨us, by omega, by simpa using u2, fun w' hw' => ?_⟩
          have := run_loadCells_list (P := P) w' ⟨kk, o', none⟩ us (fun j u hj => by
            rw [Addr.add_at, cell_of_heap (show w'.heap[kk]? = c.w.heap[kk]? by rw [hw'])]; exact u3 j u hj)
          rw [show us.length = len * i.size by omega] at this
          simp only [Builtin.firstCells, this]
      obtain ⟨olds, hol, hor, hof⟩ := holds
      obtain ⟨nc, hcap, hrun⟩ := append_grow (P := P) (ty := ty) ht hxt hd hi hxd hzv (base := some p) (sLen := len) (sCap := cap) (w := c.w) hlen hnf hof (by omega) hby hmo
      obtain ⟨k1, k2⟩ := hH.heap_eq (w' := c.w.drew) rfl rfl rfl rfl
      obtain ⟨c', h1, h2, h3, h5⟩ := k1.regenT (k := c.w.heap.size) (o := 0) (cs := cs ++ new') (us := olds ++ news) (e := e) (arr := olds ++ (news ++ (Builtin.zeroCells zv.cells (nc - (len + m))).toList))
        (w' := c.w.drew.alloc (.cells (olds ++ (news ++ (Builtin.zeroCells zv.cells (nc - (len + m))).toList)).toArray e)) htl (.inr rfl) (heap_alloc_new' c.w.drew _) (fun j _ hj => heap_alloc_old _ _ _ hj) (by simp)
        (fun j hj => absurd (hH.fclt _ j hj) (Nat.lt_irrefl _)) (fun j _ hj => absurd (hH.fclt _ j hj) (Nat.lt_irrefl _)) rfl rfl rfl ((hor.append (hsub.rel hnr)).le k2.le)
        (fun j v hj => by
          have := lt_of_get hj
          rw [← List.append_assoc, Nat.zero_add, List.getElem?_append_left this]; exact hj)
      have hv := h5 (len + m) nc (by
        simp [hnl, hol, Builtin.zeroCells, hzs]
        have e9 : nc = len + (m + (nc - (len + m))) := by omega
        calc nc * i.size = (len + (m + (nc - (len + m)))) * i.size := by rw [← e9]
          _ = _ := by rw [Nat.add_mul, Nat.add_mul]) hcap
      exact ⟨_, c', by rw [hrun, h1], h2, hv, k2.trans h3⟩

theorem does_append {cl : Call} (ho : o.op = .call cl) (hc : cl.callee = .builtin .append) (hH : HRel E c H) (hr : LRel E c ts a.tmps.toList) (h : opW E P o ts H K) : Does E P c H o a K := by
  simp only [opW, ho, hc] at h
  have key : ∀ t xt s x e n b z, cl.argTypes[0]? = some t → cl.argTypes[1]? = some xt → cl.args.toList = [s, x] → elemB P t = some (e, n, b) → zeroB P e = some z → ((∃ e', P.underlying xt = some (.slice e')) ∨ P.underlying xt = some .string) →
      wApp n b (ev E ts s) (ev E ts x) H K → Does E P c H o a K := by
    intro t xt s x e n b z ht hxt hargs he hz hxd h
    obtain ⟨r, H', hb, hk⟩ := h
    have hargs' := args_two hargs
    obtain ⟨v, c', h1, h2, h3, h4⟩ := appR_sound (P := P) (ty := o.type) ht hxt he hz hxd hH (ev_rel hH hr s) (ev_rel hH hr x) hb
    refine ⟨v, c', H', r, .inl ?_, hk, h2, h3, h4, .inr (by simp [ho, hc, readOp])⟩
    simp [execOp, ho, resolve, hc, invoke, builtin, hargs', h1]
  split at h
  · rename_i e n b e' s x h1 h2 h3
    obtain ⟨t, ht, h1⟩ := Option.bind_eq_some_iff.1 h1
    obtain ⟨xt, hxt, h2⟩ := Option.bind_eq_some_iff.1 h2
    split at h
    · rename_i hz
      obtain ⟨z, hz⟩ := Option.isSome_iff_exists.1 hz
      exact key t xt s x e n b z ht hxt h3 h1 hz (.inl ⟨e', h2⟩) h
    · exact h.elim
  · rename_i e n b s x h1 h2 h3
    obtain ⟨t, ht, h1⟩ := Option.bind_eq_some_iff.1 h1
    obtain ⟨xt, hxt, h2⟩ := Option.bind_eq_some_iff.1 h2
    split at h
    · rename_i hz
      obtain ⟨z, hz⟩ := Option.isSome_iff_exists.1 hz
      exact key t xt s x e n b z ht hxt h3 h1 hz (.inr h2) h
    · exact h.elim
  · exact h.elim
end
end Go.Sc
