/-
  A FUNCTION's CODE DOES WHAT ITS NODES SAY.
-/
import Derived.Test.YtdhcpnachceklaaDoorScL3
namespace Go.Sc
open Go

section
variable {E : Env} {P : Program}

/-- how a way out stands to ours -/
def exitRel : Exit → AX → Prop
  | .normal, .normal => True
  | .exit i, .exit j => i = j
  | .ret, .ret => True
  | _, _ => False

def QR (E : Env) (c : Cx) (W : List Nat) (ts : List AV) (Q : AX → List AV → AH → Prop) : Exit → Act → World → Prop := fun e a' w' =>
  ∃ e' ts' c' H', c'.w = w' ∧ exitRel e e' ∧ Q e' ts' H' ∧ HRel E c' H' ∧ LRel E c' ts' a'.tmps.toList ∧ a'.defers = [] ∧ Later c c' ∧ Agree W ts ts'

theorem KN.app_of : ∀ (n : Nat) (f : List AV → AH → Prop) (xs : List AV) (H : AH), xs.length = n → KN.app n (KN.of n f) xs H → f xs H
  | 0, f, xs, H, hl, h => by
    have : xs = [] := List.eq_nil_of_length_eq_zero hl
    subst this; exact h
  | n + 1, f, [], H, hl, h => by simp at hl
  | n + 1, f, x :: xs, H, hl, h => KN.app_of n (fun xs => f (x :: xs)) xs H (by simpa using hl) h
theorem KN.le_app : ∀ (n : Nat) (j k : KN n) (xs : List AV) (H : AH), KN.le n j k → xs.length = n → KN.app n j xs H → KN.app n k xs H
  | 0, j, k, xs, H, hle, _, h => hle H h
  | n + 1, j, k, [], H, hle, hl, h => by simp at hl
  | n + 1, j, k, x :: xs, H, hle, hl, h => KN.le_app n (j x) (k x) xs H (hle x) (by simpa using hl) h

theorem junk_agree : ∀ (W : List Nat) (ts : List AV), Agree W ts (junkL ts W)
  | [], ts => Agree.refl _ _
  | t :: W, ts => by
    have h1 : Agree [t] ts (ts.set t .junk) := ⟨by simp, fun i hi => by simp at hi; rw [List.getElem?_set_ne (Ne.symm hi)]⟩
    exact h1.trans (junk_agree W _)
theorem junk_get : ∀ (W : List Nat) (ts : List AV) (t : Nat), (junkL ts W)[t]? = if t ∈ W then ts[t]?.map (fun _ => AV.junk) else ts[t]?
  | [], ts, t => by simp [junkL]
  | w :: W, ts, t => by
    simp only [junkL]
    rw [junk_get W]
    by_cases h : t ∈ W
    · simp only [h, if_true, List.mem_cons, or_true]
      by_cases hw : w = t
      · subst hw
        by_cases hl : w < ts.length
        · simp [hl]
        · simp [List.set_eq_of_length_le (Nat.le_of_not_lt hl)]
      · rw [List.getElem?_set_ne hw]
    · by_cases hw : w = t
      · subst hw
        simp only [h, if_false, List.mem_cons, true_or, if_true]
        by_cases hl : w < ts.length
        · simp [hl]
        · simp [List.set_eq_of_length_le (Nat.le_of_not_lt hl), List.getElem?_eq_none (Nat.le_of_not_lt hl)]
      · simp only [h, if_false, List.mem_cons, or_false, Ne.symm hw]
        rw [List.getElem?_set_ne hw]
theorem junk_eq {W : List Nat} {ts ts1 : List AV} (h : Agree W ts ts1) : junkL ts W = junkL ts1 W := by
  apply List.ext_getElem?
  intro t
  rw [junk_get, junk_get]
  by_cases ht : t ∈ W
  · simp only [ht, if_true]
    by_cases hl : t < ts.length
    · have hl1 : t < ts1.length := by rw [h.1]; exact hl
      simp [hl, hl1]
    · have hl1 : ¬ t < ts1.length := by rw [h.1]; exact hl
      simp [hl, hl1]
  · simp only [ht, if_false]; exact (h.2 t ht).symm
theorem junk_rel {c : Cx} : ∀ (W : List Nat) (ts : List AV) (vs : List Value), LRel E c ts vs → LRel E c (junkL ts W) vs
  | [], ts, vs, h => h
  | t :: W, ts, vs, h => by
    refine junk_rel W _ _ ?_
    by_cases ht : t < vs.length
    · have := h.set t (x := .junk) (v := vs[t]) (by simp [VRel])
      rwa [List.set_getElem_self] at this
    · rw [List.set_eq_of_length_le (by rw [h.length]; omega)]; exact h
theorem fill_rel {c : Cx} (W : List Nat) : ∀ (l : List Nat) (ts xs : List AV) (vs : List Value), LRel E c ts vs → LRel E c xs (l.map fun t => vs.getD t undef) → LRel E c (fillW W ts l xs) vs
  | [], ts, xs, vs, h, _ => by cases xs <;> exact h
  | t :: l, ts, [], vs, h, h' => by simp [LRel] at h'
  | t :: l, ts, x :: xs, vs, h, h' => by
    simp only [List.map_cons, LRel, fillW] at h' ⊢
    obtain ⟨u, us, he, hu, h'⟩ := h'
    injection he with e1 e2
    subst e1 e2
    refine fill_rel W l _ xs vs ?_ h'
    cases W.contains t with
    | false => exact h
    | true =>
      simp only [cond_true]
      by_cases ht : t < vs.length
      · have := h.set t hu
        simp only [List.getD, List.getElem?_eq_getElem ht, Option.getD_some] at this
        rwa [List.set_getElem_self] at this
      · rw [List.set_eq_of_length_le (by rw [h.length]; omega)]; exact h
theorem looks_rel {c : Cx} {ts : List AV} {vs : List Value} (h : LRel E c ts vs) : ∀ l : List Nat, LRel E c (looks ts l) (l.map fun t => vs.getD t undef)
  | [] => by simp [looks, LRel]
  | t :: l => by
    simp only [looks, List.map_cons, LRel]
    refine ⟨_, _, rfl, ?_, looks_rel h l⟩
    by_cases ht : t < ts.length
    · obtain ⟨v, h1, h2⟩ := h.get (List.getElem?_eq_getElem ht)
      simpa [List.getD, List.getElem?_eq_getElem ht, h1] using h2
    · have h2 : ¬ t < vs.length := by rw [← h.length]; exact ht
      simp [List.getD, List.getElem?_eq_none (Nat.le_of_not_lt ht), List.getElem?_eq_none (Nat.le_of_not_lt h2), undefA, undef, VRel]
theorem fill_agree (W : List Nat) : ∀ (l : List Nat) (ts0 ts xs : List AV), Agree W ts0 ts → Agree W ts0 (fillW W ts l xs)
  | [], ts0, ts, xs, h => by cases xs <;> exact h
  | t :: l, ts0, ts, [], h => h
  | t :: l, ts0, ts, x :: xs, h => by
    simp only [fillW]
    refine fill_agree W l ts0 _ xs ?_
    cases hc : W.contains t with
    | false => exact h
    | true =>
      refine ⟨by simpa using h.1, fun i hi => ?_⟩
      simp only [cond_true]
      by_cases hit : t = i
      · subst hit; simp at hc; exact absurd hc hi
      · rw [List.getElem?_set_ne hit]; exact h.2 i hi

theorem exists_least {p : Nat → Prop} (h : ∃ n, p n) : ∃ n, p n ∧ ∀ m, m < n → ¬ p m := by
  obtain ⟨n, hn⟩ := h
  induction n using Nat.strongRecOn with
  | _ n ih =>
    by_cases hx : ∃ m, m < n ∧ p m
    · obtain ⟨m, hm, hp⟩ := hx; exact ih m hm hp
    · exact ⟨n, hn, fun m hm hp => hx ⟨m, hm, hp⟩⟩

/-- a loop whose relation bears what is left -/
theorem wp_loop_left {c : Code} {Q : Exit → Act → World → Prop} {a : Act} {w : World} (I : Nat → Act → World → Prop) (h₀ : ∃ m, I m a w)
    (round : ∀ m a w, I m a w → c.wp P (Exit.then (fun a' w' => ∃ m', m' < m ∧ I m' a' w') Q) a w) : (Code.loop c).wp P Q a w := by
  classical
  let μ : Act → World → Nat := fun a w => if h : ∃ m, I m a w then (exists_least h).choose else 0
  have hμ : ∀ a w, (∃ m, I m a w) → I (μ a w) a w ∧ ∀ m, I m a w → μ a w ≤ m := by
    intro a w h
    have hs := (exists_least h).choose_spec
    simp only [μ, dif_pos h]
    exact ⟨hs.1, fun m hm => Nat.le_of_not_lt fun hlt => hs.2 m hlt hm⟩
  refine wp_loop (fun a w => ∃ m, I m a w) μ h₀ fun a w h => ?_
  refine wp_mono (round _ a w (hμ a w h).1) fun e a' w' hq => ?_
  cases e <;> try exact hq
  obtain ⟨m', hlt, hI⟩ := hq
  exact ⟨⟨m', hI⟩, Nat.lt_of_le_of_lt ((hμ a' w' ⟨m', hI⟩).2 m' hI) hlt⟩

theorem QR.after {c c1 : Cx} {W W1 W2 : List Nat} {ts ts1 : List AV} {Q : AX → List AV → AH → Prop} (hL : Later c c1) (hA : Agree W1 ts ts1) (hs : ∀ t ∈ W1 ++ W2, t ∈ W) {e : Exit} {a : Act} {w : World} (h : QR E c1 W2 ts1 Q e a w) : QR E c W ts Q e a w := by
  obtain ⟨e', ts', c', H', h1, h2, h3, h4, h5, h6, h7, h8⟩ := h
  exact ⟨e', ts', c', H', h1, h2, h3, h4, h5, h6, hL.trans h7, (hA.trans h8).mono hs⟩

theorem wpC_sound : ∀ (code : Code) (n : Ann) (Q : AX → List AV → AH → Prop) (ts : List AV) (H : AH), wpC E P code n Q ts H → ∀ (c : Cx) (a : Act), HRel E c H → LRel E c ts a.tmps.toList → a.defers = [] → code.wp P (QR E c (Code.writes code) ts Q) a c.w := by
  intro code
  induction code with
  | skip =>
    intro n Q ts H h c a hH hr hd
    simp only [wpC] at h
    exact wp_skip ⟨.normal, ts, c, H, rfl, trivial, h, hH, hr, hd, Later.refl c, Agree.refl _ _⟩
  | region id ops draw =>
    intro n Q ts H h c a hH hr hd
    cases draw with
    | false =>
      simp only [wpC] at h
      exact region_sound h hH hr hd fun ts' H' c' a' h1 h2 h3 h4 h5 h6 => ⟨.normal, ts', c', H', rfl, trivial, h1, h2, h3, h4, h5, h6⟩
    | true =>
      cases n with
      | draw =>
        simp only [wpC] at h
        split at h
        · rename_i hok
          exact region_draw_sound hok h hH hr hd fun ts' H' c' a' h1 h2 h3 h4 h5 h6 => ⟨.normal, ts', c', H', rfl, trivial, h1, h2, h3, h4, h5, h6⟩
        · exact h.elim
      | free =>
        simp only [wpC] at h
        split at h
        · rename_i hok
          rw [Bool.and_eq_true] at hok
          exact region_draw_sound hok.1 (free_draw_W hok.1 hok.2 h) hH hr hd fun ts' H' c' a' h1 h2 h3 h4 h5 h6 => ⟨.normal, ts', c', H', rfl, trivial, h1, h2, h3, h4, h5, h6⟩
        · exact h.elim
      | _ => simp only [wpC] at h
  | seq x y ihx ihy =>
    intro n Q ts H h c a hH hr hd
    cases n with
    | seq j nx ny =>
      cases j with
      | none =>
        simp only [wpC] at h
        refine wp_seq (wp_mono (ihx nx _ ts H h c a hH hr hd) fun e a1 w1 hq => ?_)
        obtain ⟨e', ts1, c1, H1, rfl, he, hq, h1, h2, h3, h4, h5⟩ := hq
        cases e with
        | normal =>
          cases e' <;> simp only [exitRel] at he
          refine wp_mono (ihy ny Q ts1 H1 hq c1 a1 h1 h2 h3) fun e2 a2 w2 hq2 => ?_
          exact hq2.after h4 h5 (fun t ht => by simpa [Code.writes] using ht)
        | exit i => cases e' <;> simp only [exitRel] at he; subst he; exact ⟨.exit i, ts1, c1, H1, rfl, rfl, hq, h1, h2, h3, h4, h5.mono fun t ht => by simp [Code.writes, ht]⟩
        | ret => cases e' <;> simp only [exitRel] at he; exact ⟨.ret, ts1, c1, H1, rfl, trivial, hq, h1, h2, h3, h4, h5.mono fun t ht => by simp [Code.writes, ht]⟩
        | goto l => simp only [exitRel] at he
        | panic ch => simp only [exitRel] at he
        | outgrown => simp only [exitRel] at he
      | some l =>
        simp only [wpC] at h
        obtain ⟨J, hm, hle⟩ := h
        refine wp_seq (wp_mono (ihx nx _ ts H hm c a hH hr hd) fun e a1 w1 hq => ?_)
        obtain ⟨e', ts1, c1, H1, rfl, he, hq, h1, h2, h3, h4, h5⟩ := hq
        cases e with
        | normal =>
          cases e' <;> simp only [exitRel] at he
          obtain ⟨xs', H1', hlen, hgh, hJ⟩ := KN.app_of _ _ _ _ (by simp [looks]) hq
          obtain ⟨c1', hw1, hL1, hH1, hx1⟩ := hgh E c1 h1
          have hq' := KN.app_of _ _ _ _ hlen (KN.le_app _ _ _ _ _ hle hlen hJ)
          have hrel : LRel E c1' (fillW (Code.writes x) (junkL ts (Code.writes x)) l xs') a1.tmps.toList := by
            rw [junk_eq h5]; exact fill_rel _ l _ _ _ (LRel.le hL1.le _ _ (junk_rel _ _ _ h2)) (hx1 _ (looks_rel h2 l))
          rw [← hw1]
          refine wp_mono (ihy ny Q _ H1' hq' c1' a1 hH1 hrel h3) fun e2 a2 w2 hq2 => ?_
          exact hq2.after (h4.trans hL1) (fill_agree _ _ _ _ _ (junk_agree _ _)) (fun t ht => by simpa [Code.writes] using ht)
        | exit i => cases e' <;> simp only [exitRel] at he; subst he; exact ⟨.exit i, ts1, c1, H1, rfl, rfl, hq, h1, h2, h3, h4, h5.mono fun t ht => by simp [Code.writes, ht]⟩
        | ret => cases e' <;> simp only [exitRel] at he; exact ⟨.ret, ts1, c1, H1, rfl, trivial, hq, h1, h2, h3, h4, h5.mono fun t ht => by simp [Code.writes, ht]⟩
        | goto l => simp only [exitRel] at he
        | panic ch => simp only [exitRel] at he
        | outgrown => simp only [exitRel] at he
    | _ => simp only [wpC] at h
  | cond x a1 a2 ih1 ih2 =>
    intro n Q ts H h c a hH hr hd
    cases n with
    | two n1 n2 =>
      simp only [wpC] at h
      obtain ⟨b, hb, ht, hf⟩ := h
      have hv := ev_rel hH hr x
      rw [hb] at hv; simp only [VRel] at hv
      refine wp_cond_split hv (fun hbt => ?_) (fun hbf => ?_)
      · exact wp_mono (ih1 n1 Q ts H (ht hbt) c a hH hr hd) fun e a' w' hq => hq.after (W1 := []) (Later.refl c) (Agree.refl _ _) (fun t ht => by simp at ht; simp [Code.writes, ht])
      · exact wp_mono (ih2 n2 Q ts H (hf hbf) c a hH hr hd) fun e a' w' hq => hq.after (W1 := []) (Later.refl c) (Agree.refl _ _) (fun t ht => by simp at ht; simp [Code.writes, ht])
    | _ => simp only [wpC] at h
  | block id x ih =>
    intro n Q ts H h c a hH hr hd
    cases n with
    | one nx =>
      simp only [wpC] at h
      refine wp_block (wp_mono (ih nx _ ts H h c a hH hr hd) fun e a1 w1 hq => ?_)
      obtain ⟨e', ts1, c1, H1, rfl, he, hq, h1, h2, h3, h4, h5⟩ := hq
      cases e with
      | normal => cases e' <;> simp only [exitRel] at he; exact ⟨.normal, ts1, c1, H1, rfl, trivial, hq, h1, h2, h3, h4, h5⟩
      | exit i =>
        cases e' <;> simp only [exitRel] at he
        subst he
        simp only [Exit.inBlock, AX.inBlock] at hq ⊢
        split
        · rename_i hi; rw [if_pos hi] at hq; exact ⟨.normal, ts1, c1, H1, rfl, trivial, hq, h1, h2, h3, h4, h5⟩
        · rename_i hi; rw [if_neg hi] at hq; exact ⟨.exit i, ts1, c1, H1, rfl, rfl, hq, h1, h2, h3, h4, h5⟩
      | ret => cases e' <;> simp only [exitRel] at he; exact ⟨.ret, ts1, c1, H1, rfl, trivial, hq, h1, h2, h3, h4, h5⟩
      | goto l => simp only [exitRel] at he
      | panic ch => simp only [exitRel] at he
      | outgrown => simp only [exitRel] at he
    | _ => simp only [wpC] at h
  | loop x ih =>
    intro n Q ts H h c a hH hr hd
    cases n with
    | loop l nx =>
      simp only [wpC] at h
      obtain ⟨I, ⟨m0, hm0⟩, hbody⟩ := h
      refine wp_loop_left (fun m a' w' => ∃ ts' c' H', c'.w = w' ∧ KN.app l.length (KN.gh l.length (I m)) (looks ts' l) H' ∧ HRel E c' H' ∧ LRel E c' ts' a'.tmps.toList ∧ a'.defers = [] ∧ Later c c' ∧ Agree (Code.writes x) ts ts')
        ⟨m0, ts, c, H, rfl, hm0, hH, hr, hd, Later.refl c, Agree.refl _ _⟩ ?_
      rintro m a1 w1 ⟨ts1, c0, H0, rfl, hI, h10, h2, h3, h40, h5⟩
      obtain ⟨xs', H1, hlen, hgh, hJ⟩ := KN.app_of _ _ _ _ (by simp [looks]) hI
      obtain ⟨c1, hw1, hL1, h1, hx1⟩ := hgh E c0 h10
      have h4 := h40.trans hL1
      have hb := KN.app_of _ _ _ _ hlen (KN.le_app _ _ _ _ _ (hbody m) hlen hJ)
      have hrel : LRel E c1 (fillW (Code.writes x) (junkL ts (Code.writes x)) l xs') a1.tmps.toList := by
        rw [junk_eq h5]; exact fill_rel _ l _ _ _ (LRel.le hL1.le _ _ (junk_rel _ _ _ h2)) (hx1 _ (looks_rel h2 l))
      have hag : Agree (Code.writes x) ts (fillW (Code.writes x) (junkL ts (Code.writes x)) l xs') := fill_agree _ _ _ _ _ (junk_agree _ _)
      rw [← hw1]
      refine wp_mono (ih nx _ _ H1 hb c1 a1 h1 hrel h3) fun e a2 w2 hq => ?_
      obtain ⟨e', ts2, c2, H2, rfl, he, hq, k1, k2, k3, k4, k5⟩ := hq
      have hag2 : Agree (Code.writes x) ts ts2 := (hag.trans k5).mono fun t ht => by simpa using ht
      cases e with
      | normal =>
        cases e' <;> simp only [exitRel] at he
        obtain ⟨m', hlt, hq⟩ := KN.app_of _ _ _ _ (by simp [looks]) hq
        exact ⟨m', hlt, ts2, c2, H2, rfl, hq, k1, k2, k3, h4.trans k4, hag2⟩
      | exit i => cases e' <;> simp only [exitRel] at he; subst he; exact ⟨.exit i, ts2, c2, H2, rfl, rfl, hq, k1, k2, k3, h4.trans k4, hag2⟩
      | ret => cases e' <;> simp only [exitRel] at he; exact ⟨.ret, ts2, c2, H2, rfl, trivial, hq, k1, k2, k3, h4.trans k4, hag2⟩
      | goto l => simp only [exitRel] at he
      | panic ch => simp only [exitRel] at he
      | outgrown => simp only [exitRel] at he
    | _ => simp only [wpC] at h
  | exit id =>
    intro n Q ts H h c a hH hr hd
    simp only [wpC] at h
    exact wp_exit ⟨.exit id, ts, c, H, rfl, rfl, h, hH, hr, hd, Later.refl c, Agree.refl _ _⟩
  | ret =>
    intro n Q ts H h c a hH hr hd
    simp only [wpC] at h
    exact wp_ret ⟨.ret, ts, c, H, rfl, trivial, h, hH, hr, hd, Later.refl c, Agree.refl _ _⟩
  | _ => intro n Q ts H h; simp only [wpC] at h

def tmpV (a : Act) : ResultVar → Value
  | .tmp t => a.tmps.getD t undef
  | _ => undef
theorem results_list {ts : List AV} {c : Cx} {H : AH} {a : Act} (hH : HRel E c H) (hr : LRel E c ts a.tmps.toList) (f : ResultVar → Sem Value) (hf : ∀ t, f (.tmp t) = pure (a.tmps.getD t undef)) : ∀ (l : List ResultVar), l.all isTmpR = true →
    (l.mapM f).run P c.w = Result.ok (l.map (tmpV a)) c.w ∧ LRel E c (l.map (tmpA ts)) (l.map (tmpV a))
  | [], _ => ⟨by simp, by simp [LRel]⟩
  | .tmp t :: l, h => by
    obtain ⟨i1, i2⟩ := results_list hH hr f hf l (by simpa [isTmpR] using h)
    refine ⟨?_, ?_⟩
    · simp only [List.mapM_cons, hf, Sem.run_bind, Sem.run_pure, Result.andThen_ok, i1, List.map_cons, tmpV]
    · simp only [List.map_cons, LRel]
      exact ⟨_, _, rfl, by simpa [ev, Act.eval, tmpV, tmpA] using ev_rel hH hr (.tmp t), i2⟩
  | .cell ad t :: l, h => by simp [isTmpR] at h

def resF (tmps : Array Value) : ResultVar → Sem Value
  | .tmp t => pure (tmps.getD t undef)
  | .cell a t => do loadVar t (← asAddr (tmps.getD a undef))
theorem results_eq (fn : Func) (tmps : Array Value) : results fn tmps = (do
    let vs ← fn.results.mapM (resF tmps)
    pure (if h : vs.size = 1 then vs[0] else .tuple vs)) := by
  unfold results
  congr 1

theorem results_any {ts : List AV} {H : AH} {c : Cx} {a : Act} (hH : HRel E c H) (hr : LRel E c ts a.tmps.toList) (f : ResultVar → Sem Value) (hf : ∀ t, f (.tmp t) = pure (a.tmps.getD t undef)) (hg : ∀ ad t, f (.cell ad t) = (do loadVar t (← asAddr (a.tmps.getD ad undef)))) :
    ∀ (l : List ResultVar) (xs : List AV), allSome (l.map (retA P ts H)) = some xs → ∃ vs, (l.mapM f).run P c.w = Result.ok vs c.w ∧ LRel E c xs vs
  | [], xs, h => by simp [allSome] at h; subst h; exact ⟨[], by simp, by simp [LRel]⟩
  | r :: l, xs, h => by
    simp only [List.map_cons] at h
    cases hr1 : retA P ts H r with
    | none => rw [hr1] at h; simp [allSome] at h
    | some x =>
      rw [hr1] at h
      simp only [allSome, Option.map_eq_some_iff] at h
      obtain ⟨ys, hy, rfl⟩ := h
      obtain ⟨vs, i1, i2⟩ := results_any hH hr f hf hg l ys hy
      have key : ∃ v, (f r).run P c.w = Result.ok v c.w ∧ VRel E c x v := by
        cases r with
        | tmp t =>
          simp only [retA] at hr1; injection hr1 with hr1; subst hr1
          exact ⟨a.tmps.getD t undef, by simp [hf], by simpa [ev, Act.eval] using ev_rel hH hr (.tmp t)⟩
        | cell ad t =>
          simp only [retA] at hr1
          have hv : VRel E c (ts.getD ad undefA) (a.tmps.getD ad undef) := by simpa [ev, Act.eval] using ev_rel hH hr (.tmp ad)
          split at hr1
          · rename_i n ht
            obtain ⟨b, o', us, l', he, rfl, hlen, hl, hc⟩ := loadN_sound hH hr1 hv
            exact ⟨.agg us.toArray, by simp [hg, he, asAddr, run_loadVarN ht hlen hc], by simp only [VRel]; exact ⟨us, rfl, hl⟩⟩
          · rename_i n ht
            obtain ⟨b, o', u, he, hc, hu⟩ := load1_sound hH hr1 hv
            exact ⟨u, by simp [hg, he, asAddr, run_loadVar1 ht hc], hu⟩
          · cases hr1
      obtain ⟨v, k1, k2⟩ := key
      exact ⟨v :: vs, by simp only [List.mapM_cons, Sem.run_bind, k1, Result.andThen_ok, i1, Sem.run_pure], by simp only [LRel]; exact ⟨v, vs, rfl, k2, i2⟩⟩

theorem results_sound {fn : Func} {ts : List AV} {H : AH} {R : Kt} {c : Cx} {a : Act} (h : retW P fn ts H R) (hH : HRel E c H) (hr : LRel E c ts a.tmps.toList) : ∃ v r, (results fn a.tmps).run P c.w = .ok v c.w ∧ R r H ∧ VRel E c r v := by
  unfold retW at h
  split at h
  · rename_i t ht
    have hres : fn.results = #[.tmp t] := by
      have := congrArg List.toArray ht
      simpa using this
    refine ⟨a.tmps.getD t undef, _, ?_, h, by simpa [ev, Act.eval] using ev_rel hH hr (.tmp t)⟩
    simp [results, hres]
  · split at h
    · rename_i hc
      simp only [Bool.and_eq_true, bne_iff_ne] at hc
      refine ⟨.tuple (fn.results.toList.map (tmpV a)).toArray, _, ?_, h, ?_⟩
      · simp only [results, Array.mapM_eq_mapM_toList, Sem.run_bind, Sem.run_map]
        rw [(results_list (P := P) hH hr _ (fun t => rfl) fn.results.toList hc.1).1]
        simp only [Result.andThen_ok]
        have : ¬ ((fn.results.toList.map (tmpV a)).toArray.size = 1) := by simpa using hc.2
        rw [dif_neg this]
        rfl
      · simp only [VRel]; exact ⟨_, rfl, (results_list (P := P) hH hr (fun r => pure (tmpV a r)) (fun t => rfl) fn.results.toList hc.1).2⟩
    · obtain ⟨r, hp, hR⟩ := h
      unfold retPack at hp
      split at hp
      · rename_i x hx
        injection hp with hp; subst hp
        obtain ⟨vs, k1, k2⟩ := results_any (P := P) hH hr (resF a.tmps) (fun t => rfl) (fun ad t => rfl) fn.results.toList _ hx
        simp only [LRel] at k2
        obtain ⟨u, us, rfl, k2, rfl⟩ := k2
        refine ⟨u, x, ?_, hR, k2⟩
        simp only [results_eq, Array.mapM_eq_mapM_toList, Sem.run_bind, Sem.run_map]
        rw [k1]
        simp
      · rename_i xs hne hx
        injection hp with hp; subst hp
        obtain ⟨vs, k1, k2⟩ := results_any (P := P) hH hr (resF a.tmps) (fun t => rfl) (fun ad t => rfl) fn.results.toList _ hx
        refine ⟨.tuple vs.toArray, _, ?_, hR, by simp only [VRel]; exact ⟨vs, rfl, k2⟩⟩
        simp only [results_eq, Array.mapM_eq_mapM_toList, Sem.run_bind, Sem.run_map]
        rw [k1]
        simp only [Result.andThen_ok]
        have : ¬ (vs.toArray.size = 1) := by
          intro h1
          have hl := k2.length
          have : xs.length = 1 := by rw [hl]; simpa using h1
          obtain ⟨y, rfl⟩ := List.length_eq_one_iff.1 this
          exact hne y rfl
        rw [dif_neg this]
        rfl
      · cases hp

/-- A FUNCTION's CONTRACT OUT OF ITS CODE. -/
theorem calls_of_body {f : FuncId} {fn : Func} {n : Ann} {args : List AV} {H : AH} {R : Kt} (hf : P.funcs[f]? = some fn) (h : bodyW E P fn n args H R) {c : Cx} {vs : List Value} (hH : HRel E c H) (hv : LRel E c args vs) :
    Calls P f vs.toArray c.w fun e w' => ∃ r v c' H', e = .returned v ∧ c'.w = w' ∧ R r H' ∧ HRel E c' H' ∧ VRel E c' r v ∧ Later c c' := by
  unfold bodyW at h
  split at h
  · rename_i code hb
    refine calls_of_wp hf hb (wp_mono (wpC_sound code n _ _ H h c _ hH ?_ rfl) ?_)
    · have hlen := hv.length
      simp only [Array.toList_append, Array.toList_replicate, List.size_toArray]
      rw [hlen]
      exact hv.append (LRel.replicate (by simp [undefA, undef, VRel]) _)
    · rintro e a' w' ⟨e', ts', c', H', rfl, he, hq, h1, h2, h3, h4, h5⟩
      have fin : retW P fn ts' H' R → a'.defers = [] ∧ ∃ v, (results fn a'.tmps).run P c'.w = .ok v c'.w ∧ ∃ r u c'' H'', Ending.returned v = .returned u ∧ c''.w = c'.w ∧ R r H'' ∧ HRel E c'' H'' ∧ VRel E c'' r u ∧ Later c c'' := by
        intro hq
        obtain ⟨v, r, k1, k2, k3⟩ := results_sound (P := P) hq h1 h2
        exact ⟨h3, v, k1, r, v, c', H', rfl, rfl, k2, h1, k3, h4⟩
      cases e with
      | normal => cases e' <;> simp only [exitRel] at he; exact fin hq
      | ret => cases e' <;> simp only [exitRel] at he; exact fin hq
      | exit i => cases e' <;> simp only [exitRel] at he; exact hq.elim
      | goto l => simp only [exitRel] at he
      | panic ch => simp only [exitRel] at he
      | outgrown => simp only [exitRel] at he
  · exact h.elim

theorem acalls_of_body {k : Nat} {fn : Func} {n : Ann} {args : List AV} {H : AH} {R : Kt} (hf : P.funcs[E.fn k]? = some fn) (hn : (fn.name == "runtime.NumGoroutine") = false) (h : bodyW E P fn n args H R) : ACalls E P k args H R := by
  intro c vs hH hv o a next Q hnext
  have hb : fn.body.isNone = false := by
    unfold bodyW at h
    split at h
    · rename_i code hb; simp [hb]
    · exact h.elim
  have hrun : (callFunc (E.fn k) vs.toArray).run P c.w = .ok (.enter (E.fn k) vs.toArray) c.w := by
    have hn' : ¬ ((fn.name == "runtime.NumGoroutine") = true) := by rw [hn]; simp
    have hb' : ¬ (fn.body.isNone = true) := by rw [hb]; simp
    simp only [callFunc, Sem.run_bind, run_program, Result.andThen_ok, hf, if_neg hn', if_neg hb', Sem.run_pure]
  rw [hrun]
  simp only [Oper.upon]
  refine (calls_of_body hf h hH hv).mono ?_
  rintro e w' ⟨r, v, c', H', rfl, rfl, h1, h2, h3, h4⟩
  exact hnext v c'.w ⟨r, c', H', rfl, h1, h2, h3, h4⟩
end
end Go.Sc
