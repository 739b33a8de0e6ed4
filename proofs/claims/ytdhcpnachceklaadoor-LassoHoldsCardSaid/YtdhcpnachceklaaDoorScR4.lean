/-
  A CONTRACT OUT OF A WALK OF THE KIT's OWN: a call that leaves all old memory as it was, and answers without memory.
-/
import Derived.Test.YtdhcpnachceklaaDoorScR2
import Derived.Test.YtdhcpnachceklaaDoorScO3
namespace Go.Sc
open Go Go.RowKit
section
variable {E : Env} {P : Program}
theorem FX.ofCalls {k : Nat} {fn : Func} {args : List AV} {r : AV} (hf : P.funcs[E.fn k]? = some fn) (hn : (fn.name == "runtime.NumGoroutine") = false) (hb : fn.body.isNone = false) (ca : AV.closedL args) (hfl : r.flat) (hcl : r.closed)
    (h : ∀ (c : Cx) (vs : List Value), (∀ b, c.fz b → b < c.w.heap.size) → (∀ g cs, E.gl g = some cs → CRel E c cs (E.gn g) 0) → LRel E c args vs →
      Calls P (E.fn k) vs.toArray c.w fun e w' => ∃ v, e = .returned v ∧ Below c.w.heap.size c.w w' ∧ VRel E c r v) : FX E P k args r where
  ca := ca
  cr := hcl
  ok := by
    intro n c vs hH hv o a next Q hnext
    have hrun : (callFunc (E.fn k) vs.toArray).run P c.w = .ok (.enter (E.fn k) vs.toArray) c.w := by
      have hn' : ¬ ((fn.name == "runtime.NumGoroutine") = true) := by rw [hn]; simp
      have hb' : ¬ (fn.body.isNone = true) := by rw [hb]; simp
      simp only [callFunc, Sem.run_bind, run_program, Result.andThen_ok, hf, if_neg hn', if_neg hb', Sem.run_pure]
    rw [hrun]
    simp only [Oper.upon]
    have hgen : ∀ b, c.gen b = none := fun b => hH.out b (by simp)
    refine (h c vs hH.fzlt (fun g cs e => (hH.glob g cs e).2) hv).mono ?_
    rintro e w' ⟨v, rfl, bel, hrv⟩
    have hle : c.le { c with w := w' } := ⟨Nat.le_refl _, fun b hb => ⟨hb, bel.block b (hH.fzlt b hb)⟩, fun b o hb => ⟨.inr hb, cell_of_heap (bel.block b (hH.fclt b o hb)) _ _⟩, fun _ _ _ e => ⟨e, rfl, rfl, rfl, rfl⟩, fun _ _ _ _ _ h => h⟩
    have hL : Later c { c with w := w' } := {
      le := hle
      os := bel.os
      tape := bel.tape
      output := bel.output
      size := bel.size
      keep := fun i hi _ => bel.block i hi
      own := fun b hb => .inl ⟨b, hb, rfl⟩
      fz := fun i hi => .inl hi
      fc := fun i j hi => .inl hi }
    refine hnext v w' ⟨r, { c with w := w' }, ⟨[], n⟩, rfl, rfl, ⟨hH.ctr, hH.out, by simp, fun b hb => absurd (hgen b) hb, by simp, fun b _ hb => absurd (hgen b) hb, fun b hb => absurd (hgen b) hb, fun b hb => Nat.lt_of_lt_of_le (hH.fzlt b hb) bel.size, fun b j hb => Nat.lt_of_lt_of_le (hH.fclt b j hb) bel.size, hH.globLe hle⟩, VRel.ofFlat r v hfl hrv, hL⟩
/-- api.Tell: the code in an error -/
theorem FX.tell {k g X : Nat} {fn : Func} {ev : Value} (hf : P.funcs[E.fn k]? = some fn) (hn : (fn.name == "runtime.NumGoroutine") = false) (hb : fn.body.isNone = false) (hty : E.ty 1 = X) (hgl : E.gl g = some [.val ev])
    (h0 : ∀ w, Calls P (E.fn k) #[.nilIface] w fun e w' => e = .returned (.int .i64 0) ∧ Below w.heap.size w w')
    (h1 : ∀ z w, w.cell? ⟨E.gn g, 0, none⟩ = some ev → Calls P (E.fn k) #[.iface X (.int .i64 z)] w fun e w' => e = .returned (.int .i64 z) ∧ Below w.heap.size w w') (e : Int) : FX E P k [Er e] (Z e) := by
  refine FX.ofCalls hf hn hb (by simp [AV.closedL, Er_closed]) (by simp [AV.flat]) (by simp [AV.closed]) fun c vs _ hg hv => ?_
  obtain ⟨v, rfl, hr⟩ := hv.one'
  by_cases he : e = 0
  · subst he
    simp only [Er, if_true, VRel] at hr
    subst hr
    refine (h0 c.w).mono fun e w' h => ?_
    exact ⟨_, h.1, h.2, by simp [VRel]⟩
  · simp only [Er, he, if_false, VRel] at hr
    obtain ⟨u, rfl, _, rfl⟩ := hr
    have hc := hg g _ hgl
    simp only [CRel, VRel] at hc
    obtain ⟨⟨_, u, hu, rfl⟩, _⟩ := hc
    rw [hty]
    refine (h1 e c.w hu).mono fun e w' h => ?_
    exact ⟨_, h.1, h.2, by simp [VRel]⟩
/-- of an error at a place -/
theorem FX.tellAt {k g T : Nat} {fn : Func} {ev : Value} (hf : P.funcs[E.fn k]? = some fn) (hn : (fn.name == "runtime.NumGoroutine") = false) (hb : fn.body.isNone = false) (hty : E.ty 2 = T) (hgl : E.gl g = some [.val ev])
    (h1 : ∀ z p w, w.cell? ⟨E.gn g, 0, none⟩ = some ev → w.cell? p = some (.int .i64 z) → Calls P (E.fn k) #[.iface T (.pointer (some p))] w fun e w' => e = .returned (.int .i64 z) ∧ Below w.heap.size w w') (e p : Int) : FX E P k [At e p] (Z e) := by
  refine FX.ofCalls hf hn hb (by simp [AV.closedL, At, AV.closed]) (by simp [AV.flat]) (by simp [AV.closed]) fun c vs _ hg hv => ?_
  obtain ⟨v, rfl, hr⟩ := hv.one'
  simp only [At, VRel, CRel] at hr
  obtain ⟨u, rfl, _, b, o, rfl, ⟨_, x, hx, rfl⟩, _⟩ := hr
  have hc := hg g _ hgl
  simp only [CRel, VRel] at hc
  obtain ⟨⟨_, u, hu, rfl⟩, _⟩ := hc
  rw [hty]
  refine (h1 e ⟨b, o, none⟩ c.w hu hx).mono fun e w' h => ?_
  exact ⟨_, h.1, h.2, by simp [VRel]⟩
end
end Go.Sc
