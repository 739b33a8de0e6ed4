/-
  api.Tell: the code in an error.
-/
import Derived.Test.YtdhcpnachceklaaDoorScAtLassoHolds
import Derived.Below
namespace Go.Proofs.YtdhcpnachceklaaDoor
open Go.RowKit Go.Extern.Stop Go.Stop Go.Extern

theorem tell_nil (w : World) : Calls Tryd.prog 31 #[.nilIface] w fun e w' => e = .returned (.int .i64 0) ∧ Below w.heap.size w w' := by
  go_enter Tryd.func31, Tryd.ntmps31
  go_wp2
  go_ret
  exact ⟨rfl, Below.refl _ _⟩

set_option maxRecDepth 100000 in
set_option maxHeartbeats 4000000 in
theorem tell_hit (k : Int) (w : World) (hg : w.cell? ⟨1, 0, none⟩ = some (.iface 111 (.agg #[.pointer (some ⟨5, 34, none⟩)]))) : Calls Tryd.prog 31 #[.iface 30 (.int .i64 k)] w fun e w' => e = .returned (.int .i64 k) ∧ Below w.heap.size w w' := by
  have hlt : 1 < w.heap.size := by
    rcases Nat.lt_or_ge 1 w.heap.size with h | h
    · exact h
    · simp [World.cell?, Array.getElem?_eq_none h] at hg
  have hgA : (w.alloc (.cells #[.int .i64 0] 30)).cell? ⟨1, 0, none⟩ = some (.iface 111 (.agg #[.pointer (some ⟨5, 34, none⟩)])) := by
    rw [World.cell?_alloc_lt _ _ ⟨1, 0, none⟩ hlt]; exact hg
  have htA : (w.alloc (.cells #[.int .i64 0] 30)).cell? ⟨w.heap.size, 0, none⟩ = some (.int .i64 0) := by simp
  have hfA : (w.alloc (.cells #[.int .i64 0] 30)).frozen? ⟨w.heap.size, 0, none⟩ = false := by simp
  go_enter Tryd.func31, Tryd.ntmps31
  go_wp2_with (first | (go_at_call 40; refine (as_hit k _ (.int .i64 0) _ hgA htA hfA).mono ?_; rintro e w' ⟨rfl, rfl⟩))
  go_ret
  refine ⟨rfl, ?_⟩
  repeat (first | exact Below.refl _ _ | refine Below.alloc ?_ (by first | (simp; done) | (simp; omega)) _)
set_option maxRecDepth 100000 in
set_option maxHeartbeats 4000000 in
theorem tell_at (k : Int) (p : Addr) (w : World) (hg : w.cell? ⟨1, 0, none⟩ = some (.iface 111 (.agg #[.pointer (some ⟨5, 34, none⟩)]))) (hp : w.cell? p = some (.int .i64 k)) : Calls Tryd.prog 31 #[.iface 76 (.pointer (some p))] w fun e w' => e = .returned (.int .i64 k) ∧ Below w.heap.size w w' := by
  have hlt : 1 < w.heap.size := by
    rcases Nat.lt_or_ge 1 w.heap.size with h | h
    · exact h
    · simp [World.cell?, Array.getElem?_eq_none h] at hg
  have hgA : (w.alloc (.cells #[.int .i64 0] 30)).cell? ⟨1, 0, none⟩ = some (.iface 111 (.agg #[.pointer (some ⟨5, 34, none⟩)])) := by
    rw [World.cell?_alloc_lt _ _ ⟨1, 0, none⟩ hlt]; exact hg
  have htA : (w.alloc (.cells #[.int .i64 0] 30)).cell? ⟨w.heap.size, 0, none⟩ = some (.int .i64 0) := by simp
  have hfA : (w.alloc (.cells #[.int .i64 0] 30)).frozen? ⟨w.heap.size, 0, none⟩ = false := by simp
  have hpl : p.block < w.heap.size := by
    rcases Nat.lt_or_ge p.block w.heap.size with h | h
    · exact h
    · simp [World.cell?, Array.getElem?_eq_none h] at hp
  have hpA : (w.alloc (.cells #[.int .i64 0] 30)).cell? p = some (.int .i64 k) := by
    rw [World.cell?_alloc_lt _ _ p hpl]; exact hp
  go_enter Tryd.func31, Tryd.ntmps31
  go_wp2_with (first | (go_at_call 40; refine (as_at k p _ (.int .i64 0) _ hgA htA hfA hpA).mono ?_; rintro e w' ⟨rfl, rfl⟩))
  go_ret
  refine ⟨rfl, ?_⟩
  repeat (first | exact Below.refl _ _ | refine Below.alloc ?_ (by first | (simp; done) | (simp; omega)) _)
end Go.Proofs.YtdhcpnachceklaaDoor
