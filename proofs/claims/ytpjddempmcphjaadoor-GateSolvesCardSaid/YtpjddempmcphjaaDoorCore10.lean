/- errors.As(err, *Errno): Go's own text walked, after the guide's worked walk (its toy 'toyas'). errors.As at *At. api.Tell: the code in an error. VARIABLES: a known pair of numbers. (of the seat YtpjddempmcphjaaDoor) -/
import Derived.Test.YtpjddempmcphjaaDoorCore9
import Derived.Test.YtpjddempmcphjaaDoorProg
import Derived.WalkKit
import Derived.LaidEql
import Derived.Stop.Asserts
import Derived.RowKitTokens
import Derived.Below
import Derived.ChangeSame
import Derived.ChangeAt
import Derived.KernelRfl
namespace Go.Proofs.YtpjddempmcphjaaDoor
open Go.RowKit Go.Extern.Stop Go.Stop Go.Extern

theorem Tryd.valueOfT (t : Addr) (w : World) : (ReflectliteValue.unpack (.iface 67 (.pointer (some t)))).run Tryd.prog w
    = .ok (.agg #[.pointer (some ⟨2, 67, none⟩), .pointer (some ⟨w.heap.size, 0, none⟩), .int .u64 150]) (w.alloc (.cells #[.pointer (some t)] 67)) := by kernel_rfl
theorem Tryd.typeT (a : Addr) (w : World) : (ReflectliteValue.methodAny (ReflectliteValue.valueError "reflectlite.Value.Type" 0) (fun t _ _ _ => ReflectliteType.toType t) #[.agg #[.pointer (some ⟨2, 67, none⟩), .pointer (some a), .int .u64 150]]).run Tryd.prog w
    = .ok (.iface 81 (.agg #[.pointer (some ⟨2, 67, none⟩)])) w := by kernel_rfl
theorem Tryd.methodKind (h : Value) (w : World) : (Go.method 222 81 (.agg #[h]) "Kind").run Tryd.prog w = .ok (47, h) w := by kernel_rfl
theorem Tryd.kindT (w : World) : ((ReflectliteType.abiMethod fun t => (fun a : Nat => Value.int IntKind.u8 (a : Int)) <$> Rtype.kind t) #[.pointer (some ⟨2, 67, none⟩)]).run Tryd.prog w = .ok (.int .u8 22) w := by kernel_rfl
theorem Tryd.kindX (w : World) : ((ReflectliteType.abiMethod fun t => (fun a : Nat => Value.int IntKind.u8 (a : Int)) <$> Rtype.kind t) #[.pointer (some ⟨2, 24, none⟩)]).run Tryd.prog w = .ok (.int .u8 2) w := by kernel_rfl
theorem rlm (z : Sem Value) (f : TypeId → Addr → Nat → Nat → Sem Value) (v : Value) :
    ReflectliteValue.method z f #[v] = (do match ← ReflectliteValue.parts v with | none => z | some (t, a, fl) => f t a fl (fl % 32)) := rfl
theorem Tryd.partsT (a : Addr) (w : World) : (ReflectliteValue.parts (.agg #[.pointer (some ⟨2, 67, none⟩), .pointer (some a), .int .u64 150])).run Tryd.prog w = .ok (some (67, a, 150)) w := by kernel_rfl
theorem Tryd.isNilT (a p : Addr) (W : World) (ha : W.cell? a = some (.pointer (some p))) :
    (ReflectliteValue.method (ReflectliteValue.valueError "reflectlite.Value.IsNil" 0) ReflectliteValue.isNil #[.agg #[.pointer (some ⟨2, 67, none⟩), .pointer (some a), .int .u64 150]]).run Tryd.prog W = .ok (.bool false) W := by
  rw [rlm]
  simp only [Sem.run_bind, Tryd.partsT, Result.andThen]
  simp [ReflectliteValue.isNil, loadVar, isAgg, underlying, Tryd.underlying67, ha, Result.andThen]
theorem Tryd.methodElem (h : Value) (w : World) : (Go.method 222 81 (.agg #[h]) "Elem").run Tryd.prog w = .ok (59, .agg #[h]) w := by kernel_rfl
theorem Tryd.methodImplements (h : Value) (w : World) : (Go.method 222 81 (.agg #[h]) "Implements").run Tryd.prog w = .ok (60, .agg #[h]) w := by kernel_rfl
theorem Tryd.methodAssignableTo (h : Value) (w : World) : (Go.method 222 81 (.agg #[h]) "AssignableTo").run Tryd.prog w = .ok (57, .agg #[h]) w := by kernel_rfl
theorem Tryd.elemT (w : World) : (ReflectliteType.method ReflectliteType.elem #[.agg #[.pointer (some ⟨2, 67, none⟩)]]).run Tryd.prog w = .ok (.iface 81 (.agg #[.pointer (some ⟨2, 24, none⟩)])) w := by kernel_rfl
theorem Tryd.implementsX (w : World) : (ReflectliteType.relation "Implements" ReflectliteType.implements_ #[.agg #[.pointer (some ⟨2, 24, none⟩)], .iface 81 (.agg #[.pointer (some ⟨2, 33, none⟩)])]).run Tryd.prog w = .ok (.bool true) w := by kernel_rfl
theorem Tryd.typeOfX (v : Value) (w : World) : (ReflectliteType.typeOf #[.iface 24 v]).run Tryd.prog w = .ok (.iface 81 (.agg #[.pointer (some ⟨2, 24, none⟩)])) w := by kernel_rfl
theorem Tryd.assignableX (w : World) : (ReflectliteType.relation "AssignableTo" ReflectliteType.assignableTo #[.agg #[.pointer (some ⟨2, 24, none⟩)], .iface 81 (.agg #[.pointer (some ⟨2, 24, none⟩)])]).run Tryd.prog w = .ok (.bool true) w := by kernel_rfl
theorem Tryd.typeOfAt (v : Value) (w : World) : (ReflectliteType.typeOf #[.iface 54 v]).run Tryd.prog w = .ok (.iface 81 (.agg #[.pointer (some ⟨2, 54, none⟩)])) w := by kernel_rfl
theorem Tryd.assignableAt (w : World) : (ReflectliteType.relation "AssignableTo" ReflectliteType.assignableTo #[.agg #[.pointer (some ⟨2, 54, none⟩)], .iface 81 (.agg #[.pointer (some ⟨2, 24, none⟩)])]).run Tryd.prog w = .ok (.bool false) w := by kernel_rfl
theorem Tryd.valueOfX (k : Int) (w : World) : (ReflectliteValue.unpack (.iface 24 (.int .i64 k))).run Tryd.prog w
    = .ok (.agg #[.pointer (some ⟨2, 24, none⟩), .pointer (some ⟨w.heap.size, 0, none⟩), .int .u64 130]) (w.alloc (.cells #[.int .i64 k] 24)) := by kernel_rfl
theorem Tryd.elemOfT (w : World) : (Rtype.elem? 67).run Tryd.prog w = .ok (some 24) w := by kernel_rfl
theorem Tryd.mkX (p : Addr) (w : World) : (ReflectliteValue.mk 24 p ReflectliteValue.flagAddr).run Tryd.prog w = .ok (.agg #[.pointer (some ⟨2, 24, none⟩), .pointer (some p), .int .u64 386]) w := by kernel_rfl
theorem Tryd.elemVT (a p : Addr) (W : World) (ha : W.cell? a = some (.pointer (some p))) :
    (ReflectliteValue.method (ReflectliteValue.valueError "reflectlite.Value.Elem" 0) ReflectliteValue.elem #[.agg #[.pointer (some ⟨2, 67, none⟩), .pointer (some a), .int .u64 150]]).run Tryd.prog W
      = .ok (.agg #[.pointer (some ⟨2, 24, none⟩), .pointer (some p), .int .u64 386]) W := by
  rw [rlm]
  simp only [Sem.run_bind, Tryd.partsT, Result.andThen]
  simp [ReflectliteValue.elem, loadVar, isAgg, underlying, Tryd.underlying67, ha, Result.andThen, Tryd.elemOfT, Tryd.mkX]
theorem rls (v x : Value) : ReflectliteValue.set #[v, x] = (do
    let (some (dst, a, fl), some (src, b, _)) := (← ReflectliteValue.parts v, ← ReflectliteValue.parts x)
      | unsupported (.noEntry "extern/(internal/reflectlite.Value).Set.zeroValue")
    if fl / ReflectliteValue.flagAddr % 2 == 0 then unsupported (.noEntry "extern/(internal/reflectlite.Value).Set.unaddressable")
    let val ← loadVar src b
    if ← Rtype.directlyAssignable dst src then storeVar dst a val
    else if ← Rtype.implements dst src then
      if (← Rtype.kind src) == 20 then
        match val with
        | .nilIface => unsupported (.noEntry "extern/reflectlite: a nil value of one interface type handed on as a value of another")
        | _ => storeVar dst a val
      else storeVar dst a (.iface src val)
    else panicString ("reflectlite.Set: value of type " ++ (← Rtype.spelt src) ++ " is not assignable to type " ++ (← Rtype.spelt dst))
    pure (.tuple #[])) := rfl
theorem Tryd.partsXa (a : Addr) (w : World) : (ReflectliteValue.parts (.agg #[.pointer (some ⟨2, 24, none⟩), .pointer (some a), .int .u64 386])).run Tryd.prog w = .ok (some (24, a, 386)) w := by kernel_rfl
theorem Tryd.partsX (a : Addr) (w : World) : (ReflectliteValue.parts (.agg #[.pointer (some ⟨2, 24, none⟩), .pointer (some a), .int .u64 130])).run Tryd.prog w = .ok (some (24, a, 130)) w := by kernel_rfl
theorem Tryd.directX (w : World) : (Rtype.directlyAssignable 24 24).run Tryd.prog w = .ok true w := by kernel_rfl
theorem Tryd.setX (ta b : Addr) (k : Int) (old : Value) (W : World) (hb : W.cell? b = some (.int .i64 k)) (ht : W.cell? ta = some old) (hf : W.frozen? ta = false) :
    (ReflectliteValue.set #[.agg #[.pointer (some ⟨2, 24, none⟩), .pointer (some ta), .int .u64 386], .agg #[.pointer (some ⟨2, 24, none⟩), .pointer (some b), .int .u64 130]]).run Tryd.prog W
      = .ok (.tuple #[]) (W.setCell ta (.int .i64 k)) := by
  rw [rls]
  simp only [Sem.run_bind, Tryd.partsXa, Tryd.partsX, Result.andThen]
  simp [ReflectliteValue.flagAddr, loadVar, isAgg, underlying, Tryd.underlying24, hb, Result.andThen, Tryd.directX, storeVar, Value.cells, storeCells, Addr.add]
  rw [run_store Tryd.prog W ta _ _ (by rfl)]
  simp [ht, hf]

set_option maxHeartbeats 4000000 in
theorem as_hit (k : Int) (t : Addr) (old : Value) (w : World) (hg : w.cell? ⟨1, 0, none⟩ = some (.iface 81 (.agg #[.pointer (some ⟨2, 33, none⟩)]))) (ht0 : w.cell? t = some old) (hf0 : w.frozen? t = false) :
    Calls Tryd.prog 25 #[.iface 24 (.int .i64 k), .iface 67 (.pointer (some t))] w fun ev w' => ev = .returned (.bool true) ∧ w' = ((((w.alloc (.cells #[.pointer (some t)] 67)).alloc (.cells #[.pointer (some ⟨2, 67, none⟩), .pointer (some ⟨w.heap.size, 0, none⟩), .int .u64 150] 71)).alloc (.cells #[.pointer (some ⟨2, 67, none⟩), .pointer (some ⟨w.heap.size, 0, none⟩), .int .u64 150] 71)).alloc (.cells #[.int .i64 k] 24)).setCell t (.int .i64 k) := by
  have h6 := @run_callFunc_extern Tryd.prog 26 _ (fun args => ReflectliteValue.unpack (args.getD 0 (.tuple #[]))) Tryd.func26 (by kernel_rfl) (by kernel_rfl) (by kernel_rfl) (by kernel_rfl)
  have h7 := @run_callFunc_extern Tryd.prog 27 _ (ReflectliteValue.methodAny (ReflectliteValue.valueError "reflectlite.Value.Type" 0) (fun t _ _ _ => ReflectliteType.toType t)) Tryd.func27 (by kernel_rfl) (by kernel_rfl) (by kernel_rfl) (by kernel_rfl)
  have h8 := @run_callFunc_extern Tryd.prog 28 _ (ReflectliteValue.method (ReflectliteValue.valueError "reflectlite.Value.IsNil" 0) ReflectliteValue.isNil) Tryd.func28 (by kernel_rfl) (by kernel_rfl) (by kernel_rfl) (by kernel_rfl)
  have h27 := @run_callFunc_extern Tryd.prog 47 _ (ReflectliteType.abiMethod fun t => do pure (.int .u8 (← Rtype.kind t))) Tryd.func47 (by kernel_rfl) (by kernel_rfl) (by kernel_rfl) (by kernel_rfl)
  have h37 := @run_callFunc_extern Tryd.prog 59 _ (ReflectliteType.method ReflectliteType.elem) Tryd.func59 (by kernel_rfl) (by kernel_rfl) (by kernel_rfl) (by kernel_rfl)
  have h38 := @run_callFunc_extern Tryd.prog 60 _ (ReflectliteType.relation "Implements" ReflectliteType.implements_) Tryd.func60 (by kernel_rfl) (by kernel_rfl) (by kernel_rfl) (by kernel_rfl)
  have h10 := @run_callFunc_extern Tryd.prog 30 _ ReflectliteType.typeOf Tryd.func30 (by kernel_rfl) (by kernel_rfl) (by kernel_rfl) (by kernel_rfl)
  have h35 := @run_callFunc_extern Tryd.prog 57 _ (ReflectliteType.relation "AssignableTo" ReflectliteType.assignableTo) Tryd.func57 (by kernel_rfl) (by kernel_rfl) (by kernel_rfl) (by kernel_rfl)
  have h11 := @run_callFunc_extern Tryd.prog 31 _ (ReflectliteValue.method (ReflectliteValue.valueError "reflectlite.Value.Elem" 0) ReflectliteValue.elem) Tryd.func31 (by kernel_rfl) (by kernel_rfl) (by kernel_rfl) (by kernel_rfl)
  have h12 := @run_callFunc_extern Tryd.prog 32 _ ReflectliteValue.set Tryd.func32 (by kernel_rfl) (by kernel_rfl) (by kernel_rfl) (by kernel_rfl)
  have tO := Tryd.typeOfX
  have mA := Tryd.methodAssignableTo
  have a25 := Tryd.assignableX
  have v25 := Tryd.valueOfX
  have f6 := Tryd.valueOfT
  have f7 := Tryd.typeT
  have mK := Tryd.methodKind
  have mE := Tryd.methodElem
  have mI := Tryd.methodImplements
  have k27 := Tryd.kindT
  have k25 := Tryd.kindX
  have e27 := Tryd.elemT
  have i25 := Tryd.implementsX
  have n8 := Tryd.isNilT ⟨w.heap.size, 0, none⟩ t ((w.alloc (.cells #[.pointer (some t)] 67)).alloc (.cells #[.pointer (some ⟨2, 67, none⟩), .pointer (some ⟨w.heap.size, 0, none⟩), .int .u64 150] 71)) (by simp)
  have hlt : 1 < w.heap.size := by
    rcases Nat.lt_or_ge 1 w.heap.size with h | h
    · exact h
    · simp [World.cell?, Array.getElem?_eq_none h] at hg
  have hg2 : ((w.alloc (.cells #[.pointer (some t)] 67)).alloc (.cells #[.pointer (some ⟨2, 67, none⟩), .pointer (some ⟨w.heap.size, 0, none⟩), .int .u64 150] 71)).cell? ⟨1, 0, none⟩ = some (.iface 81 (.agg #[.pointer (some ⟨2, 33, none⟩)])) := by
    rw [World.cell?_alloc_lt _ _ ⟨1, 0, none⟩ (by first | (simp; done) | (simp; omega)), World.cell?_alloc_lt _ _ ⟨1, 0, none⟩ hlt]; exact hg
  have htl : t.block < w.heap.size := by
    rcases Nat.lt_or_ge t.block w.heap.size with h | h
    · exact h
    · simp [World.cell?, Array.getElem?_eq_none h] at ht0
  have el := Tryd.elemVT ⟨w.heap.size, 0, none⟩ t (((w.alloc (.cells #[.pointer (some t)] 67)).alloc (.cells #[.pointer (some ⟨2, 67, none⟩), .pointer (some ⟨w.heap.size, 0, none⟩), .int .u64 150] 71)).alloc (.cells #[.pointer (some ⟨2, 67, none⟩), .pointer (some ⟨w.heap.size, 0, none⟩), .int .u64 150] 71)) (by rw [World.cell?_alloc_lt _ _ ⟨w.heap.size, 0, none⟩ (by simp; omega)]; simp)
  have st := Tryd.setX t ⟨w.heap.size + 1 + 1 + 1, 0, none⟩ k old ((((w.alloc (.cells #[.pointer (some t)] 67)).alloc (.cells #[.pointer (some ⟨2, 67, none⟩), .pointer (some ⟨w.heap.size, 0, none⟩), .int .u64 150] 71)).alloc (.cells #[.pointer (some ⟨2, 67, none⟩), .pointer (some ⟨w.heap.size, 0, none⟩), .int .u64 150] 71)).alloc (.cells #[.int .i64 k] 24))
    (by rw [World.cell?_alloc_at _ _ _ _ (by simp)]; rfl)
    (by rw [World.cell?_alloc_lt _ _ t (by simp; omega), World.cell?_alloc_lt _ _ t (by simp; omega), World.cell?_alloc_lt _ _ t (by simp; omega), World.cell?_alloc_lt _ _ t htl]; exact ht0)
    (by rw [World.frozen?_alloc_old _ _ t (by simp; omega), World.frozen?_alloc_old _ _ t (by simp; omega), World.frozen?_alloc_old _ _ t (by simp; omega), World.frozen?_alloc_old _ _ t (Nat.ne_of_lt htl)]; exact hf0)
  go_enter Tryd.func25, Tryd.ntmps25
  go_wp2
  refine wp_loop_rounds 1 ?_
  rw [rounds_succ]
  go_wp2
  go_ret
  exact ⟨rfl, rfl⟩
end Go.Proofs.YtpjddempmcphjaaDoor
namespace Go.Proofs.YtpjddempmcphjaaDoor
open Go.RowKit Go.Extern.Stop Go.Stop Go.Extern
theorem Tryd.assertAs (p : Addr) (w : World) : (Instr.typeAssert (.iface 54 (.pointer (some p))) 33 86 true).run Tryd.prog w = .ok (.tuple #[.nilIface, .bool false]) w := run_typeAssert_lacksB Tryd.underlying86 (by kernel_rfl) (by kernel_rfl) _ _ w
theorem Tryd.assertUnwrap (p : Addr) (w : World) : (Instr.typeAssert (.iface 54 (.pointer (some p))) 33 61 true).run Tryd.prog w = .ok (.tuple #[.iface 54 (.pointer (some p)), .bool true]) w := run_typeAssert_hasB Tryd.underlying61 (by kernel_rfl) _ _ w
theorem Tryd.methodUnwrap (p : Addr) (w : World) : (Go.method 222 54 (.pointer (some p)) "Unwrap").run Tryd.prog w = .ok (52, .pointer (some p)) w := by kernel_rfl
theorem unwrap (k : Int) (p : Addr) (w : World) (hp : w.cell? p = some (.int .i64 k)) : Calls Tryd.prog 52 #[.pointer (some p)] w fun e w' => e = .returned (.iface 24 (.int .i64 k)) ∧ w' = w := by
  go_enter Tryd.func52, Tryd.ntmps52
  go_wp2
  go_ret
  exact ⟨rfl, rfl⟩

set_option maxRecDepth 100000 in
set_option maxHeartbeats 4000000 in
theorem as_at (k : Int) (p t : Addr) (old : Value) (w : World) (hg : w.cell? ⟨1, 0, none⟩ = some (.iface 81 (.agg #[.pointer (some ⟨2, 33, none⟩)]))) (ht0 : w.cell? t = some old) (hf0 : w.frozen? t = false) (hp : w.cell? p = some (.int .i64 k)) :
    Calls Tryd.prog 25 #[.iface 54 (.pointer (some p)), .iface 67 (.pointer (some t))] w fun ev w' => ev = .returned (.bool true) ∧ w' = ((((w.alloc (.cells #[.pointer (some t)] 67)).alloc (.cells #[.pointer (some ⟨2, 67, none⟩), .pointer (some ⟨w.heap.size, 0, none⟩), .int .u64 150] 71)).alloc (.cells #[.pointer (some ⟨2, 67, none⟩), .pointer (some ⟨w.heap.size, 0, none⟩), .int .u64 150] 71)).alloc (.cells #[.int .i64 k] 24)).setCell t (.int .i64 k) := by
  have h6 := @run_callFunc_extern Tryd.prog 26 _ (fun args => ReflectliteValue.unpack (args.getD 0 (.tuple #[]))) Tryd.func26 (by kernel_rfl) (by kernel_rfl) (by kernel_rfl) (by kernel_rfl)
  have h7 := @run_callFunc_extern Tryd.prog 27 _ (ReflectliteValue.methodAny (ReflectliteValue.valueError "reflectlite.Value.Type" 0) (fun t _ _ _ => ReflectliteType.toType t)) Tryd.func27 (by kernel_rfl) (by kernel_rfl) (by kernel_rfl) (by kernel_rfl)
  have h8 := @run_callFunc_extern Tryd.prog 28 _ (ReflectliteValue.method (ReflectliteValue.valueError "reflectlite.Value.IsNil" 0) ReflectliteValue.isNil) Tryd.func28 (by kernel_rfl) (by kernel_rfl) (by kernel_rfl) (by kernel_rfl)
  have h27 := @run_callFunc_extern Tryd.prog 47 _ (ReflectliteType.abiMethod fun t => do pure (.int .u8 (← Rtype.kind t))) Tryd.func47 (by kernel_rfl) (by kernel_rfl) (by kernel_rfl) (by kernel_rfl)
  have h37 := @run_callFunc_extern Tryd.prog 59 _ (ReflectliteType.method ReflectliteType.elem) Tryd.func59 (by kernel_rfl) (by kernel_rfl) (by kernel_rfl) (by kernel_rfl)
  have h38 := @run_callFunc_extern Tryd.prog 60 _ (ReflectliteType.relation "Implements" ReflectliteType.implements_) Tryd.func60 (by kernel_rfl) (by kernel_rfl) (by kernel_rfl) (by kernel_rfl)
  have h10 := @run_callFunc_extern Tryd.prog 30 _ ReflectliteType.typeOf Tryd.func30 (by kernel_rfl) (by kernel_rfl) (by kernel_rfl) (by kernel_rfl)
  have h35 := @run_callFunc_extern Tryd.prog 57 _ (ReflectliteType.relation "AssignableTo" ReflectliteType.assignableTo) Tryd.func57 (by kernel_rfl) (by kernel_rfl) (by kernel_rfl) (by kernel_rfl)
  have h11 := @run_callFunc_extern Tryd.prog 31 _ (ReflectliteValue.method (ReflectliteValue.valueError "reflectlite.Value.Elem" 0) ReflectliteValue.elem) Tryd.func31 (by kernel_rfl) (by kernel_rfl) (by kernel_rfl) (by kernel_rfl)
  have h12 := @run_callFunc_extern Tryd.prog 32 _ ReflectliteValue.set Tryd.func32 (by kernel_rfl) (by kernel_rfl) (by kernel_rfl) (by kernel_rfl)
  have tO := Tryd.typeOfX
  have mA := Tryd.methodAssignableTo
  have a25 := Tryd.assignableX
  have tOa := Tryd.typeOfAt
  have ta1 := Tryd.assertAs p
  have ta2 := Tryd.assertUnwrap p
  have mU := Tryd.methodUnwrap p
  have a25a := Tryd.assignableAt
  have v25 := Tryd.valueOfX
  have f6 := Tryd.valueOfT
  have f7 := Tryd.typeT
  have mK := Tryd.methodKind
  have mE := Tryd.methodElem
  have mI := Tryd.methodImplements
  have k27 := Tryd.kindT
  have k25 := Tryd.kindX
  have e27 := Tryd.elemT
  have i25 := Tryd.implementsX
  have n8 := Tryd.isNilT ⟨w.heap.size, 0, none⟩ t ((w.alloc (.cells #[.pointer (some t)] 67)).alloc (.cells #[.pointer (some ⟨2, 67, none⟩), .pointer (some ⟨w.heap.size, 0, none⟩), .int .u64 150] 71)) (by simp)
  have hlt : 1 < w.heap.size := by
    rcases Nat.lt_or_ge 1 w.heap.size with h | h
    · exact h
    · simp [World.cell?, Array.getElem?_eq_none h] at hg
  have hg2 : ((w.alloc (.cells #[.pointer (some t)] 67)).alloc (.cells #[.pointer (some ⟨2, 67, none⟩), .pointer (some ⟨w.heap.size, 0, none⟩), .int .u64 150] 71)).cell? ⟨1, 0, none⟩ = some (.iface 81 (.agg #[.pointer (some ⟨2, 33, none⟩)])) := by
    rw [World.cell?_alloc_lt _ _ ⟨1, 0, none⟩ (by first | (simp; done) | (simp; omega)), World.cell?_alloc_lt _ _ ⟨1, 0, none⟩ hlt]; exact hg
  have htl : t.block < w.heap.size := by
    rcases Nat.lt_or_ge t.block w.heap.size with h | h
    · exact h
    · simp [World.cell?, Array.getElem?_eq_none h] at ht0
  have hpl : p.block < w.heap.size := by
    rcases Nat.lt_or_ge p.block w.heap.size with h | h
    · exact h
    · simp [World.cell?, Array.getElem?_eq_none h] at hp
  have hp3 : (((w.alloc (.cells #[.pointer (some t)] 67)).alloc (.cells #[.pointer (some ⟨2, 67, none⟩), .pointer (some ⟨w.heap.size, 0, none⟩), .int .u64 150] 71)).alloc (.cells #[.pointer (some ⟨2, 67, none⟩), .pointer (some ⟨w.heap.size, 0, none⟩), .int .u64 150] 71)).cell? p = some (.int .i64 k) := by
    rw [World.cell?_alloc_lt _ _ p (by simp; omega), World.cell?_alloc_lt _ _ p (by simp; omega), World.cell?_alloc_lt _ _ p hpl]; exact hp
  have el := Tryd.elemVT ⟨w.heap.size, 0, none⟩ t (((w.alloc (.cells #[.pointer (some t)] 67)).alloc (.cells #[.pointer (some ⟨2, 67, none⟩), .pointer (some ⟨w.heap.size, 0, none⟩), .int .u64 150] 71)).alloc (.cells #[.pointer (some ⟨2, 67, none⟩), .pointer (some ⟨w.heap.size, 0, none⟩), .int .u64 150] 71)) (by rw [World.cell?_alloc_lt _ _ ⟨w.heap.size, 0, none⟩ (by simp; omega)]; simp)
  have st := Tryd.setX t ⟨w.heap.size + 1 + 1 + 1, 0, none⟩ k old ((((w.alloc (.cells #[.pointer (some t)] 67)).alloc (.cells #[.pointer (some ⟨2, 67, none⟩), .pointer (some ⟨w.heap.size, 0, none⟩), .int .u64 150] 71)).alloc (.cells #[.pointer (some ⟨2, 67, none⟩), .pointer (some ⟨w.heap.size, 0, none⟩), .int .u64 150] 71)).alloc (.cells #[.int .i64 k] 24))
    (by rw [World.cell?_alloc_at _ _ _ _ (by simp)]; rfl)
    (by rw [World.cell?_alloc_lt _ _ t (by simp; omega), World.cell?_alloc_lt _ _ t (by simp; omega), World.cell?_alloc_lt _ _ t (by simp; omega), World.cell?_alloc_lt _ _ t htl]; exact ht0)
    (by rw [World.frozen?_alloc_old _ _ t (by simp; omega), World.frozen?_alloc_old _ _ t (by simp; omega), World.frozen?_alloc_old _ _ t (by simp; omega), World.frozen?_alloc_old _ _ t (Nat.ne_of_lt htl)]; exact hf0)
  go_enter Tryd.func25, Tryd.ntmps25
  go_wp2
  refine wp_loop_rounds 2 ?_
  rw [rounds_succ]
  go_wp2
  rw [rounds_succ]
  go_wp2
  go_ret
  exact ⟨rfl, rfl⟩
end Go.Proofs.YtpjddempmcphjaaDoor
namespace Go.Proofs.YtpjddempmcphjaaDoor
open Go.RowKit Go.Extern.Stop Go.Stop Go.Extern

theorem tell_nil (w : World) : Calls Tryd.prog 22 #[.nilIface] w fun e w' => e = .returned (.int .i64 0) ∧ Below w.heap.size w w' := by
  go_enter Tryd.func22, Tryd.ntmps22
  go_wp2
  go_ret
  exact ⟨rfl, Below.refl _ _⟩

set_option maxRecDepth 100000 in
set_option maxHeartbeats 4000000 in
theorem tell_hit (k : Int) (w : World) (hg : w.cell? ⟨1, 0, none⟩ = some (.iface 81 (.agg #[.pointer (some ⟨2, 33, none⟩)]))) : Calls Tryd.prog 22 #[.iface 24 (.int .i64 k)] w fun e w' => e = .returned (.int .i64 k) ∧ Below w.heap.size w w' := by
  have hlt : 1 < w.heap.size := by
    rcases Nat.lt_or_ge 1 w.heap.size with h | h
    · exact h
    · simp [World.cell?, Array.getElem?_eq_none h] at hg
  have hgA : (w.alloc (.cells #[.int .i64 0] 24)).cell? ⟨1, 0, none⟩ = some (.iface 81 (.agg #[.pointer (some ⟨2, 33, none⟩)])) := by
    rw [World.cell?_alloc_lt _ _ ⟨1, 0, none⟩ hlt]; exact hg
  have htA : (w.alloc (.cells #[.int .i64 0] 24)).cell? ⟨w.heap.size, 0, none⟩ = some (.int .i64 0) := by simp
  have hfA : (w.alloc (.cells #[.int .i64 0] 24)).frozen? ⟨w.heap.size, 0, none⟩ = false := by simp
  go_enter Tryd.func22, Tryd.ntmps22
  go_wp2_with (first | (go_at_call 25; refine (as_hit k _ (.int .i64 0) _ hgA htA hfA).mono ?_; rintro e w' ⟨rfl, rfl⟩))
  go_ret
  refine ⟨rfl, ?_⟩
  repeat (first | exact Below.refl _ _ | refine Below.alloc ?_ (by first | (simp; done) | (simp; omega)) _)
set_option maxRecDepth 100000 in
set_option maxHeartbeats 4000000 in
theorem tell_at (k : Int) (p : Addr) (w : World) (hg : w.cell? ⟨1, 0, none⟩ = some (.iface 81 (.agg #[.pointer (some ⟨2, 33, none⟩)]))) (hp : w.cell? p = some (.int .i64 k)) : Calls Tryd.prog 22 #[.iface 54 (.pointer (some p))] w fun e w' => e = .returned (.int .i64 k) ∧ Below w.heap.size w w' := by
  have hlt : 1 < w.heap.size := by
    rcases Nat.lt_or_ge 1 w.heap.size with h | h
    · exact h
    · simp [World.cell?, Array.getElem?_eq_none h] at hg
  have hgA : (w.alloc (.cells #[.int .i64 0] 24)).cell? ⟨1, 0, none⟩ = some (.iface 81 (.agg #[.pointer (some ⟨2, 33, none⟩)])) := by
    rw [World.cell?_alloc_lt _ _ ⟨1, 0, none⟩ hlt]; exact hg
  have htA : (w.alloc (.cells #[.int .i64 0] 24)).cell? ⟨w.heap.size, 0, none⟩ = some (.int .i64 0) := by simp
  have hfA : (w.alloc (.cells #[.int .i64 0] 24)).frozen? ⟨w.heap.size, 0, none⟩ = false := by simp
  have hpl : p.block < w.heap.size := by
    rcases Nat.lt_or_ge p.block w.heap.size with h | h
    · exact h
    · simp [World.cell?, Array.getElem?_eq_none h] at hp
  have hpA : (w.alloc (.cells #[.int .i64 0] 24)).cell? p = some (.int .i64 k) := by
    rw [World.cell?_alloc_lt _ _ p hpl]; exact hp
  go_enter Tryd.func22, Tryd.ntmps22
  go_wp2_with (first | (go_at_call 25; refine (as_at k p _ (.int .i64 0) _ hgA htA hfA hpA).mono ?_; rintro e w' ⟨rfl, rfl⟩))
  go_ret
  refine ⟨rfl, ?_⟩
  repeat (first | exact Below.refl _ _ | refine Below.alloc ?_ (by first | (simp; done) | (simp; omega)) _)
end Go.Proofs.YtpjddempmcphjaaDoor
namespace Go.Sc
open Go Go.ChangeShapes Go.WideShapes Go.ChangeAt Go.RowKit
section
variable {P : Program} {W : World} {E : Env}
theorem laid_struct2 {l : List (String × DataW Unit)} {n : String} {a b : Int} {g : Nat} {ty : TypeId} {f0 f1 : Field} (h : laidMetH P l W) (hm : (n, DataW.agg [.lit (.int .i64 a), .lit (.int .i64 b)]) ∈ l) (hn : P.globalNamed n = some g) (ht : (P.globals[g]?).map (·.type) = some ty)
    (hu : P.underlying ty = some (.struct #[f0, f1])) (e0 : P.underlying f0.type = some (.int .i64)) (e1 : P.underlying f1.type = some (.int .i64)) (o0 : f0.offset = 0) (o1 : f1.offset = 1) (c0 : P.cellsOf f0.type = 1) (c1 : P.cellsOf f1.type = 1) : CRel E (Cx.start W) [Z a, Z b] g 0 := by
  obtain ⟨h1, _⟩ := laidMetH_iff.1 h
  obtain ⟨ps, h2, _⟩ := h1
  obtain ⟨g', t', cs, fuel, p, k1, k2, k3, k4⟩ := laid_at (l := l) h2 (List.mem_filter.2 ⟨hm, by rfl⟩)
  rw [hn] at k1; injection k1 with k1; subst k1
  rw [ht] at k2; injection k2 with k2; subst k2
  obtain ⟨y0, y1, m', hx, hl, x0, x1⟩ := trod_struct2 hu k4
  simp only [World.var?, hn, Option.bind_some] at k3
  split at k3
  · rename_i cs' ty' fr hW
    injection k3 with k3; subst k3
    have hlt : g < W.heap.size := by
      by_cases h : g < W.heap.size
      · exact h
      · rw [Array.getElem?_eq_none (by omega)] at hW; cases hW
    injection hx with hx1 hx2
    injection hx1 with hx1
    injection hx1 with hxa hx1
    injection hx1 with hxb _
    rw [o0, c0] at x0
    rw [o1, c1] at x1
    obtain ⟨w0, hw0, hv0, _⟩ := DataW.trod_int e0 x0
    obtain ⟨w1, hw1, hv1, _⟩ := DataW.trod_int e1 x1
    rw [hv0] at hxa
    rw [hv1] at hxb
    injection hxa with hxa
    injection hxa with _ hxa
    injection hxb with hxb
    injection hxb with _ hxb
    subst hxa; subst hxb
    have q0 : cs'.toList[0]? = some (.int .i64 a) := by
      have := congrArg (·[0]?) hw0
      simpa using this
    have q1 : cs'.toList[1]? = some (.int .i64 b) := by
      have := congrArg (·[0]?) hw1
      simp only [List.getElem?_take, List.getElem?_drop, List.getElem?_cons_zero] at this
      simpa using this
    refine crel_start hlt fun i y hi => ?_
    match i with
    | 0 => simp only [List.getElem?_cons_zero, Option.some.injEq] at hi; subst hi; exact ⟨.int .i64 a, by simp only [World.cell?, hW]; simpa using q0, by simp [VRel]⟩
    | 1 => simp only [List.getElem?_cons_succ, List.getElem?_cons_zero, Option.some.injEq] at hi; subst hi; exact ⟨.int .i64 b, by simp only [World.cell?, hW]; simpa using q1, by simp [VRel]⟩
    | i + 2 => simp at hi
  · cases k3
end
theorem least_isNone (l : List String) : (Instr.least l).isNone = l.isEmpty := by
  cases l <;> simp [Instr.least]
theorem missing_isNone (want : Array (String × TypeId)) (got : Array Method) : (Instr.missingMethod want got).isNone = want.toList.all fun x => got.any fun m => m.name == x.1 && m.sig == x.2 := by
  unfold Instr.missingMethod
  generalize hm : (want.toList.filter _).map (·.1) = missing
  have h1 : (want.toList.all fun x => got.any fun m => m.name == x.1 && m.sig == x.2) = missing.isEmpty := by
    rw [← hm]
    generalize want.toList = l
    induction l with
    | nil => rfl
    | cons a l ih =>
      simp only [List.all_cons, List.filter_cons]
      cases h : (got.any fun m => m.name == a.1 && m.sig == a.2) with
      | true => simpa [h] using ih
      | false => simp
  rw [h1]
  simp only
  rw [List.partition_eq_filter_filter]
  simp only
  cases missing with
  | nil => simp [Instr.least]
  | cons s l =>
    simp only [List.isEmpty_cons]
    cases he : Instr.least (List.filter (not ∘ fun x => String.contains x '.') (s :: l)) with
    | some y => rfl
    | none =>
      have h2 := least_isNone (List.filter (not ∘ fun x => String.contains x '.') (s :: l))
      rw [he] at h2
      simp only [Option.isNone_none, Bool.true_eq, List.isEmpty_iff, List.filter_eq_nil_iff] at h2
      have h3 := h2 s (by simp)
      have h4 : (s.contains '.') = true := by simpa using h3
      show (Instr.least _).isNone = false
      rw [least_isNone]
      simp only [List.filter_cons, h4, if_true, List.map_cons, List.isEmpty_cons]
def hasMB (E : Env) (P : Program) (kt k : Nat) (b : Bool) : Bool :=
  match P.underlying (E.ty kt) with
  | some (.interface want) => (match P.info? (E.ty k) with
    | some i => (want.toList.all fun x => i.methods.any fun m => m.name == x.1 && m.sig == x.2) == b
    | none => false)
  | _ => true
theorem HasM.of {E : Env} {P : Program} {kt k : Nat} {b : Bool} (h : hasMB E P kt k b = true) : HasM E P kt k b := fun want hw => by
  unfold hasMB at h
  rw [hw] at h
  simp only at h
  split at h
  · rename_i i hi
    exact ⟨i, hi, by rw [missing_isNone]; simpa using h⟩
  · cases h
end Go.Sc
namespace Go.Proofs.YtpjddempmcphjaaDoor
open Go Go.Sc
set_option maxRecDepth 100000
def tyL : List Nat := [1000000, 24, 54, 67, 9, 86, 61, 89]
def tkL : List Nat := [2000000, 2000001, 2000002, 2000003, 2000004, 2000005, 2000006, 2000007, 2000008, 4, 2000010, 2000011, 2000012, 2000013, 2000014, 2000015, 2000016, 2000017, 2000018, 2000019, 2000020, 2000021, 2000022, 2000023, 1, 2000025, 2000026, 2000027, 2000028, 2000029, 2000030, 2000031, 2000032, 2000033, 2000034, 2000035, 2000036, 2000037, 2000038, 2000039, 2000040, 2000041, 2000042, 2000043, 2000044, 2000045, 2000046, 2000047, 2000048, 2000049, 2000050, 2000051, 2000052, 2000053, 2, 2000055, 2000056, 2000057, 2000058, 2000059, 2000060, 6, 2000062, 2000063, 2000064, 2000065, 2000066, 3, 2000068, 2000069, 2000070, 2000071, 2000072, 2000073, 2000074, 2000075, 2000076, 2000077, 2000078, 2000079, 2000080, 2000081, 2000082, 2000083, 2000084, 2000085, 5, 2000087, 2000088, 7, 2000090, 2000091, 2000092, 2000093, 2000094, 2000095, 2000096, 2000097, 2000098, 2000099, 2000100, 2000101, 2000102, 2000103, 2000104, 2000105, 2000106, 2000107, 2000108, 2000109, 2000110, 2000111, 2000112, 2000113, 2000114, 2000115, 2000116, 2000117, 2000118, 2000119, 2000120]
def fnL : List Nat := [1000000, 1000001, 1000002, 1000003, 1000004, 1000005, 1000006, 1000007, 1000008, 1000009, 1000010, 1000011, 1000012, 1000013, 1000014, 1000015, 1000016, 1000017, 1000018, 1000019, 1000020, 1000021, 1000022, 1000023, 1000024, 1000025, 1000026, 1000027, 1000028, 1000029, 1000030, 1000031, 1000032, 1000033, 1000034, 1000035, 1000036, 1000037, 1000038, 1000039, 1000040, 1000041, 1000042, 1000043, 1000044, 1000045, 1000046, 1000047, 1000048, 1000049, 1000050, 1000051, 1000052, 22, 1000054, 1000055, 1000056, 1000057, 1000058, 15, 1000060, 1000061, 25, 1000063, 1000064, 1000065, 23, 26, 27, 28, 29, 1000071, 30, 31, 32, 52, 1000076, 6, 1000078, 1000079, 1000080, 1000081, 1000082, 1000083, 14, 1000085, 11, 12, 1000088, 9, 1000090, 1000091, 1000092, 1000093, 1000094, 1000095, 1000096, 1000097, 1000098, 4, 5, 7, 8, 10, 3, 13, 16, 17, 18, 19, 20, 21, 24]
def fkL : List Nat := [2000000, 2000001, 2000002, 104, 99, 100, 77, 101, 102, 89, 103, 86, 87, 105, 84, 59, 106, 107, 108, 109, 110, 111, 53, 66, 112, 62, 67, 68, 69, 70, 72, 73, 74, 2000033, 2000034, 2000035, 2000036, 2000037, 2000038, 2000039, 2000040, 2000041, 2000042, 2000043, 2000044, 2000045, 2000046, 2000047, 2000048, 2000049, 2000050, 2000051, 75, 2000053, 2000054, 2000055, 2000056, 2000057, 2000058, 2000059, 2000060, 2000061, 2000062, 2000063, 2000064, 2000065, 2000066, 2000067, 2000068, 2000069, 2000070, 2000071]
def gnL : List Nat := [1000000, 1000001, 1000002, 1000003, 1, 0]
def gkL : List Nat := [5, 4]
def E : Env := { ty := fun k => tyL.getD k 3000000, tk := fun t => tkL.getD t 3000000, fn := fun k => fnL.getD k 3000000, fk := fun f => fkL.getD f 3000000, gn := fun k => gnL.getD k 3000000, gk := fun g => gkL.getD g 3000000, gl := fun g => if g = 5 then some [.val (.int .i64 0), .val (.int .i64 (-1))] else if g = 4 then some [.val (.iface 81 (.agg #[.pointer (some ⟨2, 33, none⟩)]))] else none }
theorem b_law_GateSolves (a0 a1 : AV) (H : AH) (R : Kt) : bodyW E Tryd.prog Tryd.f3 (.seq none .leaf (.seq none (.seq none .leaf (.two (.seq none .leaf .leaf) .leaf)) (.seq none .leaf (.seq none (.seq none .leaf (.one (.loop [5, 6] (.seq none (.seq none .leaf (.two .leaf .leaf)) (.seq none (.one .leaf) .leaf))))) (.seq none (.seq none .leaf (.two (.seq none .leaf .leaf) .leaf)) (.seq none .leaf (.seq none .leaf (.seq none .leaf (.seq none (.seq none .draw (.two (.seq none .leaf .leaf) .leaf)) (.seq none (.seq none .leaf (.two (.seq none .leaf .leaf) .leaf)) (.seq none .leaf (.seq none (.seq none .leaf (.two (.seq none .leaf .leaf) .leaf)) (.seq none .leaf .leaf))))))))))))) [a0, a1] H R = F.law_GateSolves E Tryd.prog a0 a1 H R := by kernel_rfl
theorem b_ref_GateCheck (a0 : AV) (H : AH) (R : Kt) : bodyW E Tryd.prog Tryd.f4 (.seq none .leaf (.seq none (.seq none .leaf (.two (.seq none .leaf .leaf) .leaf)) (.seq none (.seq none .leaf (.one (.loop [21] (.seq none .leaf (.seq none (.two .leaf .leaf) (.seq none (.one (.seq none .leaf (.seq none .leaf (.one (.loop [28] (.seq none .leaf (.seq none (.two .leaf .leaf) (.seq none (.one (.seq none .leaf (.seq none .leaf (.two (.seq none .leaf .leaf) .leaf)))) .leaf)))))))) .leaf)))))) (.seq none .leaf .leaf)))) [a0] H R = F.ref_GateCheck E Tryd.prog a0 H R := by kernel_rfl
theorem b_gate_Solve (a0 : AV) (H : AH) (R : Kt) : bodyW E Tryd.prog Tryd.f5 (.seq none .leaf (.seq none (.seq none .leaf (.seq none .leaf (.two (.seq none .leaf .leaf) .leaf))) (.seq none .draw (.seq none .leaf (.seq none (.one (.seq none .leaf (.two (.seq none .leaf .leaf) (.seq none .leaf (.two (.seq none .leaf .leaf) .leaf))))) (.seq none .leaf (.seq none (.seq none .leaf (.one (.loop [8, 42] (.seq none .leaf (.seq none (.two .leaf .leaf) (.seq none (.one (.seq none .leaf .leaf)) .leaf)))))) (.seq none .leaf .leaf)))))))) [a0] H R = F.gate_Solve E Tryd.prog a0 H R := by kernel_rfl
theorem b_law_at (a0 a1 : AV) (H : AH) (R : Kt) : bodyW E Tryd.prog Tryd.f6 (.seq none .leaf (.seq none .leaf (.seq none .leaf .leaf))) [a0, a1] H R = F.law_at E Tryd.prog a0 a1 H R := by kernel_rfl
theorem b_gate_Check (a0 : AV) (H : AH) (R : Kt) : bodyW E Tryd.prog Tryd.f7 (.seq none .leaf (.seq none (.seq none .leaf (.two (.seq none .leaf .leaf) .leaf)) (.seq none (.seq none .leaf (.one (.loop [23] (.seq none .leaf (.seq none (.two .leaf .leaf) (.seq none (.one (.seq none .leaf (.seq none .leaf (.two (.seq none .leaf .leaf) .leaf)))) .leaf)))))) (.seq none .leaf .leaf)))) [a0] H R = F.gate_Check E Tryd.prog a0 H R := by kernel_rfl
theorem b_ref_GateSolve (a0 : AV) (H : AH) (R : Kt) : bodyW E Tryd.prog Tryd.f8 (.seq none .leaf (.seq none (.seq none .leaf (.one (.loop [4] (.seq none (.seq none .leaf (.two .leaf .leaf)) (.seq none (.one (.seq none .leaf (.seq none .leaf (.seq none (.seq none .leaf (.one (.loop [6, 26] (.seq none .leaf (.seq none (.two .leaf .leaf) (.seq none (.one (.seq none .leaf (.seq none .leaf (.seq none (.seq none .leaf (.one (.loop [9, 32] (.seq none .leaf (.seq none (.two .leaf .leaf) (.seq none (.one (.seq none .leaf .leaf)) .leaf)))))) .leaf)))) .leaf)))))) (.seq none .leaf (.two (.seq none .leaf (.seq none (.seq none .leaf (.one (.loop [12, 13] (.seq none (.seq none .leaf (.two .leaf .leaf)) (.seq none (.one .leaf) .leaf))))) (.seq none .leaf .leaf))) .leaf)))))) (.seq none (.seq none .leaf .leaf) .leaf)))))) (.seq none .leaf .leaf))) [a0] H R = F.ref_GateSolve E Tryd.prog a0 H R := by kernel_rfl
theorem b_law_bare (a0 a1 : AV) (H : AH) (R : Kt) : bodyW E Tryd.prog Tryd.f9 (.seq none .leaf (.seq none .leaf .leaf)) [a0, a1] H R = F.law_bare E Tryd.prog a0 a1 H R := by kernel_rfl
theorem b_law_sameBools (a0 a1 : AV) (H : AH) (R : Kt) : bodyW E Tryd.prog Tryd.f10 (.seq none .leaf (.seq none (.seq none .leaf (.two (.seq none .leaf .leaf) .leaf)) (.seq none (.seq none .leaf (.one (.loop [5] (.seq none (.seq none .leaf (.two .leaf .leaf)) (.seq none (.one (.seq none .draw (.two (.seq none .leaf .leaf) .leaf))) .leaf))))) (.seq none .leaf .leaf)))) [a0, a1] H R = F.law_sameBools E Tryd.prog a0 a1 H R := by kernel_rfl
theorem b_ref_within (a0 a1 a2 : AV) (H : AH) (R : Kt) : bodyW E Tryd.prog Tryd.f11 (.seq none .leaf (.seq none .leaf .leaf)) [a0, a1, a2] H R = F.ref_within E Tryd.prog a0 a1 a2 H R := by kernel_rfl
theorem b_ref_Bare (a0 : AV) (H : AH) (R : Kt) : bodyW E Tryd.prog Tryd.f12 (.seq none .leaf (.seq none .leaf .leaf)) [a0] H R = F.ref_Bare E Tryd.prog a0 H R := by kernel_rfl
theorem b_pgate_solver_search (a0 : AV) (H : AH) (R : Kt) : bodyW E Tryd.prog Tryd.f13 (.seq none .leaf (.seq none (.seq none .leaf (.seq none .leaf (.two (.seq none .leaf .leaf) .leaf))) (.seq none .leaf (.seq none (.seq none .leaf (.two (.seq none .leaf (.seq none .leaf .leaf)) .leaf)) (.seq none .leaf (.seq none (.seq none .leaf (.two (.seq none .leaf .leaf) .leaf)) (.seq none (.seq none .leaf (.one (.loop [49] (.seq none .leaf (.seq none (.two .leaf .leaf) (.seq none (.one (.seq none .leaf (.seq none .leaf (.seq none .leaf (.seq none (.seq none .leaf (.seq none .leaf (.two (.seq none .leaf .leaf) .leaf))) .leaf))))) .leaf)))))) (.seq none .leaf (.seq none .leaf .leaf))))))))) [a0] H R = F.pgate_solver_search E Tryd.prog a0 H R := by kernel_rfl
theorem b_plain_Place (a0 : AV) (H : AH) (R : Kt) : bodyW E Tryd.prog Tryd.f14 (.seq none .leaf (.seq none .leaf (.seq (some []) (.one (.loop [0] (.seq none (.seq none .leaf (.two .leaf .leaf)) (.one (.seq none (.seq none .leaf (.seq none .leaf (.two (.seq none .draw .leaf) .leaf))) (.seq none .leaf (.seq none (.seq none .leaf (.two .leaf .leaf)) .leaf))))))) (.seq none .leaf .leaf)))) [a0] H R = F.plain_Place E Tryd.prog a0 H R := by kernel_rfl
theorem b_slices_ContainsFunc_Lint_int (a0 a1 : AV) (H : AH) (R : Kt) : bodyW E Tryd.prog Tryd.f15 (.seq none .leaf (.seq none .leaf .leaf)) [a0, a1] H R = F.slices_ContainsFunc_Lint_int E Tryd.prog a0 a1 H R := by kernel_rfl
theorem b_gate_Check_c1 (a0 a1 : AV) (H : AH) (R : Kt) : bodyW E Tryd.prog Tryd.f16 (.seq none .leaf (.seq none .leaf .leaf)) [a0, a1] H R = F.gate_Check_c1 E Tryd.prog a0 a1 H R := by kernel_rfl
theorem b_ref_GateSolve_c1 (a0 a1 a2 : AV) (H : AH) (R : Kt) : bodyW E Tryd.prog Tryd.f17 (.seq none .leaf (.seq none .leaf .leaf)) [a0, a1, a2] H R = F.ref_GateSolve_c1 E Tryd.prog a0 a1 a2 H R := by kernel_rfl
theorem b_pgate_solver_spread (a0 : AV) (H : AH) (R : Kt) : bodyW E Tryd.prog Tryd.f18 (.seq none .leaf (.seq none (.seq none .leaf (.one (.loop [3] (.seq none (.seq none .leaf (.two .leaf .leaf)) (.one (.seq none .leaf (.seq none .leaf (.one (.loop [3, 18] (.seq none .leaf (.seq none (.two .leaf .leaf) (.seq (some [3]) (.one (.seq none .leaf (.seq none .leaf (.seq none (.seq none .leaf (.one (.loop [6, 7, 8, 24] (.seq none .leaf (.seq none (.two .leaf .leaf) (.seq (some [6, 7, 8]) (.one (.seq none .leaf (.seq none .leaf (.one (.seq none .leaf (.two .leaf (.seq none .leaf (.two (.seq (some [7]) (.seq none .leaf (.two .leaf .leaf)) .leaf) .leaf)))))))) .leaf)))))) (.one (.seq none .leaf (.two .leaf (.seq none .leaf (.two (.seq none .leaf .leaf) (.seq none .leaf .leaf)))))))))) .leaf)))))))))))) (.seq none .leaf .leaf))) [a0] H R = F.pgate_solver_spread E Tryd.prog a0 H R := by kernel_rfl
theorem b_pgate_solver_back (a0 a1 : AV) (H : AH) (R : Kt) : bodyW E Tryd.prog Tryd.f19 (.seq none (.seq none .leaf (.one (.loop [13] (.seq none .leaf (.seq none (.two .leaf .leaf) (.seq none (.one (.seq none .leaf .leaf)) .leaf)))))) .leaf) [a0, a1] H R = F.pgate_solver_back E Tryd.prog a0 a1 H R := by kernel_rfl
theorem b_slices_Index_Lint_int (a0 a1 : AV) (H : AH) (R : Kt) : bodyW E Tryd.prog Tryd.f20 (.seq none .leaf (.seq none (.seq none .leaf (.one (.loop [8] (.seq none .leaf (.seq none (.two .leaf .leaf) (.seq none (.one (.seq none .leaf (.seq none .leaf (.two (.seq none .leaf .leaf) .leaf)))) .leaf)))))) (.seq none .leaf .leaf))) [a0, a1] H R = F.slices_Index_Lint_int E Tryd.prog a0 a1 H R := by kernel_rfl
theorem b_pgate_solver_set (a0 a1 : AV) (H : AH) (R : Kt) : bodyW E Tryd.prog Tryd.f21 (.seq (some []) (.seq none .leaf (.two .leaf .leaf)) .leaf) [a0, a1] H R = F.pgate_solver_set E Tryd.prog a0 a1 H R := by kernel_rfl
theorem b_api_Tell (a0 : AV) (H : AH) (R : Kt) : bodyW E Tryd.prog Tryd.f22 (.seq none .leaf (.seq none (.seq none .leaf (.two (.seq none .leaf .leaf) .leaf)) (.seq none .leaf (.seq none (.seq none .leaf (.two (.seq none .leaf .leaf) .leaf)) (.seq none .leaf .leaf))))) [a0] H R = F.api_Tell E Tryd.prog a0 H R := by kernel_rfl
theorem b_slices_IndexFunc_Lint_int (a0 a1 : AV) (H : AH) (R : Kt) : bodyW E Tryd.prog Tryd.f23 (.seq none .leaf (.seq none (.seq none .leaf (.one (.loop [8] (.seq none .leaf (.seq none (.two .leaf .leaf) (.seq none (.one (.seq none .leaf (.seq none .leaf (.two (.seq none .leaf .leaf) .leaf)))) .leaf)))))) (.seq none .leaf .leaf))) [a0, a1] H R = F.slices_IndexFunc_Lint_int E Tryd.prog a0 a1 H R := by kernel_rfl
theorem b_pgate_solver_is (a0 a1 : AV) (H : AH) (R : Kt) : bodyW E Tryd.prog Tryd.f24 (.seq none .leaf (.seq none (.seq none .leaf (.two (.seq none .leaf .leaf) .leaf)) (.seq none .leaf .leaf))) [a0, a1] H R = F.pgate_solver_is E Tryd.prog a0 a1 H R := by kernel_rfl
theorem b_errors_As (a0 a1 : AV) (H : AH) (R : Kt) : bodyW E Tryd.prog Tryd.f25 (.seq none .leaf (.seq none (.seq none .leaf (.two (.seq none .leaf .leaf) .leaf)) (.seq (some []) (.seq none .leaf (.two .leaf .leaf)) (.seq none .leaf (.seq none .leaf (.seq (some []) (.seq none .leaf (.two .leaf .leaf)) (.seq none .leaf (.seq (some []) (.seq none .leaf (.two .leaf .leaf)) (.seq none .leaf .leaf))))))))) [a0, a1] H R = F.errors_As E Tryd.prog a0 a1 H R := by kernel_rfl
theorem b_errors_as (a0 a1 a2 a3 : AV) (H : AH) (R : Kt) : bodyW E Tryd.prog Tryd.f29 (.seq none .leaf (.one (.loop [0] (.one (.seq none (.seq none .leaf (.two (.seq none .leaf (.seq none .leaf .leaf)) .leaf)) (.seq none (.seq none .leaf (.seq none .leaf (.two (.seq none .leaf .leaf) .leaf))) (.seq none .leaf (.one (.seq none .leaf (.two (.seq none .leaf (.seq none .leaf (.seq none .leaf (.two (.seq none .leaf .leaf) .leaf)))) (.seq none .leaf (.two (.seq none .leaf (.seq none (.seq none .leaf (.one (.loop [50] (.seq none .leaf (.seq none (.two .leaf .leaf) (.seq (some []) (.one (.seq none .leaf (.seq none (.seq none .leaf (.two .leaf .leaf)) (.seq none .leaf (.two (.seq none .leaf .leaf) .leaf))))) .leaf)))))) (.seq none .leaf .leaf))) (.seq none .leaf (.seq none .leaf .leaf)))))))))))))) [a0, a1, a2, a3] H R = F.errors_as E Tryd.prog a0 a1 a2 a3 H R := by kernel_rfl
theorem b_papi_At_Unwrap (a0 : AV) (H : AH) (R : Kt) : bodyW E Tryd.prog Tryd.f52 (.seq none .leaf (.seq none .leaf .leaf)) [a0] H R = F.papi_At_Unwrap E Tryd.prog a0 H R := by kernel_rfl
theorem c_law_GateSolves (a0 a1 : AV) (H : AH) (R : Kt) (h : F.law_GateSolves E Tryd.prog a0 a1 H R) : ACalls E Tryd.prog 104 [a0, a1] H R :=
  acalls_of_body (show Tryd.prog.funcs[E.fn 104]? = some Tryd.f3 from Tryd.func3) (by kernel_rfl) ((b_law_GateSolves a0 a1 H R).mpr h)
theorem c_ref_GateCheck (a0 : AV) (H : AH) (R : Kt) (h : F.ref_GateCheck E Tryd.prog a0 H R) : ACalls E Tryd.prog 99 [a0] H R :=
  acalls_of_body (show Tryd.prog.funcs[E.fn 99]? = some Tryd.f4 from Tryd.func4) (by kernel_rfl) ((b_ref_GateCheck a0 H R).mpr h)
theorem c_gate_Solve (a0 : AV) (H : AH) (R : Kt) (h : F.gate_Solve E Tryd.prog a0 H R) : ACalls E Tryd.prog 100 [a0] H R :=
  acalls_of_body (show Tryd.prog.funcs[E.fn 100]? = some Tryd.f5 from Tryd.func5) (by kernel_rfl) ((b_gate_Solve a0 H R).mpr h)
theorem c_law_at (a0 a1 : AV) (H : AH) (R : Kt) (h : F.law_at E Tryd.prog a0 a1 H R) : ACalls E Tryd.prog 77 [a0, a1] H R :=
  acalls_of_body (show Tryd.prog.funcs[E.fn 77]? = some Tryd.f6 from Tryd.func6) (by kernel_rfl) ((b_law_at a0 a1 H R).mpr h)
theorem c_gate_Check (a0 : AV) (H : AH) (R : Kt) (h : F.gate_Check E Tryd.prog a0 H R) : ACalls E Tryd.prog 101 [a0] H R :=
  acalls_of_body (show Tryd.prog.funcs[E.fn 101]? = some Tryd.f7 from Tryd.func7) (by kernel_rfl) ((b_gate_Check a0 H R).mpr h)
theorem c_ref_GateSolve (a0 : AV) (H : AH) (R : Kt) (h : F.ref_GateSolve E Tryd.prog a0 H R) : ACalls E Tryd.prog 102 [a0] H R :=
  acalls_of_body (show Tryd.prog.funcs[E.fn 102]? = some Tryd.f8 from Tryd.func8) (by kernel_rfl) ((b_ref_GateSolve a0 H R).mpr h)
theorem c_law_bare (a0 a1 : AV) (H : AH) (R : Kt) (h : F.law_bare E Tryd.prog a0 a1 H R) : ACalls E Tryd.prog 89 [a0, a1] H R :=
  acalls_of_body (show Tryd.prog.funcs[E.fn 89]? = some Tryd.f9 from Tryd.func9) (by kernel_rfl) ((b_law_bare a0 a1 H R).mpr h)
theorem c_law_sameBools (a0 a1 : AV) (H : AH) (R : Kt) (h : F.law_sameBools E Tryd.prog a0 a1 H R) : ACalls E Tryd.prog 103 [a0, a1] H R :=
  acalls_of_body (show Tryd.prog.funcs[E.fn 103]? = some Tryd.f10 from Tryd.func10) (by kernel_rfl) ((b_law_sameBools a0 a1 H R).mpr h)
theorem c_ref_within (a0 a1 a2 : AV) (H : AH) (R : Kt) (h : F.ref_within E Tryd.prog a0 a1 a2 H R) : ACalls E Tryd.prog 86 [a0, a1, a2] H R :=
  acalls_of_body (show Tryd.prog.funcs[E.fn 86]? = some Tryd.f11 from Tryd.func11) (by kernel_rfl) ((b_ref_within a0 a1 a2 H R).mpr h)
theorem c_ref_Bare (a0 : AV) (H : AH) (R : Kt) (h : F.ref_Bare E Tryd.prog a0 H R) : ACalls E Tryd.prog 87 [a0] H R :=
  acalls_of_body (show Tryd.prog.funcs[E.fn 87]? = some Tryd.f12 from Tryd.func12) (by kernel_rfl) ((b_ref_Bare a0 H R).mpr h)
theorem c_pgate_solver_search (a0 : AV) (H : AH) (R : Kt) (h : F.pgate_solver_search E Tryd.prog a0 H R) : ACalls E Tryd.prog 105 [a0] H R :=
  acalls_of_body (show Tryd.prog.funcs[E.fn 105]? = some Tryd.f13 from Tryd.func13) (by kernel_rfl) ((b_pgate_solver_search a0 H R).mpr h)
theorem c_plain_Place (a0 : AV) (H : AH) (R : Kt) (h : F.plain_Place E Tryd.prog a0 H R) : ACalls E Tryd.prog 84 [a0] H R :=
  acalls_of_body (show Tryd.prog.funcs[E.fn 84]? = some Tryd.f14 from Tryd.func14) (by kernel_rfl) ((b_plain_Place a0 H R).mpr h)
theorem c_slices_ContainsFunc_Lint_int (a0 a1 : AV) (H : AH) (R : Kt) (h : F.slices_ContainsFunc_Lint_int E Tryd.prog a0 a1 H R) : ACalls E Tryd.prog 59 [a0, a1] H R :=
  acalls_of_body (show Tryd.prog.funcs[E.fn 59]? = some Tryd.f15 from Tryd.func15) (by kernel_rfl) ((b_slices_ContainsFunc_Lint_int a0 a1 H R).mpr h)
theorem c_gate_Check_c1 (a0 a1 : AV) (H : AH) (R : Kt) (h : F.gate_Check_c1 E Tryd.prog a0 a1 H R) : ACalls E Tryd.prog 106 [a0, a1] H R :=
  acalls_of_body (show Tryd.prog.funcs[E.fn 106]? = some Tryd.f16 from Tryd.func16) (by kernel_rfl) ((b_gate_Check_c1 a0 a1 H R).mpr h)
theorem c_ref_GateSolve_c1 (a0 a1 a2 : AV) (H : AH) (R : Kt) (h : F.ref_GateSolve_c1 E Tryd.prog a0 a1 a2 H R) : ACalls E Tryd.prog 107 [a0, a1, a2] H R :=
  acalls_of_body (show Tryd.prog.funcs[E.fn 107]? = some Tryd.f17 from Tryd.func17) (by kernel_rfl) ((b_ref_GateSolve_c1 a0 a1 a2 H R).mpr h)
theorem c_pgate_solver_spread (a0 : AV) (H : AH) (R : Kt) (h : F.pgate_solver_spread E Tryd.prog a0 H R) : ACalls E Tryd.prog 108 [a0] H R :=
  acalls_of_body (show Tryd.prog.funcs[E.fn 108]? = some Tryd.f18 from Tryd.func18) (by kernel_rfl) ((b_pgate_solver_spread a0 H R).mpr h)
theorem c_pgate_solver_back (a0 a1 : AV) (H : AH) (R : Kt) (h : F.pgate_solver_back E Tryd.prog a0 a1 H R) : ACalls E Tryd.prog 109 [a0, a1] H R :=
  acalls_of_body (show Tryd.prog.funcs[E.fn 109]? = some Tryd.f19 from Tryd.func19) (by kernel_rfl) ((b_pgate_solver_back a0 a1 H R).mpr h)
theorem c_slices_Index_Lint_int (a0 a1 : AV) (H : AH) (R : Kt) (h : F.slices_Index_Lint_int E Tryd.prog a0 a1 H R) : ACalls E Tryd.prog 110 [a0, a1] H R :=
  acalls_of_body (show Tryd.prog.funcs[E.fn 110]? = some Tryd.f20 from Tryd.func20) (by kernel_rfl) ((b_slices_Index_Lint_int a0 a1 H R).mpr h)
theorem c_pgate_solver_set (a0 a1 : AV) (H : AH) (R : Kt) (h : F.pgate_solver_set E Tryd.prog a0 a1 H R) : ACalls E Tryd.prog 111 [a0, a1] H R :=
  acalls_of_body (show Tryd.prog.funcs[E.fn 111]? = some Tryd.f21 from Tryd.func21) (by kernel_rfl) ((b_pgate_solver_set a0 a1 H R).mpr h)
theorem c_api_Tell (a0 : AV) (H : AH) (R : Kt) (h : F.api_Tell E Tryd.prog a0 H R) : ACalls E Tryd.prog 53 [a0] H R :=
  acalls_of_body (show Tryd.prog.funcs[E.fn 53]? = some Tryd.f22 from Tryd.func22) (by kernel_rfl) ((b_api_Tell a0 H R).mpr h)
theorem c_slices_IndexFunc_Lint_int (a0 a1 : AV) (H : AH) (R : Kt) (h : F.slices_IndexFunc_Lint_int E Tryd.prog a0 a1 H R) : ACalls E Tryd.prog 66 [a0, a1] H R :=
  acalls_of_body (show Tryd.prog.funcs[E.fn 66]? = some Tryd.f23 from Tryd.func23) (by kernel_rfl) ((b_slices_IndexFunc_Lint_int a0 a1 H R).mpr h)
theorem c_pgate_solver_is (a0 a1 : AV) (H : AH) (R : Kt) (h : F.pgate_solver_is E Tryd.prog a0 a1 H R) : ACalls E Tryd.prog 112 [a0, a1] H R :=
  acalls_of_body (show Tryd.prog.funcs[E.fn 112]? = some Tryd.f24 from Tryd.func24) (by kernel_rfl) ((b_pgate_solver_is a0 a1 H R).mpr h)
theorem c_errors_As (a0 a1 : AV) (H : AH) (R : Kt) (h : F.errors_As E Tryd.prog a0 a1 H R) : ACalls E Tryd.prog 62 [a0, a1] H R :=
  acalls_of_body (show Tryd.prog.funcs[E.fn 62]? = some Tryd.f25 from Tryd.func25) (by kernel_rfl) ((b_errors_As a0 a1 H R).mpr h)
theorem c_errors_as (a0 a1 a2 a3 : AV) (H : AH) (R : Kt) (h : F.errors_as E Tryd.prog a0 a1 a2 a3 H R) : ACalls E Tryd.prog 70 [a0, a1, a2, a3] H R :=
  acalls_of_body (show Tryd.prog.funcs[E.fn 70]? = some Tryd.f29 from Tryd.func29) (by kernel_rfl) ((b_errors_as a0 a1 a2 a3 H R).mpr h)
theorem c_papi_At_Unwrap (a0 : AV) (H : AH) (R : Kt) (h : F.papi_At_Unwrap E Tryd.prog a0 H R) : ACalls E Tryd.prog 75 [a0] H R :=
  acalls_of_body (show Tryd.prog.funcs[E.fn 75]? = some Tryd.f52 from Tryd.func52) (by kernel_rfl) ((b_papi_At_Unwrap a0 H R).mpr h)
end Go.Proofs.YtpjddempmcphjaaDoor
