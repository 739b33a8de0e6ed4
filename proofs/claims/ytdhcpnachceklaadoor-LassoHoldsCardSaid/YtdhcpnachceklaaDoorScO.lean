/-
  NODES, AS A PROOF READS THEM; values of plain data; contracts, as a proof uses them.
-/
import Derived.Test.YtdhcpnachceklaaDoorScN2
import Derived.IntWalk
import Derived.Laws.Strings
namespace Go.Sc
open Go

/-! ### nodes -/
theorem wGet_some {x : AV} {H : AH} {K : Kt} : wGet (some x) H K ↔ K x H := ⟨fun ⟨_, h, k⟩ => by injection h with h; exact h ▸ k, fun k => ⟨x, rfl, k⟩⟩
theorem wPut_some {H : AH} {K : Kt} : wPut (some H) K ↔ K undefA H := ⟨fun ⟨_, h, k⟩ => by injection h with h; exact h ▸ k, fun k => ⟨H, rfl, k⟩⟩
theorem wDo_some {x : AV} {H : AH} {K : Kt} : wDo (some (x, H)) K ↔ K x H := ⟨fun ⟨_, _, h, k⟩ => by injection h with h; injection h with h1 h2; exact h1 ▸ h2 ▸ k, fun k => ⟨x, H, rfl, k⟩⟩
theorem wBool_some {b : Bool} {H : AH} {neg : Bool} {K : Kt} : wBool (some b) H neg K ↔ K (.val (.bool (b != neg))) H := ⟨fun ⟨_, h, k⟩ => by injection h with h; exact h ▸ k, fun k => ⟨b, rfl, k⟩⟩
theorem wAgg_some {l : List AV} {H : AH} {K : Kt} : wAgg (some l) H K ↔ K (.agg l) H := ⟨fun ⟨_, h, k⟩ => by injection h with h; exact h ▸ k, fun k => ⟨l, rfl, k⟩⟩
theorem wIf_bool {b : Bool} {t f : Prop} : wIf (.val (.bool b)) t f ↔ (b = true → t) ∧ (b = false → f) := ⟨fun ⟨_, h, k⟩ => by injection h with h; injection h with h; subst h; exact k, fun k => ⟨b, rfl, k⟩⟩
theorem wIf.dec {p : Prop} [Decidable p] {t f : Prop} (h1 : p → t) (h2 : ¬ p → f) : wIf (.val (.bool (decide p))) t f :=
  ⟨_, rfl, fun h => h1 (of_decide_eq_true h), fun h => h2 (of_decide_eq_false h)⟩
theorem wIf.bool {b : Bool} {t f : Prop} (h1 : b = true → t) (h2 : b = false → f) : wIf (.val (.bool b)) t f := ⟨_, rfl, h1, h2⟩
theorem wGuard_bool {b want : Bool} {H : AH} {m : Kt → Prop} {K : Kt} : wGuard (.val (.bool b)) want H m K ↔ (b = want → m K) ∧ (b ≠ want → K undefA H) := by
  constructor
  · rintro ⟨⟨_, h, k⟩ | ⟨h, k⟩⟩
    · injection h with h; injection h with h; subst h; exact k
    · simp [undefA] at h
  · exact fun k => ⟨.inl ⟨b, rfl, k⟩⟩
theorem wGuard_undef {want : Bool} {H : AH} {m : Kt → Prop} {K : Kt} : wGuard undefA want H m K ↔ K undefA H := by
  constructor
  · rintro ⟨⟨_, h, k⟩ | ⟨h, k⟩⟩
    · simp [undefA] at h
    · exact k
  · exact fun k => ⟨.inr ⟨rfl, k⟩⟩
theorem wIf_true {t f : Prop} : wIf (.val (.bool true)) t f ↔ t := by simp [wIf_bool]
theorem wIf_false {t f : Prop} : wIf (.val (.bool false)) t f ↔ f := by simp [wIf_bool]
theorem wGuard_ff {H : AH} {m : Kt → Prop} {K : Kt} : wGuard (.val (.bool false)) false H m K ↔ m K := by simp [wGuard_bool]
theorem wGuard_tt {H : AH} {m : Kt → Prop} {K : Kt} : wGuard (.val (.bool true)) true H m K ↔ m K := by simp [wGuard_bool]
theorem wGuard_ft {H : AH} {m : Kt → Prop} {K : Kt} : wGuard (.val (.bool false)) true H m K ↔ K undefA H := by simp [wGuard_bool]
theorem wGuard_tf {H : AH} {m : Kt → Prop} {K : Kt} : wGuard (.val (.bool true)) false H m K ↔ K undefA H := by simp [wGuard_bool]
theorem pickA_t {a b : AV} : pickA (.val (.bool true)) a b = some a := rfl
theorem pickA_f {a b : AV} : pickA (.val (.bool false)) a b = some b := rfl

/-! ### plain data -/
abbrev nilS : AV := .val (.slice none 0 0)
abbrev nilE : AV := .val .nilIface
abbrev nilP : AV := .val (.pointer none)
abbrev Z (x : Int) : AV := .val (.int .i64 x)
abbrev Bo (b : Bool) : AV := .val (.bool b)
abbrev Str := List UInt8
abbrev S (s : Str) : AV := .val (.string ⟨s.toArray⟩)
abbrev By (b : UInt8) : AV := .val (.int .u8 b.toNat)
/-- a slice of one-cell elements -/
abbrev L (cs : List AV) : AV := .slN cs cs.length

section
variable {k : IntKind} {a b : Int}
theorem binA_lss : binA .lss (.val (.int k a)) (.val (.int k b)) = some (.val (.bool (decide (a < b)))) := by simp [binA, intBin]
theorem binA_leq : binA .leq (.val (.int k a)) (.val (.int k b)) = some (.val (.bool (decide (a ≤ b)))) := by simp [binA, intBin]
theorem binA_gtr : binA .gtr (.val (.int k a)) (.val (.int k b)) = some (.val (.bool (decide (b < a)))) := by simp [binA, intBin]
theorem binA_geq : binA .geq (.val (.int k a)) (.val (.int k b)) = some (.val (.bool (decide (b ≤ a)))) := by simp [binA, intBin]
theorem binA_eql : binA .eql (.val (.int k a)) (.val (.int k b)) = some (.val (.bool (decide (a = b)))) := by
  have : (a == b) = decide (a = b) := by by_cases h : a = b <;> simp [h]
  simp [binA, intBin, this]
theorem binA_neq : binA .neq (.val (.int k a)) (.val (.int k b)) = some (.val (.bool (!decide (a = b)))) := by
  have : (a != b) = !decide (a = b) := by by_cases h : a = b <;> simp [h]
  simp [binA, intBin, this]
theorem binA_add' : binA .add (.val (.int k a)) (.val (.int k b)) = some (.val (.int k (k.wrap (a + b)))) := by simp [binA, intBin]
theorem binA_sub' : binA .sub (.val (.int k a)) (.val (.int k b)) = some (.val (.int k (k.wrap (a - b)))) := by simp [binA, intBin]
theorem binA_mul' : binA .mul (.val (.int k a)) (.val (.int k b)) = some (.val (.int k (k.wrap (a * b)))) := by simp [binA, intBin]
theorem unA_neg' : unA .neg (.val (.int k a)) = some (.val (.int k (k.wrap (0 - a)))) := rfl
end
theorem wrap_i64 {a : Int} (h : -9223372036854775808 ≤ a ∧ a ≤ 9223372036854775807) : IntKind.i64.wrap a = a := IntWalk.i64_in _ h
theorem binA_add {a b : Int} (h : -9223372036854775808 ≤ a + b ∧ a + b ≤ 9223372036854775807) : binA .add (.val (.int .i64 a)) (.val (.int .i64 b)) = some (.val (.int .i64 (a + b))) := by rw [binA_add', wrap_i64 h]
theorem binA_sub {a b : Int} (h : -9223372036854775808 ≤ a - b ∧ a - b ≤ 9223372036854775807) : binA .sub (.val (.int .i64 a)) (.val (.int .i64 b)) = some (.val (.int .i64 (a - b))) := by rw [binA_sub', wrap_i64 h]
theorem binA_mul {a b : Int} (h : -9223372036854775808 ≤ a * b ∧ a * b ≤ 9223372036854775807) : binA .mul (.val (.int .i64 a)) (.val (.int .i64 b)) = some (.val (.int .i64 (a * b))) := by rw [binA_mul', wrap_i64 h]
theorem binA_succ {i : Nat} (h : i < 4611686018427387904) : binA .add (.val (.int .i64 i)) (.val (.int .i64 1)) = some (.val (.int .i64 ((i + 1 : Nat) : Int))) := by rw [binA_add (by omega)]; simp
theorem toList_mk (s : Str) : (⟨s.toArray⟩ : ByteArray).toList = s := by
  rw [ByteArray.toList_eq]
theorem binA_seq {s t : Str} : binA .eql (S s) (S t) = some (Bo (decide (s = t))) := by
  have : (s == t) = decide (s = t) := by by_cases h : s = t <;> simp [h]
  simp only [binA, strBin, Option.map_some, toList_mk, this]
theorem binA_sne {s t : Str} : binA .neq (S s) (S t) = some (Bo (!decide (s = t))) := by
  have : (s == t) = decide (s = t) := by by_cases h : s = t <;> simp [h]
  simp only [binA, strBin, Option.map_some, toList_mk, this]
theorem unA_not {b : Bool} : unA .not (.val (.bool b)) = some (.val (.bool !b)) := rfl
theorem lenS_S {s : Str} : lenS (S s) = some (Z s.length) := by
  simp [lenS, ByteArray.size]
theorem idxS {s : Str} {i : Nat} (h : i < s.length) : idxStr (S s) (Z i) = some (By s[i]) := by
  simp only [idxStr]
  have h1 : ((i : Int) < ((⟨s.toArray⟩ : ByteArray).size : Int)) := by simp [ByteArray.size]; omega
  rw [if_pos ⟨by omega, h1⟩]
  simp [List.getD, h]
theorem extract_mk (s : Str) (i j : Nat) : (⟨s.toArray⟩ : ByteArray).extract i j = ⟨((s.take j).drop i).toArray⟩ := by
  apply ByteArray.ext
  rw [ByteArray.data_extract]
  simp only [List.extract_toArray, List.toArray_eq_iff, List.extract_eq_take_drop]
  rw [List.drop_take]
theorem sliceS_S {s : Str} {lo hi : Option AV} {l h : Int} (hl : bnd lo 0 = some l) (hh : bnd hi s.length = some h) (h0 : 0 ≤ l) (h1 : l ≤ h) (h2 : h ≤ s.length) : sliceS (S s) lo hi = some (S ((s.take h.toNat).drop l.toNat)) := by
  have hs : (⟨s.toArray⟩ : ByteArray).size = s.length := by simp [ByteArray.size]
  simp only [sliceS, hl, Option.bind_some, hs, hh]
  rw [if_pos ⟨h0, h1, h2⟩, extract_mk]
theorem bnd_none {d : Nat} : bnd none d = some d := rfl
theorem bnd_some {k : IntKind} {n : Int} {d : Nat} : bnd (some (.val (.int k n))) d = some n := rfl

/-- what lies in a block of cells -/
def blkCells (g : Nat) : Option Blk → Option (List AV)
  | some (.cells g' _ cs) => if g' = g then some cs else none
  | _ => none
def blkDo {α : Type} (g : Nat) (f : Nat → List AV → Option α) : Option Blk → Option α
  | some (.cells g' sz cs) => if g' = g then f sz cs else none
  | _ => none
theorem blkCells_self {g sz : Nat} {cs : List AV} : blkCells g (some (.cells g sz cs)) = some cs := by simp [blkCells]
theorem blkDo_self {α : Type} {g sz : Nat} {cs : List AV} {f : Nat → List AV → Option α} : blkDo g f (some (.cells g sz cs)) = f sz cs := by simp [blkDo]
theorem AH.cells_blk {H : AH} {b g : Nat} : H.cells b g = blkCells g H.bs[b]? := by
  simp only [AH.cells]; cases H.bs[b]? with
  | none => rfl
  | some x => cases x <;> rfl
theorem load1_L {b o g : Nat} {H : AH} : load1 (.ptrL b o g) H = (blkCells g H.bs[b]?).bind fun cs => cs[o]? := by simp [load1, AH.cells_blk]
theorem load1_F {l : List AV} {i : Nat} {H : AH} : load1 (.ptrF l i) H = l[i]? := rfl
theorem loadN_L {n b o g : Nat} {H : AH} : loadN n (.ptrL b o g) H = (blkCells g H.bs[b]?).bind fun cs => (subL cs o n).map .agg := by simp [loadN, AH.cells_blk]
theorem loadN_F {n : Nat} {l : List AV} {i : Nat} {H : AH} : loadN n (.ptrF l i) H = (subL l i n).map .agg := rfl
theorem store1_L {b o g : Nat} {x : AV} {H : AH} (hx : x.scalar = true) : store1 (.ptrL b o g) x H = blkDo g (fun sz cs => if o < cs.length then some ⟨H.bs.set b (.cells g sz (cs.set o x)), H.ctr⟩ else none) H.bs[b]? := by
  simp only [store1, hx, if_true, AH.cells, AH.set]
  cases hb : H.bs[b]? with
  | none => rfl
  | some y =>
    cases y with
    | cells g' sz cs =>
      simp only [blkDo]
      by_cases hg : g' = g <;> simp [hg]
    | _ => rfl
theorem storeN_L {n b o g : Nat} {xs : List AV} {H : AH} (hn : xs.length = n) (hx : xs.all AV.scalar = true) :
    storeN n (.ptrL b o g) (.agg xs) H = blkDo g (fun sz cs => (putL cs o xs).map fun cs' => ⟨H.bs.set b (.cells g sz cs'), H.ctr⟩) H.bs[b]? := by
  simp only [storeN, hn, hx, and_self, if_true, AH.cells, AH.set]
  cases hb : H.bs[b]? with
  | none => rfl
  | some y =>
    cases y with
    | cells g' sz cs =>
      simp only [blkDo]
      by_cases hg : g' = g <;> simp [hg]
    | _ => rfl
theorem faddr_L {off b o g : Nat} : faddr off (.ptrL b o g) = some (.ptrL b (o + off) g) := rfl
theorem faddr_F {off : Nat} {cs : List AV} {o : Nat} : faddr off (.ptrF cs o) = some (.ptrF cs (o + off)) := rfl
theorem extractA_tup {vs : List AV} {i : Nat} : extractA (.tup vs) i = vs[i]? := rfl
theorem lenA_N {cs : List AV} {n : Nat} : lenA (.slN cs n) = some (Z n) := rfl
theorem lenA_F {cs : List AV} {o n : Nat} : lenA (.slF cs o n) = some (Z n) := rfl
theorem lenA_L {b o n g : Nat} : lenA (.slL b o n g) = some (Z n) := rfl
theorem lenA_T {b n g : Nat} {cs : List AV} : lenA (.slT b cs n g) = some (Z n) := rfl
theorem lenA_nil : lenA nilS = some (Z 0) := rfl
theorem iaddr_N {sz : Nat} {cs : List AV} {n : Nat} {k : IntKind} {i : Int} (h : 0 ≤ i ∧ i < n) : iaddr sz (.slN cs n) (.val (.int k i)) = some (.ptrF cs (i.toNat * sz)) := by simp [iaddr, h]
theorem iaddr_F {sz : Nat} {cs : List AV} {o n : Nat} {k : IntKind} {i : Int} (h : 0 ≤ i ∧ i < n) : iaddr sz (.slF cs o n) (.val (.int k i)) = some (.ptrF cs (o + i.toNat * sz)) := by simp [iaddr, h]
theorem iaddr_L {sz b o n g : Nat} {k : IntKind} {i : Int} (h : 0 ≤ i ∧ i < n) : iaddr sz (.slL b o n g) (.val (.int k i)) = some (.ptrL b (o + i.toNat * sz) g) := by simp [iaddr, h]
theorem iaddr_T {sz : Nat} {b : Nat} {cs : List AV} {n g : Nat} {k : IntKind} {i : Int} (h : 0 ≤ i ∧ i < n) : iaddr sz (.slT b cs n g) (.val (.int k i)) = some (.ptrF cs (i.toNat * sz)) := by simp [iaddr, h]
theorem iaddr_Nn {cs : List AV} {n : Nat} {k : IntKind} {i : Nat} (h : i < n) : iaddr 1 (.slN cs n) (.val (.int k i)) = some (.ptrF cs i) := by rw [iaddr_N (by omega)]; simp
theorem iaddr_Ln {b n g : Nat} {k : IntKind} {i : Nat} (h : i < n) : iaddr 1 (.slL b 0 n g) (.val (.int k i)) = some (.ptrL b i g) := by rw [iaddr_L (by omega)]; simp
theorem iaddr_Tn {b : Nat} {cs : List AV} {n g : Nat} {k : IntKind} {i : Nat} (h : i < n) : iaddr 1 (.slT b cs n g) (.val (.int k i)) = some (.ptrF cs i) := by rw [iaddr_T (by omega)]; simp
theorem sub_two (a b : AV) : subL [a, b] 0 2 = some [a, b] := rfl
theorem sub_three (a b c : AV) : subL [a, b, c] 0 3 = some [a, b, c] := rfl
theorem sub_four (a b c d : AV) : subL [a, b, c, d] 0 4 = some [a, b, c, d] := rfl
theorem cells?_scalar {x : AV} (h : x.scalar = true) : x.cells? = some [x] := by
  cases x <;> simp_all [AV.cells?, AV.scalar]
theorem cells?_agg {cs : List AV} : (AV.agg cs).cells? = some cs := rfl
theorem fillA_nil {z : List AV} : fillA z [] = some z := rfl
theorem fillA_one {z : List AV} {o : Nat} {x : AV} {r : List (Nat × Nat × AV)} (hx : x.scalar = true) (ho : o < z.length) : fillA z ((o, 1, x) :: r) = fillA (z.set o x) r := by
  simp only [fillA, cells?_scalar hx, Option.bind_some, List.length_singleton, if_true, putL]
  rw [if_pos (by omega), Option.bind_some, List.set_eq_take_append_cons_drop, if_pos ho]
  simp
theorem fillA_agg {z : List AV} {o n : Nat} {cs : List AV} {r : List (Nat × Nat × AV)} (hn : cs.length = n) (ho : o + n ≤ z.length) : fillA z ((o, n, .agg cs) :: r) = fillA (z.take o ++ cs ++ z.drop (o + n)) r := by
  subst hn
  simp only [fillA, cells?_agg, Option.bind_some, if_true, putL]
  rw [if_pos ho, Option.bind_some]
theorem scalar_val {v : Value} (h : okCell v = true) : (AV.val v).scalar = true := by cases v <;> simp_all [okCell, AV.scalar]

theorem eqA_bool {a b : Bool} : eqA .bool (Bo a) (Bo b) = some (a == b) := rfl
theorem eqA_ifc {k : Nat} {a : AV} : eqA .iface (.ifc k a) nilE = some false := rfl
theorem eqA_nilE : eqA .iface nilE nilE = some true := rfl
theorem eqA_pF {cs : List AV} {o : Nat} : eqA .ptr (.ptrF cs o) nilP = some false := rfl
theorem eqA_pL {b o g : Nat} : eqA .ptr (.ptrL b o g) nilP = some false := rfl
theorem eqA_pN : eqA .ptr nilP nilP = some true := rfl
theorem eqA_slF {cs : List AV} {o n : Nat} : eqA .slice (.slF cs o n) nilS = some false := rfl
theorem eqA_slL {b o n g : Nat} : eqA .slice (.slL b o n g) nilS = some false := rfl
theorem eqA_slT {b n g : Nat} {cs : List AV} : eqA .slice (.slT b cs n g) nilS = some false := rfl
theorem eqA_slZ : eqA .slice nilS nilS = some true := rfl
theorem nilA_F {cs : List AV} {o : Nat} : nilA (.ptrF cs o) = some (.ptrF cs o) := rfl
theorem nilA_L {b o g : Nat} : nilA (.ptrL b o g) = some (.ptrL b o g) := rfl
theorem nilA_fn {k : Nat} {fs cs : List AV} : nilA (.fn k fs cs) = some (.fn k fs cs) := rfl
theorem flat_succ {n : Nat} {l : List AV} : (List.replicate (n + 1) l).flatten = l ++ (List.replicate n l).flatten := by simp [List.replicate_succ]
theorem flat_zero {l : List AV} : (List.replicate 0 l).flatten = [] := rfl
/-- a slice of plain data -/
abbrev Lm {α : Type} (f : α → AV) (xs : List α) : AV := .slN (xs.map f) xs.length
theorem at_mid {α β : Type} {f : α → β} {pre rest : List α} {x : α} : ((pre ++ x :: rest).map f)[pre.length]? = some (f x) := by simp
theorem lt_mid {α : Type} {pre rest : List α} {x : α} : pre.length < (pre ++ x :: rest).length := by simp
theorem len_snoc {α : Type} {pre : List α} {x : α} : (pre ++ [x]).length = pre.length + 1 := by simp
theorem iaddrArr_F {sz n : Nat} {cs : List AV} {o : Nat} {k : IntKind} {i : Int} (h : 0 ≤ i ∧ i < n) : iaddrArr sz n (.ptrF cs o) (.val (.int k i)) = some (.ptrF cs (o + i.toNat * sz)) := by simp [iaddrArr, h]
theorem iaddrArr_L {sz n b o g : Nat} {k : IntKind} {i : Int} (h : 0 ≤ i ∧ i < n) : iaddrArr sz n (.ptrL b o g) (.val (.int k i)) = some (.ptrL b (o + i.toNat * sz) g) := by simp [iaddrArr, h]
theorem convA_int {k k' : IntKind} {n : Int} : convA (.int k) (.val (.int k' n)) = some (.val (.int k (k.wrap n))) := rfl
theorem convA_str {s : ByteArray} : convA .string (.val (.string s)) = some (.val (.string s)) := rfl
theorem pickA_b {b : Bool} {x y : AV} : pickA (.val (.bool b)) x y = some (if b then x else y) := rfl
theorem closed_map {α : Type} {f : α → AV} (h : ∀ x, (f x).closed) (xs : List α) : AV.closedL (xs.map f) := AV.closedL_iff.2 fun y hy => by
  obtain ⟨x, _, rfl⟩ := List.mem_map.1 hy
  exact h x
theorem closed_map' {α : Type} {f : α → AV} {xs : List α} (h : ∀ x ∈ xs, (f x).closed) : AV.closedL (xs.map f) := AV.closedL_iff.2 fun y hy => by
  obtain ⟨x, hx, rfl⟩ := List.mem_map.1 hy
  exact h x hx
theorem closed_S (l : List Str) : AV.closedL (l.map fun s => S s) := closed_map (f := fun s => S s) (fun _ => by trivial) l
theorem closed_Z (l : List Int) : AV.closedL (l.map fun z => Z z) := closed_map (f := fun z => Z z) (fun _ => by trivial) l
theorem closed_B (l : List Bool) : AV.closedL (l.map fun b => Bo b) := closed_map (f := fun b => Bo b) (fun _ => by trivial) l

/-! ### told with less -/
theorem Sub.trans {x y z : AV} (h : Sub x y) (k : Sub y z) : Sub x z := fun E c v r => k E c v (h E c v r)
theorem Sub.junk (x : AV) : Sub x .junk := fun _ _ _ _ => by simp [VRel]
theorem Sub.F {cs cs' : List AV} {len : Nat} (h : SubL cs cs') : Sub (.slF cs 0 len) (.slN cs' len) := fun E c v r => by
  simp only [VRel] at r ⊢
  obtain ⟨p, cap, rfl, hl, r⟩ := r
  refine .inr ⟨p, cap, rfl, hl, r.imp id ?_⟩
  rintro ⟨b, o, rfl, hc⟩
  exact ⟨b, o, rfl, h.crel hc⟩
theorem Sub.Fo {cs : List AV} {off len : Nat} (k : Nat) : Sub (.slF cs off len) (.slN ((cs.drop off).take k) len) := fun E c v r => by
  simp only [VRel] at r ⊢
  obtain ⟨p, cap, rfl, hl, r⟩ := r
  refine .inr ⟨p, cap, rfl, hl, r.imp id ?_⟩
  rintro ⟨b, o, rfl, hc⟩
  exact ⟨b, o + off, rfl, (hc.drop off).take k⟩
theorem Sub.N {cs cs' : List AV} {len : Nat} (h : SubL cs cs') : Sub (.slN cs len) (.slN cs' len) := fun E c v r => by
  simp only [VRel] at r ⊢
  refine r.imp id ?_
  rintro ⟨p, cap, rfl, hl, r⟩
  refine ⟨p, cap, rfl, hl, r.imp id ?_⟩
  rintro ⟨b, o, rfl, hc⟩
  exact ⟨b, o, rfl, h.crel hc⟩
theorem Sub.T {b g : Nat} {cs cs' : List AV} {len : Nat} (h : SubL cs cs') : Sub (.slT b cs len g) (.slN cs' len) := fun E c v r => by
  simp only [VRel] at r ⊢
  obtain ⟨_, p, cap, rfl, hl, r⟩ := r
  refine .inr ⟨p, cap, rfl, hl, r.imp id ?_⟩
  rintro ⟨k, o, rfl, hc, _⟩
  exact ⟨k, o, rfl, h.crel hc⟩
theorem Sub.T' {b g : Nat} {cs : List AV} {len : Nat} : Sub (.slT b cs len g) (.slN cs len) := .T (.refl _)
theorem Sub.F' {cs : List AV} {len : Nat} : Sub (.slF cs 0 len) (.slN cs len) := .F (.refl _)
theorem Sub.nil {cs : List AV} : Sub nilS (.slN cs 0) := fun E c v r => by
  simp only [VRel] at r ⊢
  exact .inl ⟨r, trivial⟩
theorem Sub.ptr {cs cs' : List AV} {o : Nat} (h : SubL cs cs') : Sub (.ptrF cs o) (.ptrF cs' o) := fun E c v r => by
  simp only [VRel] at r ⊢
  obtain ⟨b, o, rfl, hc⟩ := r
  exact ⟨b, o, rfl, h.crel hc⟩
theorem Sub.agg {cs cs' : List AV} (h : SubL cs cs') : Sub (.agg cs) (.agg cs') := fun E c v r => by
  simp only [VRel] at r ⊢
  obtain ⟨vs, rfl, hl⟩ := r
  exact ⟨vs, rfl, h.rel hl⟩
theorem Sub.tup {cs cs' : List AV} (h : SubL cs cs') : Sub (.tup cs) (.tup cs') := fun E c v r => by
  simp only [VRel] at r ⊢
  obtain ⟨vs, rfl, hl⟩ := r
  exact ⟨vs, rfl, h.rel hl⟩
theorem Sub.ifc {k : Nat} {x y : AV} (h : Sub x y) : Sub (.ifc k x) (.ifc k y) := fun E c v r => by
  simp only [VRel] at r ⊢
  obtain ⟨u, rfl, hk, hl⟩ := r
  exact ⟨u, rfl, hk, h E c u hl⟩
theorem Sub.fn {k : Nat} {fs fs' cs cs' : List AV} (h : SubL fs fs') (h' : SubL cs cs') : Sub (.fn k fs cs) (.fn k fs' cs') := fun E c v r => by
  simp only [VRel] at r ⊢
  obtain ⟨gs, ds, rfl, h1, h2⟩ := r
  exact ⟨gs, ds, rfl, h.rel h1, h'.rel h2⟩
theorem SubL.one {x y : AV} (h : Sub x y) : SubL [x] [y] := .cons h .nil
theorem SubL.two {x y x' y' : AV} (h : Sub x y) (h' : Sub x' y') : SubL [x, x'] [y, y'] := .cons h (.one h')
theorem SubL.append : ∀ {xs xs' ys ys' : List AV}, SubL xs xs' → SubL ys ys' → SubL (xs ++ ys) (xs' ++ ys')
  | _, _, _, _, .nil, h => h
  | _, _, _, _, .cons h1 h2, h => .cons h1 (SubL.append h2 h)
theorem FkL.sub {H : AH} {S : Nat → Bool} : ∀ {xs ys : List AV}, SubL xs ys → FkL H S xs ys
  | _, _, .nil => .nil
  | _, _, .cons h1 h2 => .cons (.sub h1) (FkL.sub h2)

/-! ### new memory -/
section
variable {sz len bytes : Nat} {l : List AV} {cs : Option (List AV)} {H : AH} {K : Kt}
/-- frozen at once -/
theorem wNew.F {l' : List AV} (hc : cs = some l) (hs : SubL l l') (h : K (.ptrF l' 0) H) : wNew sz cs H K := ⟨l, _, _, hc, .frz (.ptr hs), h⟩
theorem wNew.F' (hc : cs = some l) (h : K (.ptrF l 0) H) : wNew sz cs H K := .F hc (.refl _) h
theorem wNew.L (hc : cs = some l) (h : K (.ptrL H.bs.length 0 H.ctr) ⟨H.bs ++ [.cells H.ctr sz l], H.ctr + 1⟩) : wNew sz cs H K :=
  ⟨l, _, _, hc, .live H.bs.length (.inl rfl), by simpa [AH.put] using h⟩
theorem wNew.S (b : Nat) (hc : cs = some l) (hb : H.bs[b]? = some .dead) (h : K (.ptrL b 0 H.ctr) ⟨H.bs.set b (.cells H.ctr sz l), H.ctr + 1⟩) : wNew sz cs H K :=
  ⟨l, _, _, hc, .live b (.inr hb), by
    have := lt_of_get hb
    have hne : b ≠ H.bs.length := by omega
    simpa [AH.put, hne] using h⟩
theorem wNewS.F {l' : List AV} (hc : cs = some l) (hs : SubL l l') (hl : l.length = len * sz) (h : K (.slN l' len) H) : wNewS sz len cs H K := ⟨l, _, _, hc, hl, .frz (.F hs), h⟩
theorem wNewS.F' (hc : cs = some l) (hl : l.length = len * sz) (h : K (.slN l len) H) : wNewS sz len cs H K := .F hc (.refl _) hl h
theorem wNewS.L (hc : cs = some l) (hl : l.length = len * sz) (h : K (.slL H.bs.length 0 len H.ctr) ⟨H.bs ++ [.cells H.ctr sz l], H.ctr + 1⟩) : wNewS sz len cs H K :=
  ⟨l, _, _, hc, hl, .live H.bs.length (.inl rfl), by simpa [AH.put] using h⟩
theorem wNewS.S (b : Nat) (hc : cs = some l) (hl : l.length = len * sz) (hb : H.bs[b]? = some .dead) (h : K (.slL b 0 len H.ctr) ⟨H.bs.set b (.cells H.ctr sz l), H.ctr + 1⟩) : wNewS sz len cs H K :=
  ⟨l, _, _, hc, hl, .live b (.inr hb), by
    have := lt_of_get hb
    have hne : b ≠ H.bs.length := by omega
    simpa [AH.put, hne] using h⟩
theorem wNewS.T {l' : List AV} (hc : cs = some l) (hs : SubL l l') (hl : l.length = len * sz) (h : K (.slT H.bs.length l' len H.ctr) ⟨H.bs ++ [.tail H.ctr sz], H.ctr + 1⟩) : wNewS sz len cs H K :=
  ⟨l, _, _, hc, hl, .tail H.bs.length hs (.inl rfl), by simpa [AH.put] using h⟩
theorem wNewS.TS {l' : List AV} (b : Nat) (hc : cs = some l) (hs : SubL l l') (hl : l.length = len * sz) (hb : H.bs[b]? = some .dead) (h : K (.slT b l' len H.ctr) ⟨H.bs.set b (.tail H.ctr sz), H.ctr + 1⟩) : wNewS sz len cs H K :=
  ⟨l, _, _, hc, hl, .tail b hs (.inr hb), by
    have := lt_of_get hb
    have hne : b ≠ H.bs.length := by omega
    simpa [AH.put, hne] using h⟩
theorem makeA_n {n : Nat} (h : n * bytes ≤ mostBytes ∧ n ≤ mostBytes) {k k' : IntKind} : makeA bytes (.val (.int k n)) (.val (.int k' n)) = some n := by
  simp only [makeA]; rw [if_pos]; · simp
  exact ⟨by omega, trivial, by rw [← Int.natCast_mul]; exact Int.ofNat_le.2 h.1, Int.ofNat_le.2 h.2⟩
section
variable {zero : List AV} {x y : AV} {n : Nat}
theorem wMake.F (hm : makeA bytes x y = some n) (h : K (.slN (List.replicate n zero).flatten n) H) : wMake sz bytes zero x y H K := ⟨n, _, _, hm, .frz .F', h⟩
theorem wMake.L (hm : makeA bytes x y = some n) (h : K (.slL H.bs.length 0 n H.ctr) ⟨H.bs ++ [.cells H.ctr sz (List.replicate n zero).flatten], H.ctr + 1⟩) : wMake sz bytes zero x y H K :=
  ⟨n, _, _, hm, .live H.bs.length (.inl rfl), by simpa [AH.put] using h⟩
theorem wMake.S (b : Nat) (hm : makeA bytes x y = some n) (hb : H.bs[b]? = some .dead) (h : K (.slL b 0 n H.ctr) ⟨H.bs.set b (.cells H.ctr sz (List.replicate n zero).flatten), H.ctr + 1⟩) : wMake sz bytes zero x y H K :=
  ⟨n, _, _, hm, .live b (.inr hb), by
    have := lt_of_get hb
    have hne : b ≠ H.bs.length := by omega
    simpa [AH.put, hne] using h⟩
end
end

/-! ### slices that grow -/
/-- 'x' holds 'n' elements of 'sz' cells, 'cs', and may grow at place 'b', that holds 'z' -/
def Gr (sz : Nat) (z : Blk) (b : Nat) (x : AV) (cs : List AV) (n : Nat) : Prop := (x = nilS ∧ z = .dead ∧ cs = [] ∧ n = 0) ∨ ∃ g, x = .slT b cs n g ∧ z = .tail g sz
theorem Gr.nil {sz b : Nat} : Gr sz .dead b nilS [] 0 := .inl ⟨rfl, rfl, rfl, rfl⟩
theorem Gr.mk {sz b n g : Nat} {cs : List AV} : Gr sz (.tail g sz) b (.slT b cs n g) cs n := .inr ⟨g, rfl, rfl⟩
theorem Gr.len {sz : Nat} {z : Blk} {b : Nat} {x : AV} {cs : List AV} {n : Nat} (h : Gr sz z b x cs n) : lenA x = some (Z n) := by
  rcases h with ⟨rfl, _, _, rfl⟩ | ⟨g, rfl, _⟩ <;> rfl
theorem Gr.sub {sz : Nat} {z : Blk} {b : Nat} {x : AV} {cs : List AV} {n : Nat} (h : Gr sz z b x cs n) : Sub x (.slN cs n) := by
  rcases h with ⟨rfl, _, rfl, rfl⟩ | ⟨g, rfl, _⟩
  · exact .nil
  · exact .T'
theorem Gr.subS {sz : Nat} {z : Blk} {b : Nat} {x : AV} {cs cs' : List AV} {n : Nat} (h : Gr sz z b x cs n) (hs : SubL cs cs') : Sub x (.slN cs' n) := h.sub.trans (.N hs)
theorem Gr.scalar {sz : Nat} {z : Blk} {b : Nat} {x : AV} {cs : List AV} {n : Nat} (h : Gr sz z b x cs n) : x.scalar = true := by
  rcases h with ⟨rfl, _⟩ | ⟨g, rfl, _⟩ <;> rfl
theorem Gr.at {sz : Nat} {z : Blk} {b : Nat} {x : AV} {cs : List AV} {n : Nat} (h : Gr sz z b x cs n) {k : IntKind} {i : Int} (hi : 0 ≤ i ∧ i < n) : iaddr sz x (.val (.int k i)) = some (.ptrF cs (i.toNat * sz)) := by
  rcases h with ⟨rfl, _, rfl, rfl⟩ | ⟨g, rfl, _⟩
  · omega
  · exact iaddr_T hi
theorem Gr.cells {z : Blk} {b : Nat} {x : AV} {cs : List AV} {n : Nat} {sz : Nat} (h : Gr sz z b x cs n) (hn : cs.length = n * sz) (H : AH) : cellsOfA sz x H = some (n, cs) := by
  rcases h with ⟨rfl, _, rfl, rfl⟩ | ⟨g, rfl, _⟩
  · rfl
  · simp [cellsOfA, subL, ← hn]
theorem cellsOfA_len {sz m : Nat} {y : AV} {H : AH} {new : List AV} (hc : cellsOfA sz y H = some (m, new)) : new.length = m * sz := by
  have sub : ∀ {cs l : List AV} {o n : Nat}, subL cs o n = some l → l.length = n := fun h => by
    obtain ⟨h1, rfl⟩ := subL_some h
    simp; omega
  unfold cellsOfA at hc
  split at hc
  · injection hc with hc; injection hc with h1 hc; subst h1 hc; simp
  · simp only [Option.map_eq_some_iff, Prod.mk.injEq] at hc
    obtain ⟨l, h1, rfl, rfl⟩ := hc
    exact sub h1
  · simp only [Option.bind_eq_some_iff, Option.map_eq_some_iff, Prod.mk.injEq] at hc
    obtain ⟨_, _, l, h1, rfl, rfl⟩ := hc
    exact sub h1
  · simp only [Option.map_eq_some_iff, Prod.mk.injEq] at hc
    obtain ⟨l, h1, rfl, rfl⟩ := hc
    exact sub h1
  · simp only [Option.map_eq_some_iff, Prod.mk.injEq] at hc
    obtain ⟨l, h1, rfl, rfl⟩ := hc
    exact sub h1
  · split at hc
    · rename_i h1
      subst h1
      injection hc with hc; injection hc with h1 hc
      subst h1 hc
      rw [List.length_map, Nat.mul_one]
      exact Array.length_toList
    · cases hc
  · cases hc
theorem wApp.gr {sz bytes : Nat} {z : Blk} {b : Nat} {x y : AV} {cs new new' : List AV} {n m : Nat} {H : AH} {K : Kt} (hg : Gr sz z b x cs n) (hz : H.bs[b]? = some z) (hn : cs.length = n * sz) (hc : cellsOfA sz y H = some (m, new)) (hs : SubL new new')
    (hsc : new.all AV.scalar = true) (hb : (n + m) * bytes ≤ mostBytes ∧ n + m ≤ mostBytes) (hk : ∀ z' x' c', Gr sz z' b x' (cs ++ new') (n + m) → K x' ⟨H.bs.set b z', c'⟩) : wApp sz bytes x y H K := by
  have hbl := lt_of_get hz
  rcases hg with ⟨rfl, rfl, rfl, rfl⟩ | ⟨g, rfl, rfl⟩
  · by_cases hm : m = 0
    · subst hm
      have hnew : new = [] := List.eq_nil_of_length_eq_zero (by simpa using cellsOfA_len hc)
      subst hnew
      have : new' = [] := by
        have := hs.length
        exact List.eq_nil_of_length_eq_zero (by simpa using this.symm)
      subst this
      have := hk .dead nilS H.ctr (.inl ⟨rfl, rfl, rfl, rfl⟩)
      have hset : H.bs.set b .dead = H.bs := by
        have : H.bs[b] = .dead := by rw [List.getElem?_eq_getElem hbl] at hz; injection hz
        rw [← this]; simp
      rw [hset] at this
      exact ⟨nilS, H, .old (by simp [appendA, hc]), this⟩
    · refine ⟨_, _, .first b rfl (.inr hz) hc hm hs (by simpa using hb.1) (by simpa using hb.2), ?_⟩
      have hne : b ≠ H.bs.length := by omega
      simp only [AH.put, hne, if_false]
      have := hk (.tail H.ctr sz) (.slT b new' m H.ctr) (H.ctr + 1) (.inr ⟨_, by simp, rfl⟩)
      exact this
  · exact ⟨_, _, .grow rfl hz hn hc hs hsc hb.1 hb.2, hk _ _ _ (.inr ⟨_, rfl, rfl⟩)⟩
/-- one element of one cell more -/
theorem wApp.one {bytes : Nat} {z : Blk} {b : Nat} {x y y' : AV} {cs : List AV} {n : Nat} {H : AH} {K : Kt} (hg : Gr 1 z b x cs n) (hz : H.bs[b]? = some z) (hn : cs.length = n) (hs : Sub y y') (hsc : y.scalar = true) (hb : (n + 1) * bytes ≤ mostBytes ∧ n + 1 ≤ mostBytes)
    (hk : ∀ z' x' c', Gr 1 z' b x' (cs ++ [y']) (n + 1) → K x' ⟨H.bs.set b z', c'⟩) : wApp 1 bytes x (.slN [y] 1) H K :=
  wApp.gr hg hz (by simpa using hn) (new := [y]) (m := 1) rfl (.one hs) (by simpa using hsc) hb hk

/-! ### contracts -/
section
variable {E : Env} {P : Program}
/-- a call of frozen arguments: its result -/
structure FX (E : Env) (P : Program) (k : Nat) (args : List AV) (r : AV) : Prop where
  ok : ∀ n, ACalls E P k args ⟨[], n⟩ fun x _ => x = r
  ca : AV.closedL args
  cr : r.closed
theorem FX.of {k : Nat} {args : List AV} {r : AV} (ca : AV.closedL args) (cr : r.closed) (h : ∀ n (R : Kt), (∀ x H, Fk H S0 x r → R x H) → ACalls E P k args ⟨[], n⟩ R) : FX E P k args r where
  ok := fun n => (h n (fun x H => Fk H S0 x r) fun _ _ hx => hx).mono fun _ H hx => ⟨r, ⟨[], H.ctr⟩, ghost_all (.cons hx .nil), rfl⟩
  ca := ca
  cr := cr
theorem FX.of' {k : Nat} {args : List AV} {r : AV} (ca : AV.closedL args) (cr : r.closed) (h : ∀ n (R : Kt), (∀ x H, x = r → R x H) → ACalls E P k args ⟨[], n⟩ R) : FX E P k args r :=
  .of ca cr fun n R hR => h n R fun x H e => hR x H (e ▸ .same _)
/-- told by a relation -/
structure FR (E : Env) (P : Program) (k : Nat) (args : List AV) (R0 : AV → Prop) : Prop where
  ok : ∀ n, ACalls E P k args ⟨[], n⟩ fun x _ => R0 x
  ca : AV.closedL args
  cr : ∀ r, R0 r → r.closed
theorem FR.of {k : Nat} {args : List AV} {R0 : AV → Prop} (ca : AV.closedL args) (cr : ∀ r, R0 r → r.closed) (h : ∀ n (R : Kt), (∀ x r H, Fk H S0 x r → R0 r → R x H) → ACalls E P k args ⟨[], n⟩ R) : FR E P k args R0 where
  ok := fun n => (h n (fun x H => ∃ r, Fk H S0 x r ∧ R0 r) fun _ r _ hx hr => ⟨r, hx, hr⟩).mono fun _ H ⟨r, hx, hr⟩ => ⟨r, ⟨[], H.ctr⟩, ghost_all (.cons hx .nil), hr⟩
  ca := ca
  cr := cr
theorem FX.fr {k : Nat} {args : List AV} {r : AV} (h : FX E P k args r) : FR E P k args (fun x => x = r) := ⟨h.ok, h.ca, fun _ e => e ▸ h.cr⟩

theorem FR.lift {k : Nat} {args : List AV} {R0 : AV → Prop} (h : FR E P k args R0) (H : AH) : ACalls E P k args H fun r H' => R0 r ∧ ∃ n, H' = ⟨H.bs, n⟩ := by
  have := ACalls.frame (mv := []) (B := []) (args0 := args) (args := args) (H := H) (R0 := fun r _ => R0 r) (fun n => (h.ok n).mono fun r H' hr => ⟨r, ⟨[], H'.ctr⟩, by
      refine ghost_all (.cons (.same _) .nil), hr, rfl⟩) (by simp) rfl (by simp) (by rw [AV.renL_closed _ h.ca])
  refine this.mono fun r H' ⟨r0, B', n, h1, h2, h3, h4⟩ => ⟨r, H', .refl _ _, ?_, n, ?_⟩
  · rw [h3, AV.ren_closed _ (h.cr _ h1)]; exact h1
  · have hB : B' = [] := List.eq_nil_of_length_eq_zero h2
    rw [h4, hB]; simp [setL]
theorem wCall.fr {k : Nat} {args args' : List AV} {R0 : AV → Prop} {H : AH} {K : Kt} (h : FR E P k args' R0) (hs : SubL args args') (hK : ∀ r n, R0 r → K r ⟨H.bs, n⟩) : wCall E P k args H K :=
  ⟨_, ACalls.args (ghost_sub hs) (h.lift H), fun r _ ⟨h1, n, h2⟩ => h2 ▸ hK r n h1⟩
theorem wCall.fx {k : Nat} {args : List AV} {r : AV} {H : AH} {K : Kt} (h : FX E P k args r) (hK : ∀ n, K r ⟨H.bs, n⟩) : wCall E P k args H K :=
  .fr h.fr (.refl _) fun _ n e => e ▸ hK n
theorem wCall.fxs {k : Nat} {args args' : List AV} {r : AV} {H : AH} {K : Kt} (h : FX E P k args' r) (hs : SubL args args') (hK : ∀ n, K r ⟨H.bs, n⟩) : wCall E P k args H K :=
  .fr h.fr hs fun _ n e => e ▸ hK n
end
end Go.Sc
