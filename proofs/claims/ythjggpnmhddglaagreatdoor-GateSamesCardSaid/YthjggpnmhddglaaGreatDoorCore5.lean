/- NODES, AS A PROOF READS THEM; values of plain data; contracts, as a proof uses them. LOOPS AND JOINS, OF SO MANY VARIABLES; CALLS. ERRORS OF PACKAGE api; short names of the nodes' lemmas. ARGUMENTS AS ABSTRACT VALUES: what a call is given lies in memory that the call does not write: frozen. DECODING: what arguments are, by their types, with their sizes; and variables that are known. CONTRACTS: lists of numbers are compared, searched, copied. PLAIN LAWS of tables: numbering, rounds, blocks (no program in sight). PLAIN LAWS OF TABLES: the rounds end; in the table of blocks no two states are alike. (of the seat YthjggpnmhddglaaGreatDoor) -/
import Derived.Test.YthjggpnmhddglaaGreatDoorCore4
import Derived.IntWalk
import Derived.Laws.Strings
import Derived.Below
import Derived.ChangeArms
import Derived.SizedLaws
import Derived.WideShapes
import Derived.OpenShut
import Derived.LaidSub
namespace Go.Sc
open Go
/-! ### nodes -/
theorem wGet_some {x : AV} {H : AH} {K : Kt} : wGet (some x) H K ↔ K x H := ⟨fun ⟨_, h, k⟩ => by injection h with h; exact h ▸ k, fun k => ⟨x, rfl, k⟩⟩
theorem wPut_some {H : AH} {K : Kt} : wPut (some H) K ↔ K undefA H := ⟨fun ⟨_, h, k⟩ => by injection h with h; exact h ▸ k, fun k => ⟨H, rfl, k⟩⟩
theorem wDo_some {x : AV} {H : AH} {K : Kt} : wDo (some (x, H)) K ↔ K x H := ⟨fun ⟨_, _, h, k⟩ => by injection h with h; injection h with h1 h2; exact h1 ▸ h2 ▸ k, fun k => ⟨x, H, rfl, k⟩⟩
theorem wBool_some {b : Bool} {H : AH} {neg : Bool} {K : Kt} : wBool (some b) H neg K ↔ K (.val (.bool (b != neg))) H := ⟨fun ⟨_, h, k⟩ => by injection h with h; exact h ▸ k, fun k => ⟨b, rfl, k⟩⟩
theorem wAgg_some {l : List AV} {H : AH} {K : Kt} : wAgg (some l) H K ↔ K (.agg l) H := ⟨fun ⟨_, h, k⟩ => by injection h with h; exact h ▸ k, fun k => ⟨l, rfl, k⟩⟩
theorem wIf_bool {b : Bool} {t f : Prop} : wIf (.val (.bool b)) t f ↔ (b = true → t) ∧ (b = false → f) := ⟨fun ⟨_, h, k⟩ => by injection h with h; injection h with h; subst h; exact k, fun k => ⟨b, rfl, k⟩⟩
theorem wIf.dec {p : Prop} [Decidable p] {t f : Prop} (h1 : p → t) (h2 : ¬ p → f) : wIf (.val (.bool (decide p))) t f :=
  ⟨_, rfl, fun h => h1 (of_decide_eq_true h), fun h => h2 (of_decide_eq_false h)⟩
theorem wIf.bool {b : Bool} {t f : Prop} (h1 : b = true → t) (h2 : b = false → f) : wIf (.val (.bool b)) t f := ⟨_, rfl, h1, h2⟩
theorem wGuard_bool {b want : Bool} {H : AH} {m : Kt → Prop} {K : Kt} : wGuard (.val (.bool b)) want H m K ↔ (b = want → m K) ∧ (b ≠ want → K undefA H) := by
  constructor
  · rintro ⟨⟨_, h, k⟩ | ⟨h, k⟩⟩
    · injection h with h; injection h with h; subst h; exact k
    · simp [undefA] at h
  · exact fun k => ⟨.inl ⟨b, rfl, k⟩⟩
theorem wGuard_undef {want : Bool} {H : AH} {m : Kt → Prop} {K : Kt} : wGuard undefA want H m K ↔ K undefA H := by
  constructor
  · rintro ⟨⟨_, h, k⟩ | ⟨h, k⟩⟩
    · simp [undefA] at h
    · exact k
  · exact fun k => ⟨.inr ⟨rfl, k⟩⟩
theorem wIf_true {t f : Prop} : wIf (.val (.bool true)) t f ↔ t := by simp [wIf_bool]
theorem wIf_false {t f : Prop} : wIf (.val (.bool false)) t f ↔ f := by simp [wIf_bool]
theorem wGuard_ff {H : AH} {m : Kt → Prop} {K : Kt} : wGuard (.val (.bool false)) false H m K ↔ m K := by simp [wGuard_bool]
theorem wGuard_tt {H : AH} {m : Kt → Prop} {K : Kt} : wGuard (.val (.bool true)) true H m K ↔ m K := by simp [wGuard_bool]
theorem wGuard_ft {H : AH} {m : Kt → Prop} {K : Kt} : wGuard (.val (.bool false)) true H m K ↔ K undefA H := by simp [wGuard_bool]
theorem wGuard_tf {H : AH} {m : Kt → Prop} {K : Kt} : wGuard (.val (.bool true)) false H m K ↔ K undefA H := by simp [wGuard_bool]
theorem pickA_t {a b : AV} : pickA (.val (.bool true)) a b = some a := rfl
theorem pickA_f {a b : AV} : pickA (.val (.bool false)) a b = some b := rfl

/-! ### plain data -/
abbrev nilS : AV := .val (.slice none 0 0)
abbrev nilE : AV := .val .nilIface
abbrev nilP : AV := .val (.pointer none)
abbrev Z (x : Int) : AV := .val (.int .i64 x)
abbrev Bo (b : Bool) : AV := .val (.bool b)
abbrev Str := List UInt8
abbrev S (s : Str) : AV := .val (.string ⟨s.toArray⟩)
abbrev By (b : UInt8) : AV := .val (.int .u8 b.toNat)
/-- a slice of one-cell elements -/
abbrev L (cs : List AV) : AV := .slN cs cs.length

section
variable {k : IntKind} {a b : Int}
theorem binA_lss : binA .lss (.val (.int k a)) (.val (.int k b)) = some (.val (.bool (decide (a < b)))) := by simp [binA, intBin]
theorem binA_leq : binA .leq (.val (.int k a)) (.val (.int k b)) = some (.val (.bool (decide (a ≤ b)))) := by simp [binA, intBin]
theorem binA_gtr : binA .gtr (.val (.int k a)) (.val (.int k b)) = some (.val (.bool (decide (b < a)))) := by simp [binA, intBin]
theorem binA_geq : binA .geq (.val (.int k a)) (.val (.int k b)) = some (.val (.bool (decide (b ≤ a)))) := by simp [binA, intBin]
theorem binA_eql : binA .eql (.val (.int k a)) (.val (.int k b)) = some (.val (.bool (decide (a = b)))) := by
  have : (a == b) = decide (a = b) := by by_cases h : a = b <;> simp [h]
  simp [binA, intBin, this]
theorem binA_neq : binA .neq (.val (.int k a)) (.val (.int k b)) = some (.val (.bool (!decide (a = b)))) := by
  have : (a != b) = !decide (a = b) := by by_cases h : a = b <;> simp [h]
  simp [binA, intBin, this]
theorem binA_add' : binA .add (.val (.int k a)) (.val (.int k b)) = some (.val (.int k (k.wrap (a + b)))) := by simp [binA, intBin]
theorem binA_sub' : binA .sub (.val (.int k a)) (.val (.int k b)) = some (.val (.int k (k.wrap (a - b)))) := by simp [binA, intBin]
theorem binA_mul' : binA .mul (.val (.int k a)) (.val (.int k b)) = some (.val (.int k (k.wrap (a * b)))) := by simp [binA, intBin]
theorem unA_neg' : unA .neg (.val (.int k a)) = some (.val (.int k (k.wrap (0 - a)))) := rfl
end
theorem wrap_i64 {a : Int} (h : -9223372036854775808 ≤ a ∧ a ≤ 9223372036854775807) : IntKind.i64.wrap a = a := IntWalk.i64_in _ h
theorem binA_add {a b : Int} (h : -9223372036854775808 ≤ a + b ∧ a + b ≤ 9223372036854775807) : binA .add (.val (.int .i64 a)) (.val (.int .i64 b)) = some (.val (.int .i64 (a + b))) := by rw [binA_add', wrap_i64 h]
theorem binA_sub {a b : Int} (h : -9223372036854775808 ≤ a - b ∧ a - b ≤ 9223372036854775807) : binA .sub (.val (.int .i64 a)) (.val (.int .i64 b)) = some (.val (.int .i64 (a - b))) := by rw [binA_sub', wrap_i64 h]
theorem binA_mul {a b : Int} (h : -9223372036854775808 ≤ a * b ∧ a * b ≤ 9223372036854775807) : binA .mul (.val (.int .i64 a)) (.val (.int .i64 b)) = some (.val (.int .i64 (a * b))) := by rw [binA_mul', wrap_i64 h]
theorem binA_succ {i : Nat} (h : i < 4611686018427387904) : binA .add (.val (.int .i64 i)) (.val (.int .i64 1)) = some (.val (.int .i64 ((i + 1 : Nat) : Int))) := by rw [binA_add (by omega)]; simp
theorem toList_mk (s : Str) : (⟨s.toArray⟩ : ByteArray).toList = s := by
  rw [ByteArray.toList_eq]
theorem binA_seq {s t : Str} : binA .eql (S s) (S t) = some (Bo (decide (s = t))) := by
  have : (s == t) = decide (s = t) := by by_cases h : s = t <;> simp [h]
  simp only [binA, strBin, Option.map_some, toList_mk, this]
theorem binA_sne {s t : Str} : binA .neq (S s) (S t) = some (Bo (!decide (s = t))) := by
  have : (s == t) = decide (s = t) := by by_cases h : s = t <;> simp [h]
  simp only [binA, strBin, Option.map_some, toList_mk, this]
theorem unA_not {b : Bool} : unA .not (.val (.bool b)) = some (.val (.bool !b)) := rfl
theorem lenS_S {s : Str} : lenS (S s) = some (Z s.length) := by
  simp [lenS, ByteArray.size]
theorem idxS {s : Str} {i : Nat} (h : i < s.length) : idxStr (S s) (Z i) = some (By s[i]) := by
  simp only [idxStr]
  have h1 : ((i : Int) < ((⟨s.toArray⟩ : ByteArray).size : Int)) := by simp [ByteArray.size]; omega
  rw [if_pos ⟨by omega, h1⟩]
  simp [List.getD, h]
theorem extract_mk (s : Str) (i j : Nat) : (⟨s.toArray⟩ : ByteArray).extract i j = ⟨((s.take j).drop i).toArray⟩ := by
  apply ByteArray.ext
  rw [ByteArray.data_extract]
  simp only [List.extract_toArray, List.toArray_eq_iff, List.extract_eq_take_drop]
  rw [List.drop_take]
theorem sliceS_S {s : Str} {lo hi : Option AV} {l h : Int} (hl : bnd lo 0 = some l) (hh : bnd hi s.length = some h) (h0 : 0 ≤ l) (h1 : l ≤ h) (h2 : h ≤ s.length) : sliceS (S s) lo hi = some (S ((s.take h.toNat).drop l.toNat)) := by
  have hs : (⟨s.toArray⟩ : ByteArray).size = s.length := by simp [ByteArray.size]
  simp only [sliceS, hl, Option.bind_some, hs, hh]
  rw [if_pos ⟨h0, h1, h2⟩, extract_mk]
theorem bnd_none {d : Nat} : bnd none d = some d := rfl
theorem bnd_some {k : IntKind} {n : Int} {d : Nat} : bnd (some (.val (.int k n))) d = some n := rfl

/-- what lies in a block of cells -/
def blkCells (g : Nat) : Option Blk → Option (List AV)
  | some (.cells g' _ cs) => if g' = g then some cs else none
  | _ => none
def blkDo {α : Type} (g : Nat) (f : Nat → List AV → Option α) : Option Blk → Option α
  | some (.cells g' sz cs) => if g' = g then f sz cs else none
  | _ => none
theorem blkCells_self {g sz : Nat} {cs : List AV} : blkCells g (some (.cells g sz cs)) = some cs := by simp [blkCells]
theorem blkDo_self {α : Type} {g sz : Nat} {cs : List AV} {f : Nat → List AV → Option α} : blkDo g f (some (.cells g sz cs)) = f sz cs := by simp [blkDo]
theorem AH.cells_blk {H : AH} {b g : Nat} : H.cells b g = blkCells g H.bs[b]? := by
  simp only [AH.cells]; cases H.bs[b]? with
  | none => rfl
  | some x => cases x <;> rfl
theorem load1_L {b o g : Nat} {H : AH} : load1 (.ptrL b o g) H = (blkCells g H.bs[b]?).bind fun cs => cs[o]? := by simp [load1, AH.cells_blk]
theorem load1_F {l : List AV} {i : Nat} {H : AH} : load1 (.ptrF l i) H = l[i]? := rfl
theorem loadN_L {n b o g : Nat} {H : AH} : loadN n (.ptrL b o g) H = (blkCells g H.bs[b]?).bind fun cs => (subL cs o n).map .agg := by simp [loadN, AH.cells_blk]
theorem loadN_F {n : Nat} {l : List AV} {i : Nat} {H : AH} : loadN n (.ptrF l i) H = (subL l i n).map .agg := rfl
theorem store1_L {b o g : Nat} {x : AV} {H : AH} (hx : x.scalar = true) : store1 (.ptrL b o g) x H = blkDo g (fun sz cs => if o < cs.length then some ⟨H.bs.set b (.cells g sz (cs.set o x)), H.ctr⟩ else none) H.bs[b]? := by
  simp only [store1, hx, if_true, AH.cells, AH.set]
  cases hb : H.bs[b]? with
  | none => rfl
  | some y =>
    cases y with
    | cells g' sz cs =>
      simp only [blkDo]
      by_cases hg : g' = g <;> simp [hg]
    | _ => rfl
theorem storeN_L {n b o g : Nat} {xs : List AV} {H : AH} (hn : xs.length = n) (hx : xs.all AV.scalar = true) :
    storeN n (.ptrL b o g) (.agg xs) H = blkDo g (fun sz cs => (putL cs o xs).map fun cs' => ⟨H.bs.set b (.cells g sz cs'), H.ctr⟩) H.bs[b]? := by
  simp only [storeN, hn, hx, and_self, if_true, AH.cells, AH.set]
  cases hb : H.bs[b]? with
  | none => rfl
  | some y =>
    cases y with
    | cells g' sz cs =>
      simp only [blkDo]
      by_cases hg : g' = g <;> simp [hg]
    | _ => rfl
theorem faddr_L {off b o g : Nat} : faddr off (.ptrL b o g) = some (.ptrL b (o + off) g) := rfl
theorem faddr_F {off : Nat} {cs : List AV} {o : Nat} : faddr off (.ptrF cs o) = some (.ptrF cs (o + off)) := rfl
theorem extractA_tup {vs : List AV} {i : Nat} : extractA (.tup vs) i = vs[i]? := rfl
theorem lenA_N {cs : List AV} {n : Nat} : lenA (.slN cs n) = some (Z n) := rfl
theorem lenA_F {cs : List AV} {o n : Nat} : lenA (.slF cs o n) = some (Z n) := rfl
theorem lenA_L {b o n g : Nat} : lenA (.slL b o n g) = some (Z n) := rfl
theorem lenA_T {b n g : Nat} {cs : List AV} : lenA (.slT b cs n g) = some (Z n) := rfl
theorem lenA_nil : lenA nilS = some (Z 0) := rfl
theorem iaddr_N {sz : Nat} {cs : List AV} {n : Nat} {k : IntKind} {i : Int} (h : 0 ≤ i ∧ i < n) : iaddr sz (.slN cs n) (.val (.int k i)) = some (.ptrF cs (i.toNat * sz)) := by simp [iaddr, h]
theorem iaddr_L {sz b o n g : Nat} {k : IntKind} {i : Int} (h : 0 ≤ i ∧ i < n) : iaddr sz (.slL b o n g) (.val (.int k i)) = some (.ptrL b (o + i.toNat * sz) g) := by simp [iaddr, h]
theorem iaddr_T {sz : Nat} {b : Nat} {cs : List AV} {n g : Nat} {k : IntKind} {i : Int} (h : 0 ≤ i ∧ i < n) : iaddr sz (.slT b cs n g) (.val (.int k i)) = some (.ptrF cs (i.toNat * sz)) := by simp [iaddr, h]
theorem iaddr_Nn {cs : List AV} {n : Nat} {k : IntKind} {i : Nat} (h : i < n) : iaddr 1 (.slN cs n) (.val (.int k i)) = some (.ptrF cs i) := by rw [iaddr_N (by omega)]; simp
theorem iaddr_Ln {b n g : Nat} {k : IntKind} {i : Nat} (h : i < n) : iaddr 1 (.slL b 0 n g) (.val (.int k i)) = some (.ptrL b i g) := by rw [iaddr_L (by omega)]; simp
theorem sub_two (a b : AV) : subL [a, b] 0 2 = some [a, b] := rfl
theorem sub_three (a b c : AV) : subL [a, b, c] 0 3 = some [a, b, c] := rfl
theorem sub_four (a b c d : AV) : subL [a, b, c, d] 0 4 = some [a, b, c, d] := rfl
theorem cells?_scalar {x : AV} (h : x.scalar = true) : x.cells? = some [x] := by
  cases x <;> simp_all [AV.cells?, AV.scalar]
theorem fillA_nil {z : List AV} : fillA z [] = some z := rfl
theorem fillA_one {z : List AV} {o : Nat} {x : AV} {r : List (Nat × Nat × AV)} (hx : x.scalar = true) (ho : o < z.length) : fillA z ((o, 1, x) :: r) = fillA (z.set o x) r := by
  simp only [fillA, cells?_scalar hx, Option.bind_some, List.length_singleton, if_true, putL]
  rw [if_pos (by omega), Option.bind_some, List.set_eq_take_append_cons_drop, if_pos ho]
  simp
theorem eqA_bool {a b : Bool} : eqA .bool (Bo a) (Bo b) = some (a == b) := rfl
theorem eqA_ifc {k : Nat} {a : AV} : eqA .iface (.ifc k a) nilE = some false := rfl
theorem eqA_nilE : eqA .iface nilE nilE = some true := rfl
theorem eqA_pF {cs : List AV} {o : Nat} : eqA .ptr (.ptrF cs o) nilP = some false := rfl
theorem eqA_pL {b o g : Nat} : eqA .ptr (.ptrL b o g) nilP = some false := rfl
theorem eqA_pN : eqA .ptr nilP nilP = some true := rfl
theorem eqA_slF {cs : List AV} {o n : Nat} : eqA .slice (.slF cs o n) nilS = some false := rfl
theorem eqA_slL {b o n g : Nat} : eqA .slice (.slL b o n g) nilS = some false := rfl
theorem eqA_slT {b n g : Nat} {cs : List AV} : eqA .slice (.slT b cs n g) nilS = some false := rfl
theorem eqA_slZ : eqA .slice nilS nilS = some true := rfl
theorem nilA_F {cs : List AV} {o : Nat} : nilA (.ptrF cs o) = some (.ptrF cs o) := rfl
theorem nilA_L {b o g : Nat} : nilA (.ptrL b o g) = some (.ptrL b o g) := rfl
theorem nilA_fn {k : Nat} {fs cs : List AV} : nilA (.fn k fs cs) = some (.fn k fs cs) := rfl
/-- a slice of plain data -/
abbrev Lm {α : Type} (f : α → AV) (xs : List α) : AV := .slN (xs.map f) xs.length
theorem at_mid {α β : Type} {f : α → β} {pre rest : List α} {x : α} : ((pre ++ x :: rest).map f)[pre.length]? = some (f x) := by simp
theorem lt_mid {α : Type} {pre rest : List α} {x : α} : pre.length < (pre ++ x :: rest).length := by simp
theorem len_snoc {α : Type} {pre : List α} {x : α} : (pre ++ [x]).length = pre.length + 1 := by simp
theorem iaddrArr_F {sz n : Nat} {cs : List AV} {o : Nat} {k : IntKind} {i : Int} (h : 0 ≤ i ∧ i < n) : iaddrArr sz n (.ptrF cs o) (.val (.int k i)) = some (.ptrF cs (o + i.toNat * sz)) := by simp [iaddrArr, h]
theorem iaddrArr_L {sz n b o g : Nat} {k : IntKind} {i : Int} (h : 0 ≤ i ∧ i < n) : iaddrArr sz n (.ptrL b o g) (.val (.int k i)) = some (.ptrL b (o + i.toNat * sz) g) := by simp [iaddrArr, h]
theorem convA_int {k k' : IntKind} {n : Int} : convA (.int k) (.val (.int k' n)) = some (.val (.int k (k.wrap n))) := rfl
theorem convA_str {s : ByteArray} : convA .string (.val (.string s)) = some (.val (.string s)) := rfl
theorem closed_map {α : Type} {f : α → AV} (h : ∀ x, (f x).closed) (xs : List α) : AV.closedL (xs.map f) := AV.closedL_iff.2 fun y hy => by
  obtain ⟨x, _, rfl⟩ := List.mem_map.1 hy
  exact h x
theorem closed_S (l : List Str) : AV.closedL (l.map fun s => S s) := closed_map (f := fun s => S s) (fun _ => by trivial) l
theorem closed_Z (l : List Int) : AV.closedL (l.map fun z => Z z) := closed_map (f := fun z => Z z) (fun _ => by trivial) l
theorem closed_B (l : List Bool) : AV.closedL (l.map fun b => Bo b) := closed_map (f := fun b => Bo b) (fun _ => by trivial) l

/-! ### told with less -/
theorem Sub.trans {x y z : AV} (h : Sub x y) (k : Sub y z) : Sub x z := fun E c v r => k E c v (h E c v r)
theorem Sub.junk (x : AV) : Sub x .junk := fun _ _ _ _ => by simp [VRel]
theorem Sub.F {cs cs' : List AV} {len : Nat} (h : SubL cs cs') : Sub (.slF cs 0 len) (.slN cs' len) := fun E c v r => by
  simp only [VRel] at r ⊢
  obtain ⟨p, cap, rfl, hl, r⟩ := r
  refine .inr ⟨p, cap, rfl, hl, r.imp id ?_⟩
  rintro ⟨b, o, rfl, hc⟩
  exact ⟨b, o, rfl, h.crel hc⟩
theorem Sub.N {cs cs' : List AV} {len : Nat} (h : SubL cs cs') : Sub (.slN cs len) (.slN cs' len) := fun E c v r => by
  simp only [VRel] at r ⊢
  refine r.imp id ?_
  rintro ⟨p, cap, rfl, hl, r⟩
  refine ⟨p, cap, rfl, hl, r.imp id ?_⟩
  rintro ⟨b, o, rfl, hc⟩
  exact ⟨b, o, rfl, h.crel hc⟩
theorem Sub.T {b g : Nat} {cs cs' : List AV} {len : Nat} (h : SubL cs cs') : Sub (.slT b cs len g) (.slN cs' len) := fun E c v r => by
  simp only [VRel] at r ⊢
  obtain ⟨_, p, cap, rfl, hl, r⟩ := r
  refine .inr ⟨p, cap, rfl, hl, r.imp id ?_⟩
  rintro ⟨k, o, rfl, hc, _⟩
  exact ⟨k, o, rfl, h.crel hc⟩
theorem Sub.T' {b g : Nat} {cs : List AV} {len : Nat} : Sub (.slT b cs len g) (.slN cs len) := .T (.refl _)
theorem Sub.F' {cs : List AV} {len : Nat} : Sub (.slF cs 0 len) (.slN cs len) := .F (.refl _)
theorem Sub.nil {cs : List AV} : Sub nilS (.slN cs 0) := fun E c v r => by
  simp only [VRel] at r ⊢
  exact .inl ⟨r, trivial⟩
theorem Sub.ptr {cs cs' : List AV} {o : Nat} (h : SubL cs cs') : Sub (.ptrF cs o) (.ptrF cs' o) := fun E c v r => by
  simp only [VRel] at r ⊢
  obtain ⟨b, o, rfl, hc⟩ := r
  exact ⟨b, o, rfl, h.crel hc⟩
theorem Sub.agg {cs cs' : List AV} (h : SubL cs cs') : Sub (.agg cs) (.agg cs') := fun E c v r => by
  simp only [VRel] at r ⊢
  obtain ⟨vs, rfl, hl⟩ := r
  exact ⟨vs, rfl, h.rel hl⟩
theorem Sub.tup {cs cs' : List AV} (h : SubL cs cs') : Sub (.tup cs) (.tup cs') := fun E c v r => by
  simp only [VRel] at r ⊢
  obtain ⟨vs, rfl, hl⟩ := r
  exact ⟨vs, rfl, h.rel hl⟩
theorem Sub.ifc {k : Nat} {x y : AV} (h : Sub x y) : Sub (.ifc k x) (.ifc k y) := fun E c v r => by
  simp only [VRel] at r ⊢
  obtain ⟨u, rfl, hk, hl⟩ := r
  exact ⟨u, rfl, hk, h E c u hl⟩
theorem Sub.fn {k : Nat} {fs fs' cs cs' : List AV} (h : SubL fs fs') (h' : SubL cs cs') : Sub (.fn k fs cs) (.fn k fs' cs') := fun E c v r => by
  simp only [VRel] at r ⊢
  obtain ⟨gs, ds, rfl, h1, h2⟩ := r
  exact ⟨gs, ds, rfl, h.rel h1, h'.rel h2⟩
theorem SubL.one {x y : AV} (h : Sub x y) : SubL [x] [y] := .cons h .nil
theorem SubL.two {x y x' y' : AV} (h : Sub x y) (h' : Sub x' y') : SubL [x, x'] [y, y'] := .cons h (.one h')
theorem SubL.append : ∀ {xs xs' ys ys' : List AV}, SubL xs xs' → SubL ys ys' → SubL (xs ++ ys) (xs' ++ ys')
  | _, _, _, _, .nil, h => h
  | _, _, _, _, .cons h1 h2, h => .cons h1 (SubL.append h2 h)
theorem FkL.sub {H : AH} {S : Nat → Bool} : ∀ {xs ys : List AV}, SubL xs ys → FkL H S xs ys
  | _, _, .nil => .nil
  | _, _, .cons h1 h2 => .cons (.sub h1) (FkL.sub h2)

/-! ### new memory -/
section
variable {sz len bytes : Nat} {l : List AV} {cs : Option (List AV)} {H : AH} {K : Kt}
/-- frozen at once -/
theorem wNew.F {l' : List AV} (hc : cs = some l) (hs : SubL l l') (h : K (.ptrF l' 0) H) : wNew sz cs H K := ⟨l, _, _, hc, .frz (.ptr hs), h⟩
theorem wNew.F' (hc : cs = some l) (h : K (.ptrF l 0) H) : wNew sz cs H K := .F hc (.refl _) h
theorem wNew.L (hc : cs = some l) (h : K (.ptrL H.bs.length 0 H.ctr) ⟨H.bs ++ [.cells H.ctr sz l], H.ctr + 1⟩) : wNew sz cs H K :=
  ⟨l, _, _, hc, .live H.bs.length (.inl rfl), by simpa [AH.put] using h⟩
theorem wNew.S (b : Nat) (hc : cs = some l) (hb : H.bs[b]? = some .dead) (h : K (.ptrL b 0 H.ctr) ⟨H.bs.set b (.cells H.ctr sz l), H.ctr + 1⟩) : wNew sz cs H K :=
  ⟨l, _, _, hc, .live b (.inr hb), by
    have := lt_of_get hb
    have hne : b ≠ H.bs.length := by omega
    simpa [AH.put, hne] using h⟩
theorem wNewS.F {l' : List AV} (hc : cs = some l) (hs : SubL l l') (hl : l.length = len * sz) (h : K (.slN l' len) H) : wNewS sz len cs H K := ⟨l, _, _, hc, hl, .frz (.F hs), h⟩
theorem wNewS.F' (hc : cs = some l) (hl : l.length = len * sz) (h : K (.slN l len) H) : wNewS sz len cs H K := .F hc (.refl _) hl h
theorem wNewS.L (hc : cs = some l) (hl : l.length = len * sz) (h : K (.slL H.bs.length 0 len H.ctr) ⟨H.bs ++ [.cells H.ctr sz l], H.ctr + 1⟩) : wNewS sz len cs H K :=
  ⟨l, _, _, hc, hl, .live H.bs.length (.inl rfl), by simpa [AH.put] using h⟩
theorem wNewS.S (b : Nat) (hc : cs = some l) (hl : l.length = len * sz) (hb : H.bs[b]? = some .dead) (h : K (.slL b 0 len H.ctr) ⟨H.bs.set b (.cells H.ctr sz l), H.ctr + 1⟩) : wNewS sz len cs H K :=
  ⟨l, _, _, hc, hl, .live b (.inr hb), by
    have := lt_of_get hb
    have hne : b ≠ H.bs.length := by omega
    simpa [AH.put, hne] using h⟩
theorem wNewS.T {l' : List AV} (hc : cs = some l) (hs : SubL l l') (hl : l.length = len * sz) (h : K (.slT H.bs.length l' len H.ctr) ⟨H.bs ++ [.tail H.ctr sz], H.ctr + 1⟩) : wNewS sz len cs H K :=
  ⟨l, _, _, hc, hl, .tail H.bs.length hs (.inl rfl), by simpa [AH.put] using h⟩
theorem makeA_n {n : Nat} (h : n * bytes ≤ mostBytes ∧ n ≤ mostBytes) {k k' : IntKind} : makeA bytes (.val (.int k n)) (.val (.int k' n)) = some n := by
  simp only [makeA]; rw [if_pos]; · simp
  exact ⟨by omega, trivial, by rw [← Int.natCast_mul]; exact Int.ofNat_le.2 h.1, Int.ofNat_le.2 h.2⟩
section
variable {zero : List AV} {x y : AV} {n : Nat}
theorem wMake.F (hm : makeA bytes x y = some n) (h : K (.slN (List.replicate n zero).flatten n) H) : wMake sz bytes zero x y H K := ⟨n, _, _, hm, .frz .F', h⟩
theorem wMake.L (hm : makeA bytes x y = some n) (h : K (.slL H.bs.length 0 n H.ctr) ⟨H.bs ++ [.cells H.ctr sz (List.replicate n zero).flatten], H.ctr + 1⟩) : wMake sz bytes zero x y H K :=
  ⟨n, _, _, hm, .live H.bs.length (.inl rfl), by simpa [AH.put] using h⟩
theorem wMake.S (b : Nat) (hm : makeA bytes x y = some n) (hb : H.bs[b]? = some .dead) (h : K (.slL b 0 n H.ctr) ⟨H.bs.set b (.cells H.ctr sz (List.replicate n zero).flatten), H.ctr + 1⟩) : wMake sz bytes zero x y H K :=
  ⟨n, _, _, hm, .live b (.inr hb), by
    have := lt_of_get hb
    have hne : b ≠ H.bs.length := by omega
    simpa [AH.put, hne] using h⟩
end
end
/-! ### slices that grow -/
/-- 'x' holds 'n' elements of 'sz' cells, 'cs', and may grow at place 'b', that holds 'z' -/
def Gr (sz : Nat) (z : Blk) (b : Nat) (x : AV) (cs : List AV) (n : Nat) : Prop := (x = nilS ∧ z = .dead ∧ cs = [] ∧ n = 0) ∨ ∃ g, x = .slT b cs n g ∧ z = .tail g sz
theorem Gr.nil {sz b : Nat} : Gr sz .dead b nilS [] 0 := .inl ⟨rfl, rfl, rfl, rfl⟩
theorem Gr.mk {sz b n g : Nat} {cs : List AV} : Gr sz (.tail g sz) b (.slT b cs n g) cs n := .inr ⟨g, rfl, rfl⟩
theorem Gr.len {sz : Nat} {z : Blk} {b : Nat} {x : AV} {cs : List AV} {n : Nat} (h : Gr sz z b x cs n) : lenA x = some (Z n) := by
  rcases h with ⟨rfl, _, _, rfl⟩ | ⟨g, rfl, _⟩ <;> rfl
theorem Gr.sub {sz : Nat} {z : Blk} {b : Nat} {x : AV} {cs : List AV} {n : Nat} (h : Gr sz z b x cs n) : Sub x (.slN cs n) := by
  rcases h with ⟨rfl, _, rfl, rfl⟩ | ⟨g, rfl, _⟩
  · exact .nil
  · exact .T'
theorem Gr.scalar {sz : Nat} {z : Blk} {b : Nat} {x : AV} {cs : List AV} {n : Nat} (h : Gr sz z b x cs n) : x.scalar = true := by
  rcases h with ⟨rfl, _⟩ | ⟨g, rfl, _⟩ <;> rfl
theorem Gr.at {sz : Nat} {z : Blk} {b : Nat} {x : AV} {cs : List AV} {n : Nat} (h : Gr sz z b x cs n) {k : IntKind} {i : Int} (hi : 0 ≤ i ∧ i < n) : iaddr sz x (.val (.int k i)) = some (.ptrF cs (i.toNat * sz)) := by
  rcases h with ⟨rfl, _, rfl, rfl⟩ | ⟨g, rfl, _⟩
  · omega
  · exact iaddr_T hi
theorem Gr.cells {z : Blk} {b : Nat} {x : AV} {cs : List AV} {n : Nat} {sz : Nat} (h : Gr sz z b x cs n) (hn : cs.length = n * sz) (H : AH) : cellsOfA sz x H = some (n, cs) := by
  rcases h with ⟨rfl, _, rfl, rfl⟩ | ⟨g, rfl, _⟩
  · rfl
  · simp [cellsOfA, subL, ← hn]
theorem cellsOfA_len {sz m : Nat} {y : AV} {H : AH} {new : List AV} (hc : cellsOfA sz y H = some (m, new)) : new.length = m * sz := by
  have sub : ∀ {cs l : List AV} {o n : Nat}, subL cs o n = some l → l.length = n := fun h => by
    obtain ⟨h1, rfl⟩ := subL_some h
    simp; omega
  unfold cellsOfA at hc
  split at hc
  · injection hc with hc; injection hc with h1 hc; subst h1 hc; simp
  · simp only [Option.map_eq_some_iff, Prod.mk.injEq] at hc
    obtain ⟨l, h1, rfl, rfl⟩ := hc
    exact sub h1
  · simp only [Option.bind_eq_some_iff, Option.map_eq_some_iff, Prod.mk.injEq] at hc
    obtain ⟨_, _, l, h1, rfl, rfl⟩ := hc
    exact sub h1
  · simp only [Option.map_eq_some_iff, Prod.mk.injEq] at hc
    obtain ⟨l, h1, rfl, rfl⟩ := hc
    exact sub h1
  · simp only [Option.map_eq_some_iff, Prod.mk.injEq] at hc
    obtain ⟨l, h1, rfl, rfl⟩ := hc
    exact sub h1
  · split at hc
    · rename_i h1
      subst h1
      injection hc with hc; injection hc with h1 hc
      subst h1 hc
      rw [List.length_map, Nat.mul_one]
      exact Array.length_toList
    · cases hc
  · cases hc
theorem wApp.gr {sz bytes : Nat} {z : Blk} {b : Nat} {x y : AV} {cs new new' : List AV} {n m : Nat} {H : AH} {K : Kt} (hg : Gr sz z b x cs n) (hz : H.bs[b]? = some z) (hn : cs.length = n * sz) (hc : cellsOfA sz y H = some (m, new)) (hs : SubL new new')
    (hsc : new.all AV.scalar = true) (hb : (n + m) * bytes ≤ mostBytes ∧ n + m ≤ mostBytes) (hk : ∀ z' x' c', Gr sz z' b x' (cs ++ new') (n + m) → K x' ⟨H.bs.set b z', c'⟩) : wApp sz bytes x y H K := by
  have hbl := lt_of_get hz
  rcases hg with ⟨rfl, rfl, rfl, rfl⟩ | ⟨g, rfl, rfl⟩
  · by_cases hm : m = 0
    · subst hm
      have hnew : new = [] := List.eq_nil_of_length_eq_zero (by simpa using cellsOfA_len hc)
      subst hnew
      have : new' = [] := by
        have := hs.length
        exact List.eq_nil_of_length_eq_zero (by simpa using this.symm)
      subst this
      have := hk .dead nilS H.ctr (.inl ⟨rfl, rfl, rfl, rfl⟩)
      have hset : H.bs.set b .dead = H.bs := by
        have : H.bs[b] = .dead := by rw [List.getElem?_eq_getElem hbl] at hz; injection hz
        rw [← this]; simp
      rw [hset] at this
      exact ⟨nilS, H, .old (by simp [appendA, hc]), this⟩
    · refine ⟨_, _, .first b rfl (.inr hz) hc hm hs (by simpa using hb.1) (by simpa using hb.2), ?_⟩
      have hne : b ≠ H.bs.length := by omega
      simp only [AH.put, hne, if_false]
      have := hk (.tail H.ctr sz) (.slT b new' m H.ctr) (H.ctr + 1) (.inr ⟨_, by simp, rfl⟩)
      exact this
  · exact ⟨_, _, .grow rfl hz hn hc hs hsc hb.1 hb.2, hk _ _ _ (.inr ⟨_, rfl, rfl⟩)⟩
/-- one element of one cell more -/
theorem wApp.one {bytes : Nat} {z : Blk} {b : Nat} {x y y' : AV} {cs : List AV} {n : Nat} {H : AH} {K : Kt} (hg : Gr 1 z b x cs n) (hz : H.bs[b]? = some z) (hn : cs.length = n) (hs : Sub y y') (hsc : y.scalar = true) (hb : (n + 1) * bytes ≤ mostBytes ∧ n + 1 ≤ mostBytes)
    (hk : ∀ z' x' c', Gr 1 z' b x' (cs ++ [y']) (n + 1) → K x' ⟨H.bs.set b z', c'⟩) : wApp 1 bytes x (.slN [y] 1) H K :=
  wApp.gr hg hz (by simpa using hn) (new := [y]) (m := 1) rfl (.one hs) (by simpa using hsc) hb hk

/-! ### contracts -/
section
variable {E : Env} {P : Program}
/-- a call of frozen arguments: its result -/
structure FX (E : Env) (P : Program) (k : Nat) (args : List AV) (r : AV) : Prop where
  ok : ∀ n, ACalls E P k args ⟨[], n⟩ fun x _ => x = r
  ca : AV.closedL args
  cr : r.closed
theorem FX.of {k : Nat} {args : List AV} {r : AV} (ca : AV.closedL args) (cr : r.closed) (h : ∀ n (R : Kt), (∀ x H, Fk H S0 x r → R x H) → ACalls E P k args ⟨[], n⟩ R) : FX E P k args r where
  ok := fun n => (h n (fun x H => Fk H S0 x r) fun _ _ hx => hx).mono fun _ H hx => ⟨r, ⟨[], H.ctr⟩, ghost_all (.cons hx .nil), rfl⟩
  ca := ca
  cr := cr
theorem FX.of' {k : Nat} {args : List AV} {r : AV} (ca : AV.closedL args) (cr : r.closed) (h : ∀ n (R : Kt), (∀ x H, x = r → R x H) → ACalls E P k args ⟨[], n⟩ R) : FX E P k args r :=
  .of ca cr fun n R hR => h n R fun x H e => hR x H (e ▸ .same _)
/-- told by a relation -/
structure FR (E : Env) (P : Program) (k : Nat) (args : List AV) (R0 : AV → Prop) : Prop where
  ok : ∀ n, ACalls E P k args ⟨[], n⟩ fun x _ => R0 x
  ca : AV.closedL args
  cr : ∀ r, R0 r → r.closed
theorem FR.of {k : Nat} {args : List AV} {R0 : AV → Prop} (ca : AV.closedL args) (cr : ∀ r, R0 r → r.closed) (h : ∀ n (R : Kt), (∀ x r H, Fk H S0 x r → R0 r → R x H) → ACalls E P k args ⟨[], n⟩ R) : FR E P k args R0 where
  ok := fun n => (h n (fun x H => ∃ r, Fk H S0 x r ∧ R0 r) fun _ r _ hx hr => ⟨r, hx, hr⟩).mono fun _ H ⟨r, hx, hr⟩ => ⟨r, ⟨[], H.ctr⟩, ghost_all (.cons hx .nil), hr⟩
  ca := ca
  cr := cr
theorem FX.fr {k : Nat} {args : List AV} {r : AV} (h : FX E P k args r) : FR E P k args (fun x => x = r) := ⟨h.ok, h.ca, fun _ e => e ▸ h.cr⟩

theorem FR.lift {k : Nat} {args : List AV} {R0 : AV → Prop} (h : FR E P k args R0) (H : AH) : ACalls E P k args H fun r H' => R0 r ∧ ∃ n, H' = ⟨H.bs, n⟩ := by
  have := ACalls.frame (mv := []) (B := []) (args0 := args) (args := args) (H := H) (R0 := fun r _ => R0 r) (fun n => (h.ok n).mono fun r H' hr => ⟨r, ⟨[], H'.ctr⟩, by
      refine ghost_all (.cons (.same _) .nil), hr, rfl⟩) (by simp) rfl (by simp) (by rw [AV.renL_closed _ h.ca])
  refine this.mono fun r H' ⟨r0, B', n, h1, h2, h3, h4⟩ => ⟨r, H', .refl _ _, ?_, n, ?_⟩
  · rw [h3, AV.ren_closed _ (h.cr _ h1)]; exact h1
  · have hB : B' = [] := List.eq_nil_of_length_eq_zero h2
    rw [h4, hB]; simp [setL]
theorem wCall.fr {k : Nat} {args args' : List AV} {R0 : AV → Prop} {H : AH} {K : Kt} (h : FR E P k args' R0) (hs : SubL args args') (hK : ∀ r n, R0 r → K r ⟨H.bs, n⟩) : wCall E P k args H K :=
  ⟨_, ACalls.args (ghost_sub hs) (h.lift H), fun r _ ⟨h1, n, h2⟩ => h2 ▸ hK r n h1⟩
theorem wCall.fx {k : Nat} {args : List AV} {r : AV} {H : AH} {K : Kt} (h : FX E P k args r) (hK : ∀ n, K r ⟨H.bs, n⟩) : wCall E P k args H K :=
  .fr h.fr (.refl _) fun _ n e => e ▸ hK n
end
end Go.Sc
namespace Go.Sc
open Go
def gh0 (I : AH → Prop) : AH → Prop := fun H => KN.gh 0 I H
def back0 (I : Nat → AH → Prop) (m : Nat) : AH → Prop := fun H => ∃ m', m' < m ∧ gh0 (I m') H
theorem gh0.of {I : AH → Prop} {H H' : AH} (hg : Ghost [] H [] H') (h : I H') : gh0 I H := ⟨[], H', rfl, hg, h⟩
theorem gh0.mk {I : AH → Prop} {H : AH} (h : I H) : gh0 I H := gh0.of (.refl _ _) h
theorem back0.of {I : Nat → AH → Prop} {m : Nat} (m' : Nat) (hm : m' < m) {H H' : AH} (hg : Ghost [] H [] H') (h : I m' H') : back0 I m H := ⟨m', hm, gh0.of hg h⟩
theorem back0.mk {I : Nat → AH → Prop} {m : Nat} (m' : Nat) (hm : m' < m) {H : AH} (h : I m' H) : back0 I m H := back0.of m' hm (.refl _ _) h
theorem wLoop.zero {init : KN 0 → Prop} {body : KN 0 → KN 0} (I : Nat → AH → Prop) (m0 : Nat) (hi : init (gh0 (I m0))) (hb : ∀ m H, I m H → body (back0 I m) H) : wLoop 0 init body := ⟨I, ⟨m0, hi⟩, hb⟩
theorem wJoin.zero {m : KN 0 → Prop} {k : KN 0} (J : AH → Prop) (hm : m (gh0 J)) (hk : ∀ H, J H → k H) : wJoin 0 m k := ⟨J, hm, hk⟩

def gh1 (I : AV → AH → Prop) : AV → AH → Prop := fun x0 H => KN.gh 1 I x0 H
def back1 (I : Nat → AV → AH → Prop) (m : Nat) : AV → AH → Prop := fun x0 H => ∃ m', m' < m ∧ gh1 (I m') x0 H
theorem gh1.of {I : AV → AH → Prop} {x0 x0' : AV} {H H' : AH} (hg : Ghost [x0] H [x0'] H') (h : I x0' H') : gh1 I x0 H := ⟨[x0'], H', rfl, hg, h⟩
theorem gh1.mk {I : AV → AH → Prop} {x0 : AV} {H : AH} (h : I x0 H) : gh1 I x0 H := gh1.of (.refl _ _) h
theorem back1.of {I : Nat → AV → AH → Prop} {m : Nat} (m' : Nat) (hm : m' < m) {x0 x0' : AV} {H H' : AH} (hg : Ghost [x0] H [x0'] H') (h : I m' x0' H') : back1 I m x0 H := ⟨m', hm, gh1.of hg h⟩
theorem back1.mk {I : Nat → AV → AH → Prop} {m : Nat} (m' : Nat) (hm : m' < m) {x0 : AV} {H : AH} (h : I m' x0 H) : back1 I m x0 H := back1.of m' hm (.refl _ _) h
theorem wLoop.one {init : KN 1 → Prop} {body : KN 1 → KN 1} (I : Nat → AV → AH → Prop) (m0 : Nat) (hi : init (gh1 (I m0))) (hb : ∀ m x0 H, I m x0 H → body (back1 I m) x0 H) : wLoop 1 init body := ⟨I, ⟨m0, hi⟩, hb⟩
theorem wJoin.one {m : KN 1 → Prop} {k : KN 1} (J : AV → AH → Prop) (hm : m (gh1 J)) (hk : ∀ x0 H, J x0 H → k x0 H) : wJoin 1 m k := ⟨J, hm, hk⟩

def gh2 (I : AV → AV → AH → Prop) : AV → AV → AH → Prop := fun x0 x1 H => KN.gh 2 I x0 x1 H
def back2 (I : Nat → AV → AV → AH → Prop) (m : Nat) : AV → AV → AH → Prop := fun x0 x1 H => ∃ m', m' < m ∧ gh2 (I m') x0 x1 H
theorem gh2.of {I : AV → AV → AH → Prop} {x0 x1 x0' x1' : AV} {H H' : AH} (hg : Ghost [x0, x1] H [x0', x1'] H') (h : I x0' x1' H') : gh2 I x0 x1 H := ⟨[x0', x1'], H', rfl, hg, h⟩
theorem gh2.mk {I : AV → AV → AH → Prop} {x0 x1 : AV} {H : AH} (h : I x0 x1 H) : gh2 I x0 x1 H := gh2.of (.refl _ _) h
theorem back2.of {I : Nat → AV → AV → AH → Prop} {m : Nat} (m' : Nat) (hm : m' < m) {x0 x1 x0' x1' : AV} {H H' : AH} (hg : Ghost [x0, x1] H [x0', x1'] H') (h : I m' x0' x1' H') : back2 I m x0 x1 H := ⟨m', hm, gh2.of hg h⟩
theorem back2.mk {I : Nat → AV → AV → AH → Prop} {m : Nat} (m' : Nat) (hm : m' < m) {x0 x1 : AV} {H : AH} (h : I m' x0 x1 H) : back2 I m x0 x1 H := back2.of m' hm (.refl _ _) h
theorem wLoop.two {init : KN 2 → Prop} {body : KN 2 → KN 2} (I : Nat → AV → AV → AH → Prop) (m0 : Nat) (hi : init (gh2 (I m0))) (hb : ∀ m x0 x1 H, I m x0 x1 H → body (back2 I m) x0 x1 H) : wLoop 2 init body := ⟨I, ⟨m0, hi⟩, hb⟩
theorem wJoin.two {m : KN 2 → Prop} {k : KN 2} (J : AV → AV → AH → Prop) (hm : m (gh2 J)) (hk : ∀ x0 x1 H, J x0 x1 H → k x0 x1 H) : wJoin 2 m k := ⟨J, hm, hk⟩

def gh3 (I : AV → AV → AV → AH → Prop) : AV → AV → AV → AH → Prop := fun x0 x1 x2 H => KN.gh 3 I x0 x1 x2 H
def back3 (I : Nat → AV → AV → AV → AH → Prop) (m : Nat) : AV → AV → AV → AH → Prop := fun x0 x1 x2 H => ∃ m', m' < m ∧ gh3 (I m') x0 x1 x2 H
theorem gh3.of {I : AV → AV → AV → AH → Prop} {x0 x1 x2 x0' x1' x2' : AV} {H H' : AH} (hg : Ghost [x0, x1, x2] H [x0', x1', x2'] H') (h : I x0' x1' x2' H') : gh3 I x0 x1 x2 H := ⟨[x0', x1', x2'], H', rfl, hg, h⟩
theorem gh3.mk {I : AV → AV → AV → AH → Prop} {x0 x1 x2 : AV} {H : AH} (h : I x0 x1 x2 H) : gh3 I x0 x1 x2 H := gh3.of (.refl _ _) h
theorem back3.of {I : Nat → AV → AV → AV → AH → Prop} {m : Nat} (m' : Nat) (hm : m' < m) {x0 x1 x2 x0' x1' x2' : AV} {H H' : AH} (hg : Ghost [x0, x1, x2] H [x0', x1', x2'] H') (h : I m' x0' x1' x2' H') : back3 I m x0 x1 x2 H := ⟨m', hm, gh3.of hg h⟩
theorem back3.mk {I : Nat → AV → AV → AV → AH → Prop} {m : Nat} (m' : Nat) (hm : m' < m) {x0 x1 x2 : AV} {H : AH} (h : I m' x0 x1 x2 H) : back3 I m x0 x1 x2 H := back3.of m' hm (.refl _ _) h
theorem wLoop.three {init : KN 3 → Prop} {body : KN 3 → KN 3} (I : Nat → AV → AV → AV → AH → Prop) (m0 : Nat) (hi : init (gh3 (I m0))) (hb : ∀ m x0 x1 x2 H, I m x0 x1 x2 H → body (back3 I m) x0 x1 x2 H) : wLoop 3 init body := ⟨I, ⟨m0, hi⟩, hb⟩
theorem wJoin.three {m : KN 3 → Prop} {k : KN 3} (J : AV → AV → AV → AH → Prop) (hm : m (gh3 J)) (hk : ∀ x0 x1 x2 H, J x0 x1 x2 H → k x0 x1 x2 H) : wJoin 3 m k := ⟨J, hm, hk⟩

def gh4 (I : AV → AV → AV → AV → AH → Prop) : AV → AV → AV → AV → AH → Prop := fun x0 x1 x2 x3 H => KN.gh 4 I x0 x1 x2 x3 H
def back4 (I : Nat → AV → AV → AV → AV → AH → Prop) (m : Nat) : AV → AV → AV → AV → AH → Prop := fun x0 x1 x2 x3 H => ∃ m', m' < m ∧ gh4 (I m') x0 x1 x2 x3 H
theorem gh4.of {I : AV → AV → AV → AV → AH → Prop} {x0 x1 x2 x3 x0' x1' x2' x3' : AV} {H H' : AH} (hg : Ghost [x0, x1, x2, x3] H [x0', x1', x2', x3'] H') (h : I x0' x1' x2' x3' H') : gh4 I x0 x1 x2 x3 H := ⟨[x0', x1', x2', x3'], H', rfl, hg, h⟩
theorem gh4.mk {I : AV → AV → AV → AV → AH → Prop} {x0 x1 x2 x3 : AV} {H : AH} (h : I x0 x1 x2 x3 H) : gh4 I x0 x1 x2 x3 H := gh4.of (.refl _ _) h
theorem back4.of {I : Nat → AV → AV → AV → AV → AH → Prop} {m : Nat} (m' : Nat) (hm : m' < m) {x0 x1 x2 x3 x0' x1' x2' x3' : AV} {H H' : AH} (hg : Ghost [x0, x1, x2, x3] H [x0', x1', x2', x3'] H') (h : I m' x0' x1' x2' x3' H') : back4 I m x0 x1 x2 x3 H := ⟨m', hm, gh4.of hg h⟩
theorem back4.mk {I : Nat → AV → AV → AV → AV → AH → Prop} {m : Nat} (m' : Nat) (hm : m' < m) {x0 x1 x2 x3 : AV} {H : AH} (h : I m' x0 x1 x2 x3 H) : back4 I m x0 x1 x2 x3 H := back4.of m' hm (.refl _ _) h
theorem wLoop.four {init : KN 4 → Prop} {body : KN 4 → KN 4} (I : Nat → AV → AV → AV → AV → AH → Prop) (m0 : Nat) (hi : init (gh4 (I m0))) (hb : ∀ m x0 x1 x2 x3 H, I m x0 x1 x2 x3 H → body (back4 I m) x0 x1 x2 x3 H) : wLoop 4 init body := ⟨I, ⟨m0, hi⟩, hb⟩
theorem wJoin.four {m : KN 4 → Prop} {k : KN 4} (J : AV → AV → AV → AV → AH → Prop) (hm : m (gh4 J)) (hk : ∀ x0 x1 x2 x3 H, J x0 x1 x2 x3 H → k x0 x1 x2 x3 H) : wJoin 4 m k := ⟨J, hm, hk⟩

def gh5 (I : AV → AV → AV → AV → AV → AH → Prop) : AV → AV → AV → AV → AV → AH → Prop := fun x0 x1 x2 x3 x4 H => KN.gh 5 I x0 x1 x2 x3 x4 H
def back5 (I : Nat → AV → AV → AV → AV → AV → AH → Prop) (m : Nat) : AV → AV → AV → AV → AV → AH → Prop := fun x0 x1 x2 x3 x4 H => ∃ m', m' < m ∧ gh5 (I m') x0 x1 x2 x3 x4 H
theorem gh5.of {I : AV → AV → AV → AV → AV → AH → Prop} {x0 x1 x2 x3 x4 x0' x1' x2' x3' x4' : AV} {H H' : AH} (hg : Ghost [x0, x1, x2, x3, x4] H [x0', x1', x2', x3', x4'] H') (h : I x0' x1' x2' x3' x4' H') : gh5 I x0 x1 x2 x3 x4 H := ⟨[x0', x1', x2', x3', x4'], H', rfl, hg, h⟩
theorem gh5.mk {I : AV → AV → AV → AV → AV → AH → Prop} {x0 x1 x2 x3 x4 : AV} {H : AH} (h : I x0 x1 x2 x3 x4 H) : gh5 I x0 x1 x2 x3 x4 H := gh5.of (.refl _ _) h
theorem back5.of {I : Nat → AV → AV → AV → AV → AV → AH → Prop} {m : Nat} (m' : Nat) (hm : m' < m) {x0 x1 x2 x3 x4 x0' x1' x2' x3' x4' : AV} {H H' : AH} (hg : Ghost [x0, x1, x2, x3, x4] H [x0', x1', x2', x3', x4'] H') (h : I m' x0' x1' x2' x3' x4' H') : back5 I m x0 x1 x2 x3 x4 H := ⟨m', hm, gh5.of hg h⟩
theorem back5.mk {I : Nat → AV → AV → AV → AV → AV → AH → Prop} {m : Nat} (m' : Nat) (hm : m' < m) {x0 x1 x2 x3 x4 : AV} {H : AH} (h : I m' x0 x1 x2 x3 x4 H) : back5 I m x0 x1 x2 x3 x4 H := back5.of m' hm (.refl _ _) h
def gh6 (I : AV → AV → AV → AV → AV → AV → AH → Prop) : AV → AV → AV → AV → AV → AV → AH → Prop := fun x0 x1 x2 x3 x4 x5 H => KN.gh 6 I x0 x1 x2 x3 x4 x5 H
def back6 (I : Nat → AV → AV → AV → AV → AV → AV → AH → Prop) (m : Nat) : AV → AV → AV → AV → AV → AV → AH → Prop := fun x0 x1 x2 x3 x4 x5 H => ∃ m', m' < m ∧ gh6 (I m') x0 x1 x2 x3 x4 x5 H
theorem gh6.of {I : AV → AV → AV → AV → AV → AV → AH → Prop} {x0 x1 x2 x3 x4 x5 x0' x1' x2' x3' x4' x5' : AV} {H H' : AH} (hg : Ghost [x0, x1, x2, x3, x4, x5] H [x0', x1', x2', x3', x4', x5'] H') (h : I x0' x1' x2' x3' x4' x5' H') : gh6 I x0 x1 x2 x3 x4 x5 H := ⟨[x0', x1', x2', x3', x4', x5'], H', rfl, hg, h⟩
theorem gh6.mk {I : AV → AV → AV → AV → AV → AV → AH → Prop} {x0 x1 x2 x3 x4 x5 : AV} {H : AH} (h : I x0 x1 x2 x3 x4 x5 H) : gh6 I x0 x1 x2 x3 x4 x5 H := gh6.of (.refl _ _) h
theorem back6.of {I : Nat → AV → AV → AV → AV → AV → AV → AH → Prop} {m : Nat} (m' : Nat) (hm : m' < m) {x0 x1 x2 x3 x4 x5 x0' x1' x2' x3' x4' x5' : AV} {H H' : AH} (hg : Ghost [x0, x1, x2, x3, x4, x5] H [x0', x1', x2', x3', x4', x5'] H') (h : I m' x0' x1' x2' x3' x4' x5' H') : back6 I m x0 x1 x2 x3 x4 x5 H := ⟨m', hm, gh6.of hg h⟩
theorem back6.mk {I : Nat → AV → AV → AV → AV → AV → AV → AH → Prop} {m : Nat} (m' : Nat) (hm : m' < m) {x0 x1 x2 x3 x4 x5 : AV} {H : AH} (h : I m' x0 x1 x2 x3 x4 x5 H) : back6 I m x0 x1 x2 x3 x4 x5 H := back6.of m' hm (.refl _ _) h
def gh7 (I : AV → AV → AV → AV → AV → AV → AV → AH → Prop) : AV → AV → AV → AV → AV → AV → AV → AH → Prop := fun x0 x1 x2 x3 x4 x5 x6 H => KN.gh 7 I x0 x1 x2 x3 x4 x5 x6 H
def back7 (I : Nat → AV → AV → AV → AV → AV → AV → AV → AH → Prop) (m : Nat) : AV → AV → AV → AV → AV → AV → AV → AH → Prop := fun x0 x1 x2 x3 x4 x5 x6 H => ∃ m', m' < m ∧ gh7 (I m') x0 x1 x2 x3 x4 x5 x6 H
theorem gh7.of {I : AV → AV → AV → AV → AV → AV → AV → AH → Prop} {x0 x1 x2 x3 x4 x5 x6 x0' x1' x2' x3' x4' x5' x6' : AV} {H H' : AH} (hg : Ghost [x0, x1, x2, x3, x4, x5, x6] H [x0', x1', x2', x3', x4', x5', x6'] H') (h : I x0' x1' x2' x3' x4' x5' x6' H') : gh7 I x0 x1 x2 x3 x4 x5 x6 H := ⟨[x0', x1', x2', x3', x4', x5', x6'], H', rfl, hg, h⟩
theorem gh7.mk {I : AV → AV → AV → AV → AV → AV → AV → AH → Prop} {x0 x1 x2 x3 x4 x5 x6 : AV} {H : AH} (h : I x0 x1 x2 x3 x4 x5 x6 H) : gh7 I x0 x1 x2 x3 x4 x5 x6 H := gh7.of (.refl _ _) h
theorem back7.of {I : Nat → AV → AV → AV → AV → AV → AV → AV → AH → Prop} {m : Nat} (m' : Nat) (hm : m' < m) {x0 x1 x2 x3 x4 x5 x6 x0' x1' x2' x3' x4' x5' x6' : AV} {H H' : AH} (hg : Ghost [x0, x1, x2, x3, x4, x5, x6] H [x0', x1', x2', x3', x4', x5', x6'] H') (h : I m' x0' x1' x2' x3' x4' x5' x6' H') : back7 I m x0 x1 x2 x3 x4 x5 x6 H := ⟨m', hm, gh7.of hg h⟩
theorem back7.mk {I : Nat → AV → AV → AV → AV → AV → AV → AV → AH → Prop} {m : Nat} (m' : Nat) (hm : m' < m) {x0 x1 x2 x3 x4 x5 x6 : AV} {H : AH} (h : I m' x0 x1 x2 x3 x4 x5 x6 H) : back7 I m x0 x1 x2 x3 x4 x5 x6 H := back7.of m' hm (.refl _ _) h
def gh8 (I : AV → AV → AV → AV → AV → AV → AV → AV → AH → Prop) : AV → AV → AV → AV → AV → AV → AV → AV → AH → Prop := fun x0 x1 x2 x3 x4 x5 x6 x7 H => KN.gh 8 I x0 x1 x2 x3 x4 x5 x6 x7 H
def back8 (I : Nat → AV → AV → AV → AV → AV → AV → AV → AV → AH → Prop) (m : Nat) : AV → AV → AV → AV → AV → AV → AV → AV → AH → Prop := fun x0 x1 x2 x3 x4 x5 x6 x7 H => ∃ m', m' < m ∧ gh8 (I m') x0 x1 x2 x3 x4 x5 x6 x7 H
theorem gh8.of {I : AV → AV → AV → AV → AV → AV → AV → AV → AH → Prop} {x0 x1 x2 x3 x4 x5 x6 x7 x0' x1' x2' x3' x4' x5' x6' x7' : AV} {H H' : AH} (hg : Ghost [x0, x1, x2, x3, x4, x5, x6, x7] H [x0', x1', x2', x3', x4', x5', x6', x7'] H') (h : I x0' x1' x2' x3' x4' x5' x6' x7' H') : gh8 I x0 x1 x2 x3 x4 x5 x6 x7 H := ⟨[x0', x1', x2', x3', x4', x5', x6', x7'], H', rfl, hg, h⟩
theorem gh8.mk {I : AV → AV → AV → AV → AV → AV → AV → AV → AH → Prop} {x0 x1 x2 x3 x4 x5 x6 x7 : AV} {H : AH} (h : I x0 x1 x2 x3 x4 x5 x6 x7 H) : gh8 I x0 x1 x2 x3 x4 x5 x6 x7 H := gh8.of (.refl _ _) h
theorem back8.of {I : Nat → AV → AV → AV → AV → AV → AV → AV → AV → AH → Prop} {m : Nat} (m' : Nat) (hm : m' < m) {x0 x1 x2 x3 x4 x5 x6 x7 x0' x1' x2' x3' x4' x5' x6' x7' : AV} {H H' : AH} (hg : Ghost [x0, x1, x2, x3, x4, x5, x6, x7] H [x0', x1', x2', x3', x4', x5', x6', x7'] H') (h : I m' x0' x1' x2' x3' x4' x5' x6' x7' H') : back8 I m x0 x1 x2 x3 x4 x5 x6 x7 H := ⟨m', hm, gh8.of hg h⟩
theorem back8.mk {I : Nat → AV → AV → AV → AV → AV → AV → AV → AV → AH → Prop} {m : Nat} (m' : Nat) (hm : m' < m) {x0 x1 x2 x3 x4 x5 x6 x7 : AV} {H : AH} (h : I m' x0 x1 x2 x3 x4 x5 x6 x7 H) : back8 I m x0 x1 x2 x3 x4 x5 x6 x7 H := back8.of m' hm (.refl _ _) h
/-- room for new blocks -/
theorem ghost_room {bs : List Blk} {n : Nat} {xs : List AV} (ds : List Blk) (hd : ∀ x ∈ ds, x = .dead) : Ghost xs ⟨bs, n⟩ xs ⟨bs ++ ds, n⟩ := by
  refine ghost_kill (H := ⟨bs, n⟩) (H' := ⟨bs ++ ds, n⟩) (S := fun _ => false) rfl ?_ (FkL.same xs)
  have : ∀ (i : Nat) (l : List Blk), KBL ⟨bs, n⟩ (fun _ => false) i l (l ++ ds) := by
    intro i l
    induction l generalizing i with
    | nil => exact .room hd
    | cons x l ih => exact .keep rfl (KB.same x) (ih _)
  exact this 0 bs

section
variable {E : Env} {P : Program}
/-- a call that looks into memory of one's own, and whose results have no memory -/
theorem FR.borrow {k : Nat} {args args' : List AV} {R0 : AV → Prop} {H : AH} (h : FR E P k args' R0) (ha : FkL H S0 args args') (hr : ∀ r, R0 r → r.flat) : ACalls E P k args H fun r H' => R0 r ∧ ∃ n, H' = ⟨H.bs, n⟩ := by
  intro c vs hH hv o a next Q hn
  have hgh := ghost_all ha E c hH
  let c0 := c.kill S0
  have hH0 : HRel E c0 ⟨[], c.ctr⟩ := by
    refine ⟨rfl, fun b _ => by simp [c0, Cx.kill, S0], by simp, fun b hb => absurd (by simp [c0, Cx.kill, S0]) hb, by simp, fun b _ hb => absurd (by simp [c0, Cx.kill, S0]) hb, fun b hb => absurd (by simp [c0, Cx.kill, S0]) hb, ?_, hH.fclt, hH.globLe (c.kill_le S0)⟩
    rintro k (hk | ⟨b, hb, _, he⟩)
    · exact hH.fzlt k hk
    · rw [← he]; exact hH.lt b hb
  refine h.ok c.ctr c0 vs hH0 (ha.rel hH hv) o a next Q fun v w' hvw => hn v w' ?_
  obtain ⟨r, c1, H1, rfl, hr0, hH1, hv1, hL⟩ := hvw
  have hg0 : ∀ b, c0.gen b = none := fun b => by simp [c0, Cx.kill, S0]
  have hheap : ∀ k, k < c.w.heap.size → c1.w.heap[k]? = c.w.heap[k]? := fun k hk => hL.keep k hk fun b hb => absurd (hg0 b) hb
  let c2 : Cx := { w := c1.w, al := c.al, base := c.base, gen := c.gen, sz := c.sz, csz := c.csz, fz := fun k => c1.fz k ∧ ∀ b, c.gen b ≠ none → c.al b ≠ k, fc := fun k j => c.fc k j ∨ (c1.fc k j ∧ ∀ b, c.gen b ≠ none → c.al b ≠ k), ctr := c1.ctr }
  have hle : c.le c2 := {
    ctr := hL.le.ctr
    fz := fun k hk => ⟨⟨(hL.le.fz k (.inl hk)).1, fun b hb he => hH.apart b hb (he ▸ hk)⟩, hheap k (hH.fzlt k hk)⟩
    fc := fun k j hk => ⟨.inr (.inl hk), cell_of_heap (hheap k (hH.fclt k j hk)) _ _⟩
    gen := fun b g _ e => ⟨e, rfl, rfl, rfl, rfl⟩
    room := fun b g _ e j hj => by
      rcases hj with hj | ⟨_, hj⟩
      · exact hj
      · exact absurd rfl (hj b (by rw [show c.gen b = some g from e]; simp)) }
  have hsz : c.w.heap.size ≤ c1.w.heap.size := hL.size
  refine ⟨r, c2, ⟨H.bs, c1.ctr⟩, rfl, ⟨hr0, c1.ctr, rfl⟩, ⟨rfl, hH.out, fun b x hb => (hH.blk b x hb).mono hle rfl rfl rfl rfl rfl (fun hd => hheap _ (hH.lt b (hH.live' hb hd))), fun b hb hk => hk.2 b hb rfl, ?_, hH.inj, fun b hb => Nat.lt_of_lt_of_le (hH.lt b hb) hsz, fun k hk => hH1.fzlt k hk.1, ?_, hH.globLe hle⟩, VRel.ofFlat r v (hr r hr0) hv1, ?_⟩
  · intro b x hb hd ht j hj
    rcases hj with hj | ⟨_, hj⟩
    · exact hH.solid b x hb hd ht j hj
    · exact hj b (hH.live' hb hd) rfl
  · intro k j hk
    rcases hk with hk | ⟨hk, _⟩
    · exact Nat.lt_of_lt_of_le (hH.fclt k j hk) hsz
    · exact hH1.fclt k j hk
  · exact {
      le := hle
      os := hL.os
      tape := hL.tape
      output := hL.output
      size := hL.size
      keep := fun k hk _ => hheap k hk
      own := fun b hb => .inl ⟨b, hb, rfl⟩
      fz := fun k hk => by
        rcases hL.fz k hk.1 with (h1 | ⟨b, hb, _, he⟩) | h1 | ⟨b, hb, _⟩
        · exact .inl h1
        · exact absurd he (hk.2 b hb)
        · exact .inr (.inl h1)
        · exact absurd (hg0 b) hb
      fc := fun k j hk => by
        rcases hk with hk | ⟨hk, _⟩
        · exact .inl hk
        · rcases hL.fc k j hk with h1 | h1 | ⟨b, hb, _⟩
          · exact .inl h1
          · exact .inr (.inl h1)
          · exact absurd (hg0 b) hb }

theorem wCall.bo {k : Nat} {args args' : List AV} {r : AV} {H : AH} {K : Kt} (h : FX E P k args' r) (hr : r.flat) (ha : FkL H S0 args args') (hK : ∀ n, K r ⟨H.bs, n⟩) : wCall E P k args H K :=
  ⟨_, h.fr.borrow ha (fun _ e => e ▸ hr), fun x _ ⟨h1, n, h2⟩ => by subst h1; subst h2; exact hK n⟩
/-- frozen for good: by a step of the proof alone -/
theorem wCall.gh {k : Nat} {args args' : List AV} {R0 : AV → Prop} {H H' : AH} {K : Kt} (hg : Ghost args H args' H') (h : FR E P k args' R0) (hK : ∀ r n, R0 r → K r ⟨H'.bs, n⟩) : wCall E P k args H K :=
  ⟨_, ACalls.args hg (h.lift H'), fun r _ ⟨h1, n, h2⟩ => h2 ▸ hK r n h1⟩
theorem wCallV.fr {k : Nat} {fs args cs args' : List AV} {R0 : AV → Prop} {H : AH} {K : Kt} (h : FR E P k args' R0) (hs : SubL (fs ++ args ++ cs) args') (hK : ∀ r n, R0 r → K r ⟨H.bs, n⟩) : wCallV E P (.fn k fs cs) args H K :=
  ⟨k, fs, cs, rfl, _, ACalls.args (ghost_sub hs) (h.lift H), fun r _ ⟨h1, n, h2⟩ => h2 ▸ hK r n h1⟩
theorem wCallV.fx {k : Nat} {fs args cs : List AV} {r : AV} {H : AH} {K : Kt} (h : FX E P k (fs ++ args ++ cs) r) (hK : ∀ n, K r ⟨H.bs, n⟩) : wCallV E P (.fn k fs cs) args H K :=
  .fr h.fr (.refl _) fun _ n e => e ▸ hK n
theorem wCallV.bo {k : Nat} {fs args cs args' : List AV} {r : AV} {H : AH} {K : Kt} (h : FX E P k args' r) (hr : r.flat) (ha : FkL H S0 (fs ++ args ++ cs) args') (hK : ∀ n, K r ⟨H.bs, n⟩) : wCallV E P (.fn k fs cs) args H K :=
  ⟨k, fs, cs, rfl, _, h.fr.borrow ha (fun _ e => e ▸ hr), fun x _ ⟨h1, n, h2⟩ => by subst h1; subst h2; exact hK n⟩
theorem wInv.fr {f k : Nat} {a : AV} {name : String} {args args' : List AV} {R0 : AV → Prop} {H : AH} {K : Kt} (hm : MethodIs E P k name f) (h : FR E P f args' R0) (hs : SubL (a :: args) args') (hK : ∀ r n, R0 r → K r ⟨H.bs, n⟩) : wInv E P (.ifc k a) name args H K :=
  ⟨k, a, f, rfl, hm, _, ACalls.args (ghost_sub hs) (h.lift H), fun r _ ⟨h1, n, h2⟩ => h2 ▸ hK r n h1⟩
theorem wInv.fx {f k : Nat} {a : AV} {name : String} {args : List AV} {r : AV} {H : AH} {K : Kt} (hm : MethodIs E P k name f) (h : FX E P f (a :: args) r) (hK : ∀ n, K r ⟨H.bs, n⟩) : wInv E P (.ifc k a) name args H K :=
  .fr hm h.fr (.refl _) fun _ n e => e ▸ hK n

end
/-! ### what is told of frozen memory -/
theorem FkL.length {H : AH} {S : Nat → Bool} : ∀ {xs ys : List AV}, FkL H S xs ys → xs.length = ys.length
  | _, _, .nil => rfl
  | _, _, .cons _ h => by simp [FkL.length h]
theorem FkL.crel {H : AH} {S : Nat → Bool} {E : Env} {c : Cx} (hH : HRel E c H) : ∀ {xs ys : List AV}, FkL H S xs ys → ∀ {b o : Nat}, CRel E c xs b o → CRel E (c.kill S) ys b o
  | _, _, .nil, _, _, _ => by simp [CRel]
  | _, _, .cons h1 h2, b, o, r => by
    simp only [CRel] at r ⊢
    obtain ⟨⟨hf, u, hu, hv⟩, r⟩ := r
    refine ⟨⟨hf.imp (fun h => .inl h) id, u, hu, h1 E c hH u hv⟩, FkL.crel hH h2 r⟩
theorem Fk.slN {H : AH} {S : Nat → Bool} {cs cs' : List AV} {len : Nat} (h : FkL H S cs cs') : Fk H S (.slN cs len) (.slN cs' len) := fun E c hH v r => by
  simp only [VRel] at r ⊢
  refine r.imp id ?_
  rintro ⟨p, cap, rfl, hl, r⟩
  refine ⟨p, cap, rfl, hl, r.imp id ?_⟩
  rintro ⟨b, o, rfl, hc⟩
  exact ⟨b, o, rfl, h.crel hH hc⟩
theorem Fk.slT {H : AH} {S : Nat → Bool} {b g : Nat} {cs cs' : List AV} {len : Nat} (h : FkL H S cs cs') : Fk H S (.slT b cs len g) (.slT b cs' len g) := fun E c hH v r => by
  simp only [VRel] at r ⊢
  obtain ⟨hg, p, cap, rfl, hl, r⟩ := r
  refine ⟨hg, p, cap, rfl, hl, r.imp id ?_⟩
  rintro ⟨k, o, rfl, hc, hr⟩
  refine ⟨k, o, rfl, h.crel hH hc, fun e => ?_⟩
  have e' : c.gen b = some g := by
    simp only [Cx.kill] at e
    split at e
    · cases e
    · exact e
  obtain ⟨h1, h2, h3⟩ := hr e'
  exact ⟨h1, fun j hj => h2 j (by rw [h.length]; exact hj), h3⟩
theorem Gr.fk {H : AH} {S : Nat → Bool} {sz : Nat} {z : Blk} {b : Nat} {x : AV} {cs cs' : List AV} {n : Nat} (hg : Gr sz z b x cs n) (h : FkL H S cs cs') : ∃ x', Gr sz z b x' cs' n ∧ Fk H S x x' := by
  rcases hg with ⟨rfl, rfl, rfl, rfl⟩ | ⟨g, rfl, rfl⟩
  · cases h
    exact ⟨nilS, .nil, .same _⟩
  · exact ⟨_, .mk, .slT h⟩

/-! ### open orders -/
theorem wOne.mk {op : AH → Kt → Prop} {H : AH} {K : Kt} (x : AV) (h : ∀ n (K' : Kt), (∀ n', K' x ⟨H.bs, n'⟩) → op ⟨H.bs, n⟩ K') (k : K x H) : wOne op H K := ⟨x, h, k⟩
theorem wAll.mk {H : AH} {k : AH → Prop} (h : ∀ n, k ⟨H.bs, n⟩) : wAll H k := h

abbrev Body1 (E : Env) (P : Program) (k : Nat) (F : Env → Program → AV → AH → Kt → Prop) : Prop := ∀ a H R, F E P a H R → ACalls E P k [a] H R
abbrev Body2 (E : Env) (P : Program) (k : Nat) (F : Env → Program → AV → AV → AH → Kt → Prop) : Prop := ∀ a b H R, F E P a b H R → ACalls E P k [a, b] H R
abbrev Body3 (E : Env) (P : Program) (k : Nat) (F : Env → Program → AV → AV → AV → AH → Kt → Prop) : Prop := ∀ a b c H R, F E P a b c H R → ACalls E P k [a, b, c] H R
abbrev Body4 (E : Env) (P : Program) (k : Nat) (F : Env → Program → AV → AV → AV → AV → AH → Kt → Prop) : Prop := ∀ a b c d H R, F E P a b c d H R → ACalls E P k [a, b, c, d] H R
abbrev Body5 (E : Env) (P : Program) (k : Nat) (F : Env → Program → AV → AV → AV → AV → AV → AH → Kt → Prop) : Prop := ∀ a b c d e H R, F E P a b c d e H R → ACalls E P k [a, b, c, d, e] H R
end Go.Sc
namespace Go.Sc
open Go
set_option linter.unusedVariables false
/-- an error of package api: a number; none is nil -/
def Er (e : Int) : AV := if e = 0 then nilE else .ifc 1 (Z e)
theorem Er_closed (e : Int) : (Er e).closed := by unfold Er; split <;> simp [AV.closed]
theorem Er_zero : Er 0 = nilE := rfl
theorem Er_ne {e : Int} (h : e ≠ 0) : Er e = .ifc 1 (Z e) := if_neg h
def At (e p : Int) : AV := .ifc 2 (.ptrF [Z e, Z p] 0)
theorem At_closed (e p : Int) : (At e p).closed := by simp [At, AV.closed, AV.closedL]
/-! ### maps -/
theorem wMapN.L {H : AH} {K : Kt} (h : K (.mapL H.bs.length H.ctr) ⟨H.bs ++ [.map H.ctr [] []], H.ctr + 1⟩) : wMapN H K := ⟨H.bs.length, .inl rfl, by simpa [AH.put] using h⟩
theorem maps_at {H : AH} {b g : Nat} {ks vs : List AV} (hb : H.bs[b]? = some (.map g ks vs)) : H.maps b g = some (ks, vs) := by simp [AH.maps, hb]
theorem insertA_new {d : TypeDesc} {k v : AV} {b g : Nat} {ks vs : List AV} {H : AH} (hb : H.bs[b]? = some (.map g ks vs)) (hd : keyIs d k = true) (hf : findK k ks 0 = some none) : insertA d (.mapL b g) k v H = some ⟨H.bs.set b (.map g (ks ++ [k]) (vs ++ [v])), H.ctr⟩ := by
  simp [insertA, hd, maps_at hb, hf]
theorem lookupA_L {d : TypeDesc} {z k : AV} {ok : Bool} {b g : Nat} {ks vs : List AV} {H : AH} (hb : H.bs[b]? = some (.map g ks vs)) (hd : keyIs d k = true) : lookupA d z ok (.mapL b g) k H = mapGet z ok k ks vs := by
  simp [lookupA, hd, maps_at hb]
def LB (l : List Bool) : AV := Lm (fun b => Bo b) l
theorem LB_closed (l : List Bool) : (LB l).closed := by simp [LB, Lm, AV.closed, closed_B]
theorem put_two (a b a' b' : AV) : putL [a, b] 0 [a', b'] = some [a', b'] := rfl
/-- the first place of one in a list, or -1 -/
def idx {α : Type} [DecidableEq α] (l : List α) (x : α) : Int := if x ∈ l then (l.idxOf x : Nat) else -1
theorem idx_app {α : Type} [DecidableEq α] {pre rest : List α} {x : α} (h : x ∉ pre) : idx (pre ++ x :: rest) x = pre.length := by
  simp [idx, List.idxOf_append, h]
theorem idx_neg {α : Type} [DecidableEq α] {l : List α} {x : α} : idx l x < 0 ↔ x ∉ l := by
  unfold idx; split <;> simp_all <;> omega

theorem Y0 : type_of% @wGet_some := @wGet_some
theorem Y1 : type_of% @wPut_some := @wPut_some
theorem Y2 : type_of% @wDo_some := @wDo_some
theorem Y3 : type_of% @wBool_some := @wBool_some
theorem Y4 : type_of% @wAgg_some := @wAgg_some
theorem Y5 : type_of% @wIf_true := @wIf_true
theorem Y6 : type_of% @wIf_false := @wIf_false
theorem Y7 : type_of% @wGuard_ff := @wGuard_ff
theorem Y8 : type_of% @wGuard_tt := @wGuard_tt
theorem Y9 : type_of% @wGuard_ft := @wGuard_ft
theorem Ya : type_of% @wGuard_tf := @wGuard_tf
theorem Yb : type_of% @wGuard_undef := @wGuard_undef
theorem Yc : type_of% @pickA_t := @pickA_t
theorem Yd : type_of% @pickA_f := @pickA_f
theorem Ye : type_of% @unA_not := @unA_not
theorem Yf : type_of% @faddr_L := @faddr_L
theorem Yg : type_of% @faddr_F := @faddr_F
theorem Yh : type_of% @extractA_tup := @extractA_tup
theorem Yi : type_of% @lenA_N := @lenA_N
theorem Yj : type_of% @lenA_F := @lenA_F
theorem Yk : type_of% @lenA_L := @lenA_L
theorem Yl : type_of% @lenA_T := @lenA_T
theorem Ym : type_of% @lenA_nil := @lenA_nil
theorem Yn : type_of% @lenS_S := @lenS_S
theorem Yo : type_of% @load1_L := @load1_L
theorem Yp : type_of% @load1_F := @load1_F
theorem Yq : type_of% @loadN_L := @loadN_L
theorem Yr : type_of% @loadN_F := @loadN_F
theorem Ys : type_of% @blkCells_self := @blkCells_self
theorem Yt : type_of% @blkDo_self := @blkDo_self
theorem Yu : type_of% @binA_lss := @binA_lss
theorem Yv : type_of% @binA_leq := @binA_leq
theorem Yw : type_of% @binA_gtr := @binA_gtr
theorem Yx : type_of% @binA_geq := @binA_geq
theorem Yy : type_of% @binA_eql := @binA_eql
theorem Yz : type_of% @binA_neq := @binA_neq
theorem Y10 : type_of% @binA_seq := @binA_seq
theorem Y11 : type_of% @binA_sne := @binA_sne
theorem Y12 : type_of% @bnd_none := @bnd_none
theorem Y13 : type_of% @bnd_some := @bnd_some
theorem Y14 : type_of% @eqA_bool := @eqA_bool
theorem Y15 : type_of% @eqA_ifc := @eqA_ifc
theorem Y16 : type_of% @eqA_nilE := @eqA_nilE
theorem Y17 : type_of% @eqA_pF := @eqA_pF
theorem Y18 : type_of% @eqA_pL := @eqA_pL
theorem Y19 : type_of% @eqA_pN := @eqA_pN
theorem Y1a : type_of% @eqA_slF := @eqA_slF
theorem Y1b : type_of% @eqA_slL := @eqA_slL
theorem Y1c : type_of% @eqA_slT := @eqA_slT
theorem Y1d : type_of% @eqA_slZ := @eqA_slZ
theorem Y1e : type_of% @nilA_F := @nilA_F
theorem Y1f : type_of% @nilA_L := @nilA_L
theorem Y1g : type_of% @nilA_fn := @nilA_fn
theorem Y1h : type_of% @convA_int := @convA_int
theorem Y1i : type_of% @convA_str := @convA_str
theorem Y1j : type_of% @sub_two := @sub_two
theorem Y1k : type_of% @sub_three := @sub_three
theorem Y1l : type_of% @sub_four := @sub_four
theorem Y1n : type_of% @List.nil_append := @List.nil_append
theorem Y1o : type_of% @List.cons_append := @List.cons_append
theorem Y1p : type_of% @List.length_nil := @List.length_nil
theorem Y1q : type_of% @List.length_cons := @List.length_cons
theorem Y1r : type_of% @Nat.zero_add := @Nat.zero_add
theorem Y1s : type_of% @Nat.add_zero := @Nat.add_zero
theorem Y1t : type_of% @Nat.mul_one := @Nat.mul_one
theorem Y1w : type_of% @List.getElem?_cons_zero := @List.getElem?_cons_zero
theorem Y1x : type_of% @List.getElem?_cons_succ := @List.getElem?_cons_succ
theorem Y1y : type_of% @List.set_cons_zero := @List.set_cons_zero
theorem Y1z : type_of% @List.set_cons_succ := @List.set_cons_succ
theorem Y20 : type_of% @Option.map_some := @Option.map_some
theorem Y21 : type_of% @Option.bind_some := @Option.bind_some
theorem Y22 : type_of% @Bool.bne_false := @Bool.bne_false
theorem Y23 : type_of% @Bool.bne_true := @Bool.bne_true
theorem Y24 : type_of% @Bool.not_true := @Bool.not_true
theorem Y25 : type_of% @Bool.not_false := @Bool.not_false
theorem Y26 : type_of% @decide_true := @decide_true
theorem Y27 : type_of% @decide_false := @decide_false
theorem Y28 : type_of% @if_true := @if_true
theorem Y29 : type_of% @Bool.false_eq_true := @Bool.false_eq_true
theorem Y2a : type_of% @if_false := @if_false
theorem Y2b : type_of% @Int.toNat_natCast := @Int.toNat_natCast
theorem nd0 : ((((((type_of% @Y0) ∧ (type_of% @Y1)) ∧ ((type_of% @Y2) ∧ (type_of% @Y3))) ∧ (((type_of% @Y4) ∧ (type_of% @Y5)) ∧ ((type_of% @Y6) ∧ (type_of% @Y7)))) ∧ ((((type_of% @Y8) ∧ (type_of% @Y9)) ∧ ((type_of% @Ya) ∧ (type_of% @Yb))) ∧ (((type_of% @Yc) ∧ (type_of% @Yd)) ∧ ((type_of% @Ye) ∧ ((type_of% @Yf) ∧ (type_of% @Yg)))))) ∧ (((((type_of% @Yh) ∧ (type_of% @Yi)) ∧ ((type_of% @Yj) ∧ (type_of% @Yk))) ∧ (((type_of% @Yl) ∧ (type_of% @Ym)) ∧ ((type_of% @Yn) ∧ (type_of% @Yo)))) ∧ ((((type_of% @Yp) ∧ (type_of% @Yq)) ∧ ((type_of% @Yr) ∧ (type_of% @Ys))) ∧ (((type_of% @Yt) ∧ (type_of% @Yu)) ∧ ((type_of% @Yv) ∧ ((type_of% @Yw) ∧ (type_of% @Yx))))))) ∧ ((((((type_of% @Yy) ∧ (type_of% @Yz)) ∧ ((type_of% @Y10) ∧ (type_of% @Y11))) ∧ (((type_of% @Y12) ∧ (type_of% @Y13)) ∧ ((type_of% @Y14) ∧ (type_of% @Y15)))) ∧ ((((type_of% @Y16) ∧ (type_of% @Y17)) ∧ ((type_of% @Y18) ∧ (type_of% @Y19))) ∧ (((type_of% @Y1a) ∧ (type_of% @Y1b)) ∧ ((type_of% @Y1c) ∧ ((type_of% @Y1d) ∧ (type_of% @Y1e)))))) ∧ (((((type_of% @Y1f) ∧ (type_of% @Y1g)) ∧ ((type_of% @Y1h) ∧ (type_of% @Y1i))) ∧ (((type_of% @Y1j) ∧ (type_of% @Y1k)) ∧ ((type_of% @Y1l) ∧ ((type_of% @Y1r) ∧ (type_of% @Y1s))))) ∧ ((((type_of% @Y1t) ∧ (type_of% @Y22)) ∧ ((type_of% @Y23) ∧ (type_of% @Y24))) ∧ (((type_of% @Y25) ∧ (type_of% @Y26)) ∧ ((type_of% @Y27) ∧ ((type_of% @Y29) ∧ (type_of% @Y2b))))))) := ⟨⟨⟨⟨⟨⟨@Y0, @Y1⟩, ⟨@Y2, @Y3⟩⟩, ⟨⟨@Y4, @Y5⟩, ⟨@Y6, @Y7⟩⟩⟩, ⟨⟨⟨@Y8, @Y9⟩, ⟨@Ya, @Yb⟩⟩, ⟨⟨@Yc, @Yd⟩, ⟨@Ye, ⟨@Yf, @Yg⟩⟩⟩⟩⟩, ⟨⟨⟨⟨@Yh, @Yi⟩, ⟨@Yj, @Yk⟩⟩, ⟨⟨@Yl, @Ym⟩, ⟨@Yn, @Yo⟩⟩⟩, ⟨⟨⟨@Yp, @Yq⟩, ⟨@Yr, @Ys⟩⟩, ⟨⟨@Yt, @Yu⟩, ⟨@Yv, ⟨@Yw, @Yx⟩⟩⟩⟩⟩⟩, ⟨⟨⟨⟨⟨@Yy, @Yz⟩, ⟨@Y10, @Y11⟩⟩, ⟨⟨@Y12, @Y13⟩, ⟨@Y14, @Y15⟩⟩⟩, ⟨⟨⟨@Y16, @Y17⟩, ⟨@Y18, @Y19⟩⟩, ⟨⟨@Y1a, @Y1b⟩, ⟨@Y1c, ⟨@Y1d, @Y1e⟩⟩⟩⟩⟩, ⟨⟨⟨⟨@Y1f, @Y1g⟩, ⟨@Y1h, @Y1i⟩⟩, ⟨⟨@Y1j, @Y1k⟩, ⟨@Y1l, ⟨@Y1r, @Y1s⟩⟩⟩⟩, ⟨⟨⟨@Y1t, @Y22⟩, ⟨@Y23, @Y24⟩⟩, ⟨⟨@Y25, @Y26⟩, ⟨@Y27, ⟨@Y29, @Y2b⟩⟩⟩⟩⟩⟩⟩
end Go.Sc
namespace Go.Sc
open Go Go.RowKit
set_option linter.unusedVariables false
/-- the context as a call begins: all that is there is frozen -/
def Cx.start (W : World) : Cx := { w := W, al := fun _ => 0, base := fun _ => 0, gen := fun _ => none, sz := fun _ => 0, csz := fun _ => 0, fz := fun b => b < W.heap.size, fc := fun _ _ => False, ctr := 0 }
/-- what is known of variables is so -/
def Env.met (E : Env) (W : World) : Prop := ∀ g cs, E.gl g = some cs → AV.closedL cs ∧ CRel E (Cx.start W) cs (E.gn g) 0
theorem HRel.start {E : Env} {W : World} (hg : E.met W) : HRel E (Cx.start W) ⟨[], 0⟩ :=
  ⟨rfl, fun _ _ => rfl, by simp, fun _ h => absurd rfl h, by simp, fun _ _ h => absurd rfl h, fun _ h => absurd rfl h, fun _ h => h, fun _ _ h => h.elim, hg⟩
theorem Later.below {W : World} {c : Cx} (h : Later (Cx.start W) c) : Below W.heap.size W c.w :=
  ⟨h.os, h.tape, h.output, h.size, fun k hk => h.keep k hk fun b hb => absurd rfl hb⟩

/-- a law's call -/
theorem calls_law {E : Env} {P : Program} {f : FuncId} {fn : Func} {n : Ann} {args : List AV} {r : Value} {W : World} (hf : P.funcs[f]? = some fn) (h : bodyW E P fn n args ⟨[], 0⟩ (fun x _ => x = .val r)) {vs : List Value} (hv : LRel E (Cx.start W) args vs) (hg : E.met W) :
    Calls P f vs.toArray W fun e w' => e = .returned r ∧ Below W.heap.size W w' := by
  refine (calls_of_body hf h (HRel.start hg) hv).mono ?_
  rintro e w' ⟨x, v, c', H', rfl, rfl, rfl, _, hv, hl⟩
  simp only [VRel] at hv
  subst hv
  exact ⟨rfl, hl.below⟩

theorem rel_str {E : Env} {c : Cx} (b : ByteArray) : VRel E c (S b.data.toList) (.string b) := by simp only [VRel]
theorem crel_start {E : Env} {W : World} {b : Nat} (hb : b < W.heap.size) {xs : List AV} {o : Nat} (h : ∀ (i : Nat) x, xs[i]? = some x → ∃ u, W.cell? ⟨b, o + i, none⟩ = some u ∧ VRel E (Cx.start W) x u) : CRel E (Cx.start W) xs b o :=
  CRel.of fun i x hi => ⟨.inl hb, h i x hi⟩
theorem list_of {α : Type} {Q : Nat → α → Prop} : ∀ n, (∀ i, i < n → ∃ x, Q i x) → ∃ xs : List α, xs.length = n ∧ ∀ (i : Nat) x, xs[i]? = some x → Q i x
  | 0, _ => ⟨[], rfl, by simp⟩
  | n + 1, h => by
    obtain ⟨xs, h1, h2⟩ := list_of n fun i hi => h i (by omega)
    obtain ⟨y, hy⟩ := h n (by omega)
    refine ⟨xs ++ [y], by simp [h1], fun i x hx => ?_⟩
    by_cases hi : i < xs.length
    · rw [List.getElem?_append_left hi] at hx; exact h2 i x hx
    · have hl := lt_of_get hx
      simp at hl
      have : i = xs.length := by omega
      subst this
      simp at hx
      rw [h1]; exact hx ▸ hy

section
variable {H : Type} {enc : TypeId × Value → H} {P : Program} {W : World} {E : Env} {fuel : Nat} {t : TypeId} {cs : List Value} {x : DataW H × List MemPlace}
theorem trod_i64r (ht : P.underlying t = some (.int .i64)) (h : DataW.trod enc P W 0 (fun _ => true) true fuel t cs = some x) : ∃ z, cs = [.int .i64 z] ∧ -9223372036854775808 ≤ z ∧ z ≤ 9223372036854775807 := by
  obtain ⟨n, h1, _, h2⟩ := DataW.trod_int ht h
  exact ⟨n, h1, by simpa [Lit.wf, IntKind.min, IntKind.max, IntKind.signed, IntKind.bits] using h2⟩
theorem cells_get {a : Addr} {n : Nat} {vs : List Value} (h : W.cells? 0 a n = some vs) : vs.length = n ∧ ∀ j v, vs[j]? = some v → W.cell? (a.add j) = some v := by
  simp only [World.cells?, Nat.zero_le, if_true] at h
  have hl : vs.length = n := by simpa using mapM_some_length h
  refine ⟨hl, fun j v hj => ?_⟩
  have hjn := lt_of_get hj
  have := mapM_some_get h j j (by rw [List.getElem?_range (by omega)])
  rw [this, hj]
theorem cell_spot {a : Addr} {v : Value} (h : W.cell? a = some v) : a.spot = none ∧ a.block < W.heap.size := by
  simp only [World.cell?] at h
  split at h
  · rename_i hb
    refine ⟨?_, ?_⟩
    · cases hs : a.spot with
      | none => rfl
      | some s => simp [hs] at h
    · by_cases hb' : a.block < W.heap.size
      · exact hb'
      · rw [Array.getElem?_eq_none (by omega)] at hb; cases hb
  · cases h
theorem crel_flat {α : Type} {f : α → List AV} {n b : Nat} (hb : b < W.heap.size) (hn : ∀ a, (f a).length = n) : ∀ (xs : List α) (o : Nat), (∀ (i : Nat) x, xs[i]? = some x → ∃ vs : List Value, LRel E (Cx.start W) (f x) vs ∧ ∀ j v, vs[j]? = some v → W.cell? ⟨b, o + i * n + j, none⟩ = some v) → CRel E (Cx.start W) (xs.map f).flatten b o
  | [], _, _ => by simp [CRel]
  | x :: xs, o, h => by
    simp only [List.map_cons, List.flatten_cons]
    refine CRel.append (crel_start hb fun i y hi => ?_) ?_
    · obtain ⟨vs, h1, h2⟩ := h 0 x rfl
      obtain ⟨u, h3, h4⟩ := h1.get hi
      exact ⟨u, by simpa using h2 i u h3, h4⟩
    · rw [hn]
      refine crel_flat hb hn xs (o + n) fun i y hi => ?_
      obtain ⟨vs, h1, h2⟩ := h (i + 1) y (by simpa using hi)
      refine ⟨vs, h1, fun j v hj => ?_⟩
      rw [← h2 j v hj]
      congr 2
      rw [Nat.add_mul]; omega

def inI (z : Int) : Prop := -9223372036854775808 ≤ z ∧ z ≤ 9223372036854775807
end
end Go.Sc
namespace Go.Sc
open Go Go.RowKit Go.WideShapes
set_option linter.unusedVariables false
def Sized {H : Type} (P : Program) (t : TypeId) (d : DataW H) : Prop := ∀ n ∈ d.weights P t, n ≤ reachBytes
theorem weights_all {H : Type} {P : Program} {e : TypeId} {d : DataW H} {n : Nat} (hn : n ∈ d.weights P e) : ∀ {l : List (DataW H)}, d ∈ l → n ∈ DataW.weightsAll P e l
  | y :: l, h => by
    simp only [DataW.weightsAll, List.mem_append]
    rcases List.mem_cons.1 h with rfl | h
    · exact .inl hn
    · exact .inr (weights_all hn h)
theorem Sized.of_each {H : Type} {P : Program} {ts : List TypeId} {ds : List (DataW H)} (h : (DataW.weightsEach P ts ds).all (· ≤ reachBytes) = true) {j : Nat} {t : TypeId} {d : DataW H} (ht : ts[j]? = some t) (hd : ds[j]? = some d) : Sized P t d := fun n hn => by
  have := List.all_eq_true.1 h n (DataW.weights_mem_each ht hd n hn)
  simpa using this

/-- a type's values, as 'f' tells them -/
structure Dec {H : Type} (enc : TypeId × Value → H) (P : Program) (W : World) (E : Env) (t : TypeId) {α : Type} (f : α → List AV) (Q : α → Prop) : Prop where
  ok : ∀ fuel cs x, DataW.trod enc P W 0 (fun _ => true) true fuel t cs = some x → Sized P t x.1 → ∃ a, Q a ∧ LRel E (Cx.start W) (f a) cs

section
variable {H : Type} {enc : TypeId × Value → H} {P : Program} {W : World} {E : Env} {t : TypeId}
theorem LRel.one {c : Cx} {x : AV} {v : Value} (h : VRel E c x v) : LRel E c [x] [v] := by simp only [LRel]; exact ⟨v, [], rfl, h, rfl⟩
theorem LRel.one' {c : Cx} {x : AV} {vs : List Value} (h : LRel E c [x] vs) : ∃ v, vs = [v] ∧ VRel E c x v := by
  simp only [LRel] at h
  obtain ⟨u, us, rfl, h1, rfl⟩ := h
  exact ⟨u, rfl, h1⟩
theorem Dec.map {α β : Type} {f : α → List AV} {Q : α → Prop} (h : Dec enc P W E t f Q) {g : β → List AV} {Q' : β → Prop} (φ : α → β) (hφ : ∀ a, Q a → Q' (φ a) ∧ g (φ a) = f a) : Dec enc P W E t g Q' where
  ok := fun fuel cs x hx hs => by
    obtain ⟨a, h1, h2⟩ := h.ok fuel cs x hx hs
    exact ⟨φ a, (hφ a h1).1, (hφ a h1).2 ▸ h2⟩
theorem Dec.i64 (ht : P.underlying t = some (.int .i64)) : Dec enc P W E t (fun z => [Z z]) inI where
  ok := fun fuel cs x hx _ => by
    obtain ⟨z, rfl, h⟩ := trod_i64r ht hx
    exact ⟨z, h, .one (by simp [VRel])⟩
theorem Dec.str (ht : P.underlying t = some .string) : Dec enc P W E t (fun s => [S s]) (fun s : Str => s.length ≤ reachBytes) where
  ok := fun fuel cs x hx hs => by
    obtain ⟨b, rfl, rfl, _⟩ := DataW.trod_string ht hx
    exact ⟨b.data.toList, hs _ (by simp [DataW.weights]), .one (rel_str b)⟩
theorem Dec.slice {α : Type} {e : TypeId} {f : α → List AV} {Q : α → Prop} (n : Nat) (d : Dec enc P W E e f Q) (hn : ∀ a, (f a).length = n) (h0 : 0 < n) (ht : P.underlying t = some (.slice e)) (hc : P.cellsOf e = n) :
    Dec enc P W E t (fun xs : List α => [.slN (xs.map f).flatten xs.length]) (fun xs => (∀ x ∈ xs, Q x) ∧ xs.length * P.bytesOf e ≤ reachBytes) where
  ok := fun fuel cs x h hs => by
    rcases DataW.trod_slice ht h with ⟨rfl, _⟩ | ⟨a, len, cap, elems, rest, m, _, rfl, rfl, _, hl, hmx, hel, he, hr, _⟩
    · exact ⟨[], ⟨by simp, by simp⟩, .one (by simp [VRel])⟩
    · simp only [Sized, DataW.weights, ht, List.mem_cons, List.mem_append, List.length_map] at hs
      have hlen : (elems.length + rest.length) * P.bytesOf e ≤ reachBytes := hs _ (.inl rfl)
      obtain ⟨hr1, hr2⟩ := hr rfl
      have hcell : ∀ i, i < len → ∃ vs y, W.cells? 0 (a.add (i * n)) n = some vs ∧ DataW.trod enc P W 0 (fun _ => true) true m e vs = some y ∧ Sized P e y.1 := by
        intro i hi
        have h1 := he i hi
        rw [hc, List.getElem?_eq_getElem (by omega)] at h1
        simp only [Option.bind_eq_some_iff] at h1
        obtain ⟨vs, h2, h3⟩ := h1
        exact ⟨vs, _, h2, h3, fun k hk => hs k (.inr (.inl (weights_all hk (List.mem_map.2 ⟨_, List.getElem_mem _, rfl⟩))))⟩
      have hzero : cap = 0 ∨ ∃ v, W.cell? a = some v := by
        by_cases hl0 : 0 < len
        · obtain ⟨vs, _, h1, _⟩ := hcell 0 hl0
          obtain ⟨g1, g2⟩ := cells_get h1
          have : vs[0]? = some vs[0] := List.getElem?_eq_getElem (by omega)
          exact .inr ⟨_, by simpa [Addr.add] using g2 0 _ this⟩
        · by_cases hcp : 0 < cap
          · have h1 := hr2 0 (by omega)
            rw [hc, List.getElem?_eq_getElem (by omega)] at h1
            simp only [Option.bind_eq_some_iff] at h1
            obtain ⟨vs, h2, _⟩ := h1
            obtain ⟨g1, g2⟩ := cells_get h2
            have : vs[0]? = some vs[0] := List.getElem?_eq_getElem (by omega)
            have hlen0 : len = 0 := by omega
            subst hlen0
            exact .inr ⟨_, by simpa [Addr.add] using g2 0 _ this⟩
          · exact .inl (by omega)
      obtain ⟨xs, hx1, hx2⟩ := list_of (Q := fun i (x : α) => Q x ∧ ∃ vs : List Value, LRel E (Cx.start W) (f x) vs ∧ ∀ j v, vs[j]? = some v → W.cell? ((a.add (i * n)).add j) = some v) len fun i hi => by
        obtain ⟨vs, y, h1, h2, h3⟩ := hcell i hi
        obtain ⟨g1, g2⟩ := cells_get h1
        obtain ⟨z, h3, h4⟩ := d.ok m vs y h2 h3
        exact ⟨z, h3, vs, h4, g2⟩
      refine ⟨xs, ⟨fun x hx => ?_, ?_⟩, .one ?_⟩
      · obtain ⟨i, hi, rfl⟩ := List.getElem_of_mem hx
        exact (hx2 i _ (List.getElem?_eq_getElem hi)).1
      · rw [hx1, ← hel]
        exact Nat.le_trans (Nat.mul_le_mul_right _ (by omega)) hlen
      · simp only [VRel]
        refine .inr ⟨a, cap, by rw [hx1], by omega, hzero.imp id ?_⟩
        rintro ⟨v, hv⟩
        have hs := cell_spot hv
        obtain ⟨blk, off, spot⟩ := a
        have hspot : spot = none := hs.1
        subst hspot
        refine ⟨blk, off, rfl, crel_flat hs.2 hn xs off fun i x hi => ?_⟩
        obtain ⟨_, vs, h1, h2⟩ := hx2 i x hi
        refine ⟨vs, h1, fun j v hj => ?_⟩
        have := h2 j v hj
        rwa [Addr.add_at, Addr.add_at] at this
/-! ### arguments -/
theorem Dec.arg_str {α : Type} {g : α → AV} {Q : α → Prop} {r : Reach} {b0 : Nat} {v : Value} {x : DataW H} {ps : List MemPlace} (d : Dec enc P W E t (fun a => [g a]) Q) (ht : P.underlying t = some .string) (hv : Value.okWide P W r b0 t v)
    (h : DataW.Trod enc P W 0 (fun _ => true) true t v x ps) (hs : Sized P t x) : ∃ a, Q a ∧ VRel E (Cx.start W) (g a) v := by
  obtain ⟨n, rfl⟩ := okWide_string ht hv
  obtain ⟨fuel, hf⟩ := h
  obtain ⟨a, h1, h2⟩ := d.ok _ _ _ hf hs
  obtain ⟨u, e, h3⟩ := h2.one'
  simp [Value.cells] at e
  exact ⟨a, h1, e ▸ h3⟩
/-! ### variables -/
theorem laid_at {l : List (String × DataW Unit)} {n : String} {d : DataW Unit} : ∀ {l : List (String × DataW Unit)} {ps : List MemPlace}, DataW.LaidVars P W l ps → (n, d) ∈ l → ∃ g t cs fuel p, P.globalNamed n = some g ∧ (P.globals[g]?).map (·.type) = some t ∧ W.var? P n = some cs ∧ DataW.trod (fun _ => ()) P W 0 (fun _ => true) false fuel t cs.toList = some (d, p)
  | [], _, _, hm => by simp at hm
  | (n', d') :: l, ps, h, hm => by
    obtain ⟨g, t, cs, fuel, p, q, h1, h2, h3, h4, h5, _⟩ := h
    rcases List.mem_cons.1 hm with e | hm
    · injection e with e1 e2
      subst e1; subst e2
      exact ⟨g, t, cs, fuel, p, h1, h2, h3, h4⟩
    · exact laid_at (l := l) h5 hm
end
end Go.Sc
namespace Go.Sc.F
open Go Go.Sc
set_option linter.unusedVariables false
/-- slices.ContainsFunc[[]int,int] -/
def slices_ContainsFunc_Lint_int (E : Env) (P : Program) (a0 a1 : AV) (H : AH) (R : Kt) : Prop :=
  wCall E P 66 [a0, a1] H fun t7 H =>
  wGet (binA .geq t7 (.val (.int .i64 0))) H fun t8 H =>
  R t8 H

/-- slices.IndexFunc[[][]int,[]int] -/
def slices_IndexFunc_LLint_Lint (E : Env) (P : Program) (a0 a1 : AV) (H : AH) (R : Kt) : Prop :=
  wGet (lenA a0) H fun t7 H =>
  wLoop 1 (fun I1 => I1 (.val (.int .i64 0)) H) fun I1 t8 H =>
    wGet (binA .lss t8 t7) H fun t9 H =>
    wIf t9 (
      wGet (iaddr 1 a0 t8) H fun t14 H =>
      wGet (load1 t14 H) H fun t15 H =>
      wCallV E P a1 [t15] H fun t16 H =>
      wIf t16 (
        R t8 H) (
        wGet (binA .add t8 (.val (.int .i64 1))) H fun t18 H =>
        I1 t18 H)) (
      R (.val (.int .i64 (-1))) H)

/-- slices.IndexFunc[[]int,int] -/
def slices_IndexFunc_Lint_int (E : Env) (P : Program) (a0 a1 : AV) (H : AH) (R : Kt) : Prop :=
  wGet (lenA a0) H fun t7 H =>
  wLoop 1 (fun I1 => I1 (.val (.int .i64 0)) H) fun I1 t8 H =>
    wGet (binA .lss t8 t7) H fun t9 H =>
    wIf t9 (
      wGet (iaddr 1 a0 t8) H fun t14 H =>
      wGet (load1 t14 H) H fun t15 H =>
      wCallV E P a1 [t15] H fun t16 H =>
      wIf t16 (
        R t8 H) (
        wGet (binA .add t8 (.val (.int .i64 1))) H fun t18 H =>
        I1 t18 H)) (
      R (.val (.int .i64 (-1))) H)

end Go.Sc.F
namespace Go.Sc
open Go
set_option linter.unusedSimpArgs false
set_option linter.unusedVariables false
def LI (l : List Int) : AV := Lm (fun z => Z z) l
def LLI (l : List (List Int)) : AV := Lm LI l
theorem LI_closed (l : List Int) : (LI l).closed := by simp [LI, Lm, AV.closed, closed_Z]
theorem LLI_closed (l : List (List Int)) : (LLI l).closed := by simp only [LLI, Lm, AV.closed]; exact closed_map LI_closed l
theorem mapZ_get {l : List Int} {i : Nat} (h : i < l.length) : (l.map fun z => Z z)[i]? = some (Z (l.getD i 0)) := by
  simp [List.getD, List.getElem?_eq_getElem h]
theorem mapL_get {l : List (List Int)} {i : Nat} (h : i < l.length) : (l.map LI)[i]? = some (LI (l.getD i [])) := by
  simp [List.getD, List.getElem?_eq_getElem h]
def idxO : Option Nat → Int
  | some i => i
  | none => -1

section
variable {E : Env} {P : Program}
/-- the first element of which so much holds -/
theorem IndexFunc_any {α : Type} {f : α → AV} {G : Env → Program → AV → AV → AH → Kt → Prop} {kk : Nat} (hG : G = F.slices_IndexFunc_Lint_int ∨ G = F.slices_IndexFunc_LLint_Lint) (hB : Body2 E P kk G) {k : Nat} {cs : List AV} {p : α → Bool} (hf : ∀ a, (f a).closed) (l : List α) (hl : l.length < 4611686018427387904) (hcs : AV.closedL cs)
    (hp : ∀ a ∈ l, FX E P k ([f a] ++ cs) (Bo (p a))) : FX E P kk [Lm f l, .fn k [] cs] (Z (idxO (l.findIdx? p))) := by
  refine FX.of' (by simp only [AV.closedL, Lm, AV.closed, and_true, true_and]; exact ⟨closed_map hf l, hcs⟩) (by simp [AV.closed]) fun n R hR => hB _ _ _ _ ?_
  have main : wLoop 1 (fun I1 => I1 (Z 0) ⟨[], n⟩) fun I1 t8 H =>
      wGet (binA .lss t8 (Z l.length)) H fun t9 H =>
      wIf t9 (
        wGet (iaddr 1 (Lm f l) t8) H fun t14 H =>
        wGet (load1 t14 H) H fun t15 H =>
        wCallV E P (.fn k [] cs) [t15] H fun t16 H =>
        wIf t16 (
          R t8 H) (
          wGet (binA .add t8 (.val (.int .i64 1))) H fun t18 H =>
          I1 t18 H)) (
        R (.val (.int .i64 (-1))) H) := by
    refine wLoop.one (fun m i H => ∃ pre rest, l = pre ++ rest ∧ i = Z pre.length ∧ m = rest.length ∧ ∀ a ∈ pre, p a = false) l.length (gh1.mk ⟨[], l, rfl, rfl, rfl, by simp⟩) ?_
    rintro m i H ⟨pre, rest, rfl, rfl, rfl, hpre⟩
    cases rest with
    | nil =>
      simp only [nd0, Y1n, Y1o, Y1p, Y1q, Y1w, Y1x, Y1y, Y1z, Y20, Y21, Y28, Y2a, AV.cells?, Nat.reduceAdd, Nat.reduceMul, List.append_nil, Int.lt_irrefl]
      refine hR _ _ ?_
      rw [List.append_nil, List.findIdx?_eq_none_iff.2 hpre]
      rfl
    | cons x rest =>
      simp only [nd0, Y1n, Y1o, Y1p, Y1q, Y1w, Y1x, Y1y, Y1z, Y20, Y21, Y28, Y2a, AV.cells?, Nat.reduceAdd, Nat.reduceMul, decide_eq_true (show (pre.length : Int) < ((pre ++ x :: rest).length : Int) by simp; omega)]
      rw [iaddr_Nn lt_mid]
      simp only [nd0, Y1n, Y1o, Y1p, Y1q, Y1w, Y1x, Y1y, Y1z, Y20, Y21, Y28, Y2a, AV.cells?, Nat.reduceAdd, Nat.reduceMul, at_mid]
      refine wCallV.fx (hp x (by simp)) fun n1 => ?_
      refine wIf.bool (fun h => ?_) fun h => ?_
      · refine hR _ _ ?_
        have : (pre ++ x :: rest).findIdx? p = some pre.length := by
          rw [List.findIdx?_append, List.findIdx?_eq_none_iff.2 hpre]
          simp [List.findIdx?_cons, h]
        rw [this]; rfl
      · rw [binA_succ (by simp at hl; omega)]
        simp only [nd0, Y1n, Y1o, Y1p, Y1q, Y1w, Y1x, Y1y, Y1z, Y20, Y21, Y28, Y2a, AV.cells?, Nat.reduceAdd, Nat.reduceMul]
        refine back1.mk rest.length (by simp) ⟨pre ++ [x], rest, by simp, by simp, rfl, fun a ha => ?_⟩
        rcases List.mem_append.1 ha with ha | ha
        · exact hpre a ha
        · simp at ha; subst ha; exact h
  rcases hG with rfl | rfl
  · unfold F.slices_IndexFunc_Lint_int
    simp only [nd0, Y1n, Y1o, Y1p, Y1q, Y1w, Y1x, Y1y, Y1z, Y20, Y21, Y28, Y2a, AV.cells?, Nat.reduceAdd, Nat.reduceMul]
    exact main
  · unfold F.slices_IndexFunc_LLint_Lint
    simp only [nd0, Y1n, Y1o, Y1p, Y1q, Y1w, Y1x, Y1y, Y1z, Y20, Y21, Y28, Y2a, AV.cells?, Nat.reduceAdd, Nat.reduceMul]
    exact main
theorem ContainsFunc_spec (hB : Body2 E P 59 F.slices_ContainsFunc_Lint_int) (hI : Body2 E P 66 F.slices_IndexFunc_Lint_int) {k : Nat} {cs : List AV} {p : Int → Bool} (l : List Int) (hl : l.length < 4611686018427387904) (hcs : AV.closedL cs)
    (hp : ∀ a ∈ l, FX E P k ([Z a] ++ cs) (Bo (p a))) : FX E P 59 [LI l, .fn k [] cs] (Bo (l.any p)) := by
  refine FX.of' (by simp only [AV.closedL, AV.closed, and_true, true_and]; exact ⟨LI_closed l, hcs⟩) (by simp [AV.closed]) fun n R hR => hB _ _ _ _ ?_
  unfold F.slices_ContainsFunc_Lint_int
  refine wCall.fx (IndexFunc_any (f := fun z => Z z) (.inl rfl) hI (fun _ => by simp [AV.closed]) l hl hcs hp) fun n => ?_
  simp only [nd0, Y1n, Y1o, Y1p, Y1q, Y1w, Y1x, Y1y, Y1z, Y20, Y21, Y28, Y2a, AV.cells?, Nat.reduceAdd, Nat.reduceMul]
  refine hR _ _ ?_
  cases hf : l.findIdx? p with
  | none =>
    rw [List.findIdx?_eq_none_iff] at hf
    have : l.any p = false := by rw [List.any_eq_false]; intro x hx; simp [hf x hx]
    rw [this]; rfl
  | some i =>
    rw [List.findIdx?_eq_some_iff_getElem] at hf
    obtain ⟨h1, h2, _⟩ := hf
    have : l.any p = true := by rw [List.any_eq_true]; exact ⟨_, List.getElem_mem h1, h2⟩
    rw [this]
    have : (0 : Int) ≤ idxO (some i) := by simp [idxO]
    rw [decide_eq_true this]
end
end Go.Sc
namespace Go.Sc
open Go
set_option linter.unusedSimpArgs false
set_option linter.unusedVariables false
set_option linter.unnecessarySimpa false
/-- lists are numbered as they come: those that are seen, and the numbers -/
def numStep (s : List (List Int) × List Int) (l : List Int) : List (List Int) × List Int :=
  match s.1.findIdx? (fun x => decide (x = l)) with
  | some k => (s.1, s.2 ++ [(k : Int)])
  | none => (s.1 ++ [l], s.2 ++ [(s.1.length : Int)])
def numAll (t : List (List Int)) : List (List Int) × List Int := t.foldl numStep ([], [])
def number (t : List (List Int)) : List Int := (numAll t).2
theorem numStep_len (s : List (List Int) × List Int) (l : List Int) : (numStep s l).1.length ≤ s.1.length + 1 ∧ (numStep s l).2.length = s.2.length + 1 := by
  unfold numStep; split <;> simp
theorem numAll_len (t : List (List Int)) : (numAll t).1.length ≤ t.length ∧ (numAll t).2.length = t.length := by
  suffices h : ∀ (t : List (List Int)) s, (t.foldl numStep s).1.length ≤ s.1.length + t.length ∧ (t.foldl numStep s).2.length = s.2.length + t.length by
    simpa [numAll] using h t ([], [])
  intro t
  induction t with
  | nil => simp
  | cons l t ih =>
    intro s
    have h1 := ih (numStep s l)
    have h2 := numStep_len s l
    simp only [List.foldl_cons, List.length_cons]
    omega
theorem numAll_take_succ {t : List (List Int)} {i : Nat} (hi : i < t.length) : numAll (t.take (i + 1)) = numStep (numAll (t.take i)) t[i] := by
  simp only [numAll]
  rw [List.take_succ_eq_append_getElem hi, List.foldl_append]
  rfl
/-- errors: a code, and a place -/
abbrev Err := Option (Nat × Option Nat)
structure Table where
  next : List (List Int)
  tells : List (List Int)
def checkAt (t : Table) (s : Nat) : Err :=
  if (t.next[s]?.getD []).length ≠ (t.next[0]?.getD []).length ∨ (t.tells[s]?.getD []).length ≠ (t.next[0]?.getD []).length then some (3, some s)
  else if (t.next[s]?.getD []).any (fun x => decide (x < 0) || decide (x ≥ t.next.length)) then some (2, some s)
  else none
def check (t : Table) : Err :=
  if t.next.length < 1 ∨ t.next.length > 500 ∨ (t.next[0]?.getD []).length > 64 then some (4, none)
  else if t.tells.length ≠ t.next.length then some (3, none)
  else (List.range t.next.length).findSome? (checkAt t)
theorem findSome_none_of {α β : Type} {f : α → Option β} {l : List α} (h : ∀ x ∈ l, f x = none) : l.findSome? f = none := by
  rw [List.findSome?_eq_none_iff]; exact h
theorem findSome_range {β : Type} {f : Nat → Option β} {n i : Nat} {y : β} (hi : i < n) (hpre : ∀ j, j < i → f j = none) (hy : f i = some y) : (List.range n).findSome? f = some y := by
  rw [List.findSome?_eq_some_iff]
  refine ⟨(List.range n).take i, i, (List.range n).drop (i + 1), ?_, hy, fun a ha => hpre a ?_⟩
  · have h : i < (List.range n).length := by simpa using hi
    have := List.take_append_drop i (List.range n)
    rw [List.drop_eq_getElem_cons h] at this
    simpa using this.symm
  · rw [List.take_range] at ha
    have := List.mem_range.1 ha
    omega
def cell (l : List Int) (i : Nat) : Int := l[i]?.getD 0
def row (t : List (List Int)) (i : Nat) : List Int := t[i]?.getD []
/-- what is told of a state: its block, and by each input what it tells, and the block to which it leads -/
def lineTo (t : Table) (now : List Int) (s i : Nat) : List Int := cell now s :: ((List.range i).map fun j => [cell (row t.tells s) j, cell now (cell (row t.next s) j).toNat]).flatten
def line (t : Table) (now : List Int) (s : Nat) : List Int := lineTo t now s (row t.next s).length
def stepR (t : Table) (now : List Int) : List Int := number ((List.range t.next.length).map (line t now))
def iter (t : Table) : Nat → List Int
  | 0 => List.replicate t.next.length 0
  | k + 1 => stepR t (iter t k)
theorem stepR_len (t : Table) (now : List Int) : (stepR t now).length = t.next.length := by
  have := (numAll_len ((List.range t.next.length).map (line t now))).2
  simpa [stepR, number] using this
/-- does input 'i' part two states 'k' rounds before the end? -/
def parts (t : Table) (k : Nat) (a b i : Nat) : Bool :=
  (decide (k = 1) && decide (cell (row t.tells a) i ≠ cell (row t.tells b) i)) || (decide (k > 1) && decide (cell (iter t (k - 1)) (cell (row t.next a) i).toNat ≠ cell (iter t (k - 1)) (cell (row t.next b) i).toNat))
def t0 : Table := ⟨[[1], [0], [0]], [[5], [5], [6]]⟩
end Go.Sc
namespace Go.Sc
open Go
set_option linter.unnecessarySimpa false
set_option linter.unusedSimpArgs false
/-! ### numbers as they come -/
structure NumInv (t : List (List Int)) (s : List (List Int) × List Int) : Prop where
  len : s.2.length = t.length
  idx : ∀ j, j < t.length → ∃ k : Nat, s.2[j]? = some (k : Int) ∧ s.1[k]? = t[j]?
  nodup : s.1.Nodup
  new : ∀ j, j < t.length → ∀ v : Nat, ∀ k : Nat, s.2[j]? = some (k : Int) → v < k → ∃ j', j' < j ∧ s.2[j']? = some (v : Int)
  all : ∀ v, v < s.1.length → ∃ j, j < t.length ∧ s.2[j]? = some (v : Int)

theorem numInv_step {t : List (List Int)} {s : List (List Int) × List Int} (h : NumInv t s) (l : List Int) : NumInv (t ++ [l]) (numStep s l) := by
  unfold numStep
  cases hf : s.1.findIdx? (fun x => decide (x = l)) with
  | some k =>
    rw [List.findIdx?_eq_some_iff_getElem] at hf
    obtain ⟨hk, hkl, _⟩ := hf
    have hkl : s.1[k] = l := by simpa using hkl
    have hget : ∀ j, j < t.length → (s.2 ++ [(k : Int)])[j]? = s.2[j]? := fun j hj => List.getElem?_append_left (by rw [h.len]; exact hj)
    refine ⟨by simp [h.len], fun j hj => ?_, h.nodup, fun j hj v k' hk' hv => ?_, fun v hv => ?_⟩
    · by_cases hjt : j < t.length
      · obtain ⟨k', h1, h2⟩ := h.idx j hjt
        exact ⟨k', by simp only; rw [hget j hjt]; exact h1, by rw [List.getElem?_append_left hjt]; exact h2⟩
      · have : j = t.length := by simp at hj; omega
        subst this
        exact ⟨k, by simp [← h.len], by simp [List.getElem?_eq_getElem hk, hkl]⟩
    · simp only at hk'
      by_cases hjt : j < t.length
      · rw [hget j hjt] at hk'
        obtain ⟨j', h1, h2⟩ := h.new j hjt v k' hk' hv
        exact ⟨j', h1, by simp only; rw [hget j' (by omega)]; exact h2⟩
      · have : j = t.length := by simp at hj; omega
        subst this
        rw [← h.len] at hk'
        simp at hk'
        obtain ⟨j', h1, h2⟩ := h.all v (by omega)
        exact ⟨j', h1, by simp only; rw [hget j' h1]; exact h2⟩
    · obtain ⟨j', h1, h2⟩ := h.all v hv
      exact ⟨j', by simp; omega, by simp only; rw [hget j' h1]; exact h2⟩
  | none =>
    rw [List.findIdx?_eq_none_iff] at hf
    have hnot : l ∉ s.1 := fun hm => by simpa using hf l hm
    have hget : ∀ j, j < t.length → (s.2 ++ [(s.1.length : Int)])[j]? = s.2[j]? := fun j hj => List.getElem?_append_left (by rw [h.len]; exact hj)
    refine ⟨by simp [h.len], fun j hj => ?_, ?_, fun j hj v k' hk' hv => ?_, fun v hv => ?_⟩
    · by_cases hjt : j < t.length
      · obtain ⟨k', h1, h2⟩ := h.idx j hjt
        refine ⟨k', by simp only; rw [hget j hjt]; exact h1, ?_⟩
        have hk' : k' < s.1.length := by
          rw [List.getElem?_eq_getElem hjt] at h2
          exact lt_of_get h2
        rw [List.getElem?_append_left hjt]
        simp only
        rw [List.getElem?_append_left hk']; exact h2
      · have : j = t.length := by simp at hj; omega
        subst this
        exact ⟨s.1.length, by simp [← h.len], by simp⟩
    · rw [List.nodup_append]
      refine ⟨h.nodup, by simp, ?_⟩
      intro a ha b hb
      simp at hb; subst hb
      rintro rfl; exact hnot ha
    · simp only at hk'
      by_cases hjt : j < t.length
      · rw [hget j hjt] at hk'
        obtain ⟨j', h1, h2⟩ := h.new j hjt v k' hk' hv
        exact ⟨j', h1, by simp only; rw [hget j' (by omega)]; exact h2⟩
      · have : j = t.length := by simp at hj; omega
        subst this
        rw [← h.len] at hk'
        simp at hk'
        obtain ⟨j', h1, h2⟩ := h.all v (by omega)
        exact ⟨j', h1, by simp only; rw [hget j' h1]; exact h2⟩
    · by_cases hvl : v < s.1.length
      · obtain ⟨j', h1, h2⟩ := h.all v hvl
        exact ⟨j', by simp; omega, by simp only; rw [hget j' h1]; exact h2⟩
      · have : v = s.1.length := by simp at hv; omega
        subst this
        exact ⟨t.length, by simp, by simp [← h.len]⟩
theorem numInv_take (t : List (List Int)) : ∀ i, i ≤ t.length → NumInv (t.take i) (numAll (t.take i))
  | 0, _ => by
    simp only [List.take_zero, numAll, List.foldl_nil]
    exact ⟨rfl, by simp, List.nodup_nil, by simp, by simp⟩
  | i + 1, hi => by
    rw [numAll_take_succ (by omega), List.take_succ_eq_append_getElem (by omega)]
    exact numInv_step (numInv_take t i (by omega)) _
theorem numInv (t : List (List Int)) : NumInv t (numAll t) := by
  have := numInv_take t t.length (Nat.le_refl _)
  rwa [List.take_length] at this

theorem number_same {t : List (List Int)} {i j : Nat} (hi : i < t.length) (hj : j < t.length) : (number t)[i]? = (number t)[j]? ↔ t[i]? = t[j]? := by
  have h := numInv t
  obtain ⟨k, h1, h2⟩ := h.idx i hi
  obtain ⟨k', h3, h4⟩ := h.idx j hj
  show (numAll t).2[i]? = (numAll t).2[j]? ↔ _
  rw [h1, h3, ← h2, ← h4]
  have hk : k < (numAll t).1.length := by rw [List.getElem?_eq_getElem hi] at h2; exact lt_of_get h2
  have hk' : k' < (numAll t).1.length := by rw [List.getElem?_eq_getElem hj] at h4; exact lt_of_get h4
  constructor
  · intro e
    injection e with e
    have : k = k' := by omega
    rw [this]
  · intro e
    rw [List.getElem?_eq_getElem hk, List.getElem?_eq_getElem hk'] at e
    injection e with e
    have := (List.getElem_inj h.nodup).1 e
    rw [this]
/-! ### rounds -/
theorem cell_get {l : List Int} {i : Nat} (hi : i < l.length) : l[i]? = some (cell l i) := by simp [cell, hi]
theorem cell_eq_iff {l : List Int} {i j : Nat} (hi : i < l.length) (hj : j < l.length) : l[i]? = l[j]? ↔ cell l i = cell l j := by rw [cell_get hi, cell_get hj]; simp
theorem stepR_same {t : Table} {now : List Int} {i j : Nat} (hi : i < t.next.length) (hj : j < t.next.length) : cell (stepR t now) i = cell (stepR t now) j ↔ line t now i = line t now j := by
  rw [← cell_eq_iff (by rw [stepR_len]; exact hi) (by rw [stepR_len]; exact hj)]
  simp only [stepR]
  rw [number_same (by simpa using hi) (by simpa using hj)]
  simp [hi, hj]
/-- pairs that are alike -/
def alike (u : List Int) (n : Nat) : Nat := (((List.range n).map fun i => (List.range n).map fun j => (i, j)).flatten).countP fun p => decide (u[p.1]? = u[p.2]?)
theorem countP_lt {α : Type} {p q : α → Bool} : ∀ {l : List α}, (∀ x ∈ l, p x = true → q x = true) → (∃ x ∈ l, q x = true ∧ p x = false) → l.countP p < l.countP q
  | [], _, h => by simp at h
  | y :: l, h, ⟨x, hx, h1, h2⟩ => by
    have hle : l.countP p ≤ l.countP q := List.countP_mono_left fun z hz hpz => h z (List.mem_cons_of_mem _ hz) hpz
    rcases List.mem_cons.1 hx with rfl | hx
    · simp [List.countP_cons, h1, h2]; omega
    · have := countP_lt (l := l) (fun z hz => h z (List.mem_cons_of_mem _ hz)) ⟨x, hx, h1, h2⟩
      have hy := h y List.mem_cons_self
      simp only [List.countP_cons]
      cases hp : p y <;> cases hq : q y <;> simp_all <;> omega
/-! ### the table of blocks -/
end Go.Sc
