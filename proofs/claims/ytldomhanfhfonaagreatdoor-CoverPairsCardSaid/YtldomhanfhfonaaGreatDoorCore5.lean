/- NODES, AS A PROOF READS THEM; values of plain data; contracts, as a proof uses them. LOOPS AND JOINS, OF SO MANY VARIABLES; CALLS. ERRORS OF PACKAGE api; short names of the nodes' lemmas. CALLS THAT WRITE ONE BLOCK OF THE CALLER's, told by a pointer (readers of texts). CONTRACTS: slices of texts; strings.Trim at letters of one byte. (of the seat YtldomhanfhfonaaGreatDoor) -/
import Derived.Test.YtldomhanfhfonaaGreatDoorCore4
import Derived.IntWalk
import Derived.Laws.Strings
namespace Go.Sc
open Go
/-! ### nodes -/
theorem wGet_some {x : AV} {H : AH} {K : Kt} : wGet (some x) H K ↔ K x H := ⟨fun ⟨_, h, k⟩ => by injection h with h; exact h ▸ k, fun k => ⟨x, rfl, k⟩⟩
theorem wPut_some {H : AH} {K : Kt} : wPut (some H) K ↔ K undefA H := ⟨fun ⟨_, h, k⟩ => by injection h with h; exact h ▸ k, fun k => ⟨H, rfl, k⟩⟩
theorem wDo_some {x : AV} {H : AH} {K : Kt} : wDo (some (x, H)) K ↔ K x H := ⟨fun ⟨_, _, h, k⟩ => by injection h with h; injection h with h1 h2; exact h1 ▸ h2 ▸ k, fun k => ⟨x, H, rfl, k⟩⟩
theorem wBool_some {b : Bool} {H : AH} {neg : Bool} {K : Kt} : wBool (some b) H neg K ↔ K (.val (.bool (b != neg))) H := ⟨fun ⟨_, h, k⟩ => by injection h with h; exact h ▸ k, fun k => ⟨b, rfl, k⟩⟩
theorem wAgg_some {l : List AV} {H : AH} {K : Kt} : wAgg (some l) H K ↔ K (.agg l) H := ⟨fun ⟨_, h, k⟩ => by injection h with h; exact h ▸ k, fun k => ⟨l, rfl, k⟩⟩
theorem wIf_bool {b : Bool} {t f : Prop} : wIf (.val (.bool b)) t f ↔ (b = true → t) ∧ (b = false → f) := ⟨fun ⟨_, h, k⟩ => by injection h with h; injection h with h; subst h; exact k, fun k => ⟨b, rfl, k⟩⟩
theorem wIf.dec {p : Prop} [Decidable p] {t f : Prop} (h1 : p → t) (h2 : ¬ p → f) : wIf (.val (.bool (decide p))) t f :=
  ⟨_, rfl, fun h => h1 (of_decide_eq_true h), fun h => h2 (of_decide_eq_false h)⟩
theorem wIf.bool {b : Bool} {t f : Prop} (h1 : b = true → t) (h2 : b = false → f) : wIf (.val (.bool b)) t f := ⟨_, rfl, h1, h2⟩
theorem wGuard_bool {b want : Bool} {H : AH} {m : Kt → Prop} {K : Kt} : wGuard (.val (.bool b)) want H m K ↔ (b = want → m K) ∧ (b ≠ want → K undefA H) := by
  constructor
  · rintro ⟨⟨_, h, k⟩ | ⟨h, k⟩⟩
    · injection h with h; injection h with h; subst h; exact k
    · simp [undefA] at h
  · exact fun k => ⟨.inl ⟨b, rfl, k⟩⟩
theorem wGuard_undef {want : Bool} {H : AH} {m : Kt → Prop} {K : Kt} : wGuard undefA want H m K ↔ K undefA H := by
  constructor
  · rintro ⟨⟨_, h, k⟩ | ⟨h, k⟩⟩
    · simp [undefA] at h
    · exact k
  · exact fun k => ⟨.inr ⟨rfl, k⟩⟩
theorem wIf_true {t f : Prop} : wIf (.val (.bool true)) t f ↔ t := by simp [wIf_bool]
theorem wIf_false {t f : Prop} : wIf (.val (.bool false)) t f ↔ f := by simp [wIf_bool]
theorem wGuard_ff {H : AH} {m : Kt → Prop} {K : Kt} : wGuard (.val (.bool false)) false H m K ↔ m K := by simp [wGuard_bool]
theorem wGuard_tt {H : AH} {m : Kt → Prop} {K : Kt} : wGuard (.val (.bool true)) true H m K ↔ m K := by simp [wGuard_bool]
theorem wGuard_ft {H : AH} {m : Kt → Prop} {K : Kt} : wGuard (.val (.bool false)) true H m K ↔ K undefA H := by simp [wGuard_bool]
theorem wGuard_tf {H : AH} {m : Kt → Prop} {K : Kt} : wGuard (.val (.bool true)) false H m K ↔ K undefA H := by simp [wGuard_bool]
theorem pickA_t {a b : AV} : pickA (.val (.bool true)) a b = some a := rfl
theorem pickA_f {a b : AV} : pickA (.val (.bool false)) a b = some b := rfl

/-! ### plain data -/
abbrev nilS : AV := .val (.slice none 0 0)
abbrev nilE : AV := .val .nilIface
abbrev nilP : AV := .val (.pointer none)
abbrev Z (x : Int) : AV := .val (.int .i64 x)
abbrev Bo (b : Bool) : AV := .val (.bool b)
abbrev Str := List UInt8
abbrev S (s : Str) : AV := .val (.string ⟨s.toArray⟩)
abbrev By (b : UInt8) : AV := .val (.int .u8 b.toNat)
/-- a slice of one-cell elements -/
abbrev L (cs : List AV) : AV := .slN cs cs.length

section
variable {k : IntKind} {a b : Int}
theorem binA_lss : binA .lss (.val (.int k a)) (.val (.int k b)) = some (.val (.bool (decide (a < b)))) := by simp [binA, intBin]
theorem binA_leq : binA .leq (.val (.int k a)) (.val (.int k b)) = some (.val (.bool (decide (a ≤ b)))) := by simp [binA, intBin]
theorem binA_gtr : binA .gtr (.val (.int k a)) (.val (.int k b)) = some (.val (.bool (decide (b < a)))) := by simp [binA, intBin]
theorem binA_geq : binA .geq (.val (.int k a)) (.val (.int k b)) = some (.val (.bool (decide (b ≤ a)))) := by simp [binA, intBin]
theorem binA_eql : binA .eql (.val (.int k a)) (.val (.int k b)) = some (.val (.bool (decide (a = b)))) := by
  have : (a == b) = decide (a = b) := by by_cases h : a = b <;> simp [h]
  simp [binA, intBin, this]
theorem binA_neq : binA .neq (.val (.int k a)) (.val (.int k b)) = some (.val (.bool (!decide (a = b)))) := by
  have : (a != b) = !decide (a = b) := by by_cases h : a = b <;> simp [h]
  simp [binA, intBin, this]
theorem binA_add' : binA .add (.val (.int k a)) (.val (.int k b)) = some (.val (.int k (k.wrap (a + b)))) := by simp [binA, intBin]
theorem binA_sub' : binA .sub (.val (.int k a)) (.val (.int k b)) = some (.val (.int k (k.wrap (a - b)))) := by simp [binA, intBin]
theorem binA_mul' : binA .mul (.val (.int k a)) (.val (.int k b)) = some (.val (.int k (k.wrap (a * b)))) := by simp [binA, intBin]
end
theorem wrap_i64 {a : Int} (h : -9223372036854775808 ≤ a ∧ a ≤ 9223372036854775807) : IntKind.i64.wrap a = a := IntWalk.i64_in _ h
theorem binA_add {a b : Int} (h : -9223372036854775808 ≤ a + b ∧ a + b ≤ 9223372036854775807) : binA .add (.val (.int .i64 a)) (.val (.int .i64 b)) = some (.val (.int .i64 (a + b))) := by rw [binA_add', wrap_i64 h]
theorem binA_sub {a b : Int} (h : -9223372036854775808 ≤ a - b ∧ a - b ≤ 9223372036854775807) : binA .sub (.val (.int .i64 a)) (.val (.int .i64 b)) = some (.val (.int .i64 (a - b))) := by rw [binA_sub', wrap_i64 h]
theorem binA_mul {a b : Int} (h : -9223372036854775808 ≤ a * b ∧ a * b ≤ 9223372036854775807) : binA .mul (.val (.int .i64 a)) (.val (.int .i64 b)) = some (.val (.int .i64 (a * b))) := by rw [binA_mul', wrap_i64 h]
theorem binA_succ {i : Nat} (h : i < 4611686018427387904) : binA .add (.val (.int .i64 i)) (.val (.int .i64 1)) = some (.val (.int .i64 ((i + 1 : Nat) : Int))) := by rw [binA_add (by omega)]; simp
theorem toList_mk (s : Str) : (⟨s.toArray⟩ : ByteArray).toList = s := by
  rw [ByteArray.toList_eq]
theorem binA_seq {s t : Str} : binA .eql (S s) (S t) = some (Bo (decide (s = t))) := by
  have : (s == t) = decide (s = t) := by by_cases h : s = t <;> simp [h]
  simp only [binA, strBin, Option.map_some, toList_mk, this]
theorem binA_sne {s t : Str} : binA .neq (S s) (S t) = some (Bo (!decide (s = t))) := by
  have : (s == t) = decide (s = t) := by by_cases h : s = t <;> simp [h]
  simp only [binA, strBin, Option.map_some, toList_mk, this]
theorem unA_not {b : Bool} : unA .not (.val (.bool b)) = some (.val (.bool !b)) := rfl
theorem lenS_S {s : Str} : lenS (S s) = some (Z s.length) := by
  simp [lenS, ByteArray.size]
theorem idxS {s : Str} {i : Nat} (h : i < s.length) : idxStr (S s) (Z i) = some (By s[i]) := by
  simp only [idxStr]
  have h1 : ((i : Int) < ((⟨s.toArray⟩ : ByteArray).size : Int)) := by simp [ByteArray.size]; omega
  rw [if_pos ⟨by omega, h1⟩]
  simp [List.getD, h]
theorem extract_mk (s : Str) (i j : Nat) : (⟨s.toArray⟩ : ByteArray).extract i j = ⟨((s.take j).drop i).toArray⟩ := by
  apply ByteArray.ext
  rw [ByteArray.data_extract]
  simp only [List.extract_toArray, List.toArray_eq_iff, List.extract_eq_take_drop]
  rw [List.drop_take]
theorem sliceS_S {s : Str} {lo hi : Option AV} {l h : Int} (hl : bnd lo 0 = some l) (hh : bnd hi s.length = some h) (h0 : 0 ≤ l) (h1 : l ≤ h) (h2 : h ≤ s.length) : sliceS (S s) lo hi = some (S ((s.take h.toNat).drop l.toNat)) := by
  have hs : (⟨s.toArray⟩ : ByteArray).size = s.length := by simp [ByteArray.size]
  simp only [sliceS, hl, Option.bind_some, hs, hh]
  rw [if_pos ⟨h0, h1, h2⟩, extract_mk]
theorem bnd_none {d : Nat} : bnd none d = some d := rfl
theorem bnd_some {k : IntKind} {n : Int} {d : Nat} : bnd (some (.val (.int k n))) d = some n := rfl

/-- what lies in a block of cells -/
def blkCells (g : Nat) : Option Blk → Option (List AV)
  | some (.cells g' _ cs) => if g' = g then some cs else none
  | _ => none
def blkDo {α : Type} (g : Nat) (f : Nat → List AV → Option α) : Option Blk → Option α
  | some (.cells g' sz cs) => if g' = g then f sz cs else none
  | _ => none
theorem blkCells_self {g sz : Nat} {cs : List AV} : blkCells g (some (.cells g sz cs)) = some cs := by simp [blkCells]
theorem blkDo_self {α : Type} {g sz : Nat} {cs : List AV} {f : Nat → List AV → Option α} : blkDo g f (some (.cells g sz cs)) = f sz cs := by simp [blkDo]
theorem AH.cells_blk {H : AH} {b g : Nat} : H.cells b g = blkCells g H.bs[b]? := by
  simp only [AH.cells]; cases H.bs[b]? with
  | none => rfl
  | some x => cases x <;> rfl
theorem load1_L {b o g : Nat} {H : AH} : load1 (.ptrL b o g) H = (blkCells g H.bs[b]?).bind fun cs => cs[o]? := by simp [load1, AH.cells_blk]
theorem load1_F {l : List AV} {i : Nat} {H : AH} : load1 (.ptrF l i) H = l[i]? := rfl
theorem loadN_L {n b o g : Nat} {H : AH} : loadN n (.ptrL b o g) H = (blkCells g H.bs[b]?).bind fun cs => (subL cs o n).map .agg := by simp [loadN, AH.cells_blk]
theorem loadN_F {n : Nat} {l : List AV} {i : Nat} {H : AH} : loadN n (.ptrF l i) H = (subL l i n).map .agg := rfl
theorem store1_L {b o g : Nat} {x : AV} {H : AH} (hx : x.scalar = true) : store1 (.ptrL b o g) x H = blkDo g (fun sz cs => if o < cs.length then some ⟨H.bs.set b (.cells g sz (cs.set o x)), H.ctr⟩ else none) H.bs[b]? := by
  simp only [store1, hx, if_true, AH.cells, AH.set]
  cases hb : H.bs[b]? with
  | none => rfl
  | some y =>
    cases y with
    | cells g' sz cs =>
      simp only [blkDo]
      by_cases hg : g' = g <;> simp [hg]
    | _ => rfl
theorem storeN_L {n b o g : Nat} {xs : List AV} {H : AH} (hn : xs.length = n) (hx : xs.all AV.scalar = true) :
    storeN n (.ptrL b o g) (.agg xs) H = blkDo g (fun sz cs => (putL cs o xs).map fun cs' => ⟨H.bs.set b (.cells g sz cs'), H.ctr⟩) H.bs[b]? := by
  simp only [storeN, hn, hx, and_self, if_true, AH.cells, AH.set]
  cases hb : H.bs[b]? with
  | none => rfl
  | some y =>
    cases y with
    | cells g' sz cs =>
      simp only [blkDo]
      by_cases hg : g' = g <;> simp [hg]
    | _ => rfl
theorem faddr_L {off b o g : Nat} : faddr off (.ptrL b o g) = some (.ptrL b (o + off) g) := rfl
theorem faddr_F {off : Nat} {cs : List AV} {o : Nat} : faddr off (.ptrF cs o) = some (.ptrF cs (o + off)) := rfl
theorem extractA_tup {vs : List AV} {i : Nat} : extractA (.tup vs) i = vs[i]? := rfl
theorem lenA_N {cs : List AV} {n : Nat} : lenA (.slN cs n) = some (Z n) := rfl
theorem lenA_F {cs : List AV} {o n : Nat} : lenA (.slF cs o n) = some (Z n) := rfl
theorem lenA_L {b o n g : Nat} : lenA (.slL b o n g) = some (Z n) := rfl
theorem lenA_T {b n g : Nat} {cs : List AV} : lenA (.slT b cs n g) = some (Z n) := rfl
theorem lenA_nil : lenA nilS = some (Z 0) := rfl
theorem iaddr_N {sz : Nat} {cs : List AV} {n : Nat} {k : IntKind} {i : Int} (h : 0 ≤ i ∧ i < n) : iaddr sz (.slN cs n) (.val (.int k i)) = some (.ptrF cs (i.toNat * sz)) := by simp [iaddr, h]
theorem iaddr_L {sz b o n g : Nat} {k : IntKind} {i : Int} (h : 0 ≤ i ∧ i < n) : iaddr sz (.slL b o n g) (.val (.int k i)) = some (.ptrL b (o + i.toNat * sz) g) := by simp [iaddr, h]
theorem iaddr_T {sz : Nat} {b : Nat} {cs : List AV} {n g : Nat} {k : IntKind} {i : Int} (h : 0 ≤ i ∧ i < n) : iaddr sz (.slT b cs n g) (.val (.int k i)) = some (.ptrF cs (i.toNat * sz)) := by simp [iaddr, h]
theorem iaddr_Nn {cs : List AV} {n : Nat} {k : IntKind} {i : Nat} (h : i < n) : iaddr 1 (.slN cs n) (.val (.int k i)) = some (.ptrF cs i) := by rw [iaddr_N (by omega)]; simp
theorem iaddr_Ln {b n g : Nat} {k : IntKind} {i : Nat} (h : i < n) : iaddr 1 (.slL b 0 n g) (.val (.int k i)) = some (.ptrL b i g) := by rw [iaddr_L (by omega)]; simp
theorem sub_two (a b : AV) : subL [a, b] 0 2 = some [a, b] := rfl
theorem sub_three (a b c : AV) : subL [a, b, c] 0 3 = some [a, b, c] := rfl
theorem sub_four (a b c d : AV) : subL [a, b, c, d] 0 4 = some [a, b, c, d] := rfl
theorem cells?_scalar {x : AV} (h : x.scalar = true) : x.cells? = some [x] := by
  cases x <;> simp_all [AV.cells?, AV.scalar]
theorem fillA_nil {z : List AV} : fillA z [] = some z := rfl
theorem fillA_one {z : List AV} {o : Nat} {x : AV} {r : List (Nat × Nat × AV)} (hx : x.scalar = true) (ho : o < z.length) : fillA z ((o, 1, x) :: r) = fillA (z.set o x) r := by
  simp only [fillA, cells?_scalar hx, Option.bind_some, List.length_singleton, if_true, putL]
  rw [if_pos (by omega), Option.bind_some, List.set_eq_take_append_cons_drop, if_pos ho]
  simp
theorem eqA_bool {a b : Bool} : eqA .bool (Bo a) (Bo b) = some (a == b) := rfl
theorem eqA_ifc {k : Nat} {a : AV} : eqA .iface (.ifc k a) nilE = some false := rfl
theorem eqA_nilE : eqA .iface nilE nilE = some true := rfl
theorem eqA_pF {cs : List AV} {o : Nat} : eqA .ptr (.ptrF cs o) nilP = some false := rfl
theorem eqA_pL {b o g : Nat} : eqA .ptr (.ptrL b o g) nilP = some false := rfl
theorem eqA_pN : eqA .ptr nilP nilP = some true := rfl
theorem eqA_slF {cs : List AV} {o n : Nat} : eqA .slice (.slF cs o n) nilS = some false := rfl
theorem eqA_slL {b o n g : Nat} : eqA .slice (.slL b o n g) nilS = some false := rfl
theorem eqA_slT {b n g : Nat} {cs : List AV} : eqA .slice (.slT b cs n g) nilS = some false := rfl
theorem eqA_slZ : eqA .slice nilS nilS = some true := rfl
theorem nilA_F {cs : List AV} {o : Nat} : nilA (.ptrF cs o) = some (.ptrF cs o) := rfl
theorem nilA_L {b o g : Nat} : nilA (.ptrL b o g) = some (.ptrL b o g) := rfl
theorem nilA_fn {k : Nat} {fs cs : List AV} : nilA (.fn k fs cs) = some (.fn k fs cs) := rfl
/-- a slice of plain data -/
abbrev Lm {α : Type} (f : α → AV) (xs : List α) : AV := .slN (xs.map f) xs.length
theorem at_mid {α β : Type} {f : α → β} {pre rest : List α} {x : α} : ((pre ++ x :: rest).map f)[pre.length]? = some (f x) := by simp
theorem lt_mid {α : Type} {pre rest : List α} {x : α} : pre.length < (pre ++ x :: rest).length := by simp
theorem len_snoc {α : Type} {pre : List α} {x : α} : (pre ++ [x]).length = pre.length + 1 := by simp
theorem iaddrArr_F {sz n : Nat} {cs : List AV} {o : Nat} {k : IntKind} {i : Int} (h : 0 ≤ i ∧ i < n) : iaddrArr sz n (.ptrF cs o) (.val (.int k i)) = some (.ptrF cs (o + i.toNat * sz)) := by simp [iaddrArr, h]
theorem iaddrArr_L {sz n b o g : Nat} {k : IntKind} {i : Int} (h : 0 ≤ i ∧ i < n) : iaddrArr sz n (.ptrL b o g) (.val (.int k i)) = some (.ptrL b (o + i.toNat * sz) g) := by simp [iaddrArr, h]
theorem convA_int {k k' : IntKind} {n : Int} : convA (.int k) (.val (.int k' n)) = some (.val (.int k (k.wrap n))) := rfl
theorem convA_str {s : ByteArray} : convA .string (.val (.string s)) = some (.val (.string s)) := rfl
theorem closed_map {α : Type} {f : α → AV} (h : ∀ x, (f x).closed) (xs : List α) : AV.closedL (xs.map f) := AV.closedL_iff.2 fun y hy => by
  obtain ⟨x, _, rfl⟩ := List.mem_map.1 hy
  exact h x
theorem closed_S (l : List Str) : AV.closedL (l.map fun s => S s) := closed_map (f := fun s => S s) (fun _ => by trivial) l
/-! ### told with less -/
theorem Sub.trans {x y z : AV} (h : Sub x y) (k : Sub y z) : Sub x z := fun E c v r => k E c v (h E c v r)
theorem Sub.junk (x : AV) : Sub x .junk := fun _ _ _ _ => by simp [VRel]
theorem Sub.F {cs cs' : List AV} {len : Nat} (h : SubL cs cs') : Sub (.slF cs 0 len) (.slN cs' len) := fun E c v r => by
  simp only [VRel] at r ⊢
  obtain ⟨p, cap, rfl, hl, r⟩ := r
  refine .inr ⟨p, cap, rfl, hl, r.imp id ?_⟩
  rintro ⟨b, o, rfl, hc⟩
  exact ⟨b, o, rfl, h.crel hc⟩
theorem Sub.N {cs cs' : List AV} {len : Nat} (h : SubL cs cs') : Sub (.slN cs len) (.slN cs' len) := fun E c v r => by
  simp only [VRel] at r ⊢
  refine r.imp id ?_
  rintro ⟨p, cap, rfl, hl, r⟩
  refine ⟨p, cap, rfl, hl, r.imp id ?_⟩
  rintro ⟨b, o, rfl, hc⟩
  exact ⟨b, o, rfl, h.crel hc⟩
theorem Sub.T {b g : Nat} {cs cs' : List AV} {len : Nat} (h : SubL cs cs') : Sub (.slT b cs len g) (.slN cs' len) := fun E c v r => by
  simp only [VRel] at r ⊢
  obtain ⟨_, p, cap, rfl, hl, r⟩ := r
  refine .inr ⟨p, cap, rfl, hl, r.imp id ?_⟩
  rintro ⟨k, o, rfl, hc, _⟩
  exact ⟨k, o, rfl, h.crel hc⟩
theorem Sub.T' {b g : Nat} {cs : List AV} {len : Nat} : Sub (.slT b cs len g) (.slN cs len) := .T (.refl _)
theorem Sub.F' {cs : List AV} {len : Nat} : Sub (.slF cs 0 len) (.slN cs len) := .F (.refl _)
theorem Sub.nil {cs : List AV} : Sub nilS (.slN cs 0) := fun E c v r => by
  simp only [VRel] at r ⊢
  exact .inl ⟨r, trivial⟩
theorem Sub.ptr {cs cs' : List AV} {o : Nat} (h : SubL cs cs') : Sub (.ptrF cs o) (.ptrF cs' o) := fun E c v r => by
  simp only [VRel] at r ⊢
  obtain ⟨b, o, rfl, hc⟩ := r
  exact ⟨b, o, rfl, h.crel hc⟩
theorem Sub.agg {cs cs' : List AV} (h : SubL cs cs') : Sub (.agg cs) (.agg cs') := fun E c v r => by
  simp only [VRel] at r ⊢
  obtain ⟨vs, rfl, hl⟩ := r
  exact ⟨vs, rfl, h.rel hl⟩
theorem Sub.tup {cs cs' : List AV} (h : SubL cs cs') : Sub (.tup cs) (.tup cs') := fun E c v r => by
  simp only [VRel] at r ⊢
  obtain ⟨vs, rfl, hl⟩ := r
  exact ⟨vs, rfl, h.rel hl⟩
theorem Sub.ifc {k : Nat} {x y : AV} (h : Sub x y) : Sub (.ifc k x) (.ifc k y) := fun E c v r => by
  simp only [VRel] at r ⊢
  obtain ⟨u, rfl, hk, hl⟩ := r
  exact ⟨u, rfl, hk, h E c u hl⟩
theorem Sub.fn {k : Nat} {fs fs' cs cs' : List AV} (h : SubL fs fs') (h' : SubL cs cs') : Sub (.fn k fs cs) (.fn k fs' cs') := fun E c v r => by
  simp only [VRel] at r ⊢
  obtain ⟨gs, ds, rfl, h1, h2⟩ := r
  exact ⟨gs, ds, rfl, h.rel h1, h'.rel h2⟩
theorem SubL.one {x y : AV} (h : Sub x y) : SubL [x] [y] := .cons h .nil
theorem SubL.two {x y x' y' : AV} (h : Sub x y) (h' : Sub x' y') : SubL [x, x'] [y, y'] := .cons h (.one h')
theorem SubL.append : ∀ {xs xs' ys ys' : List AV}, SubL xs xs' → SubL ys ys' → SubL (xs ++ ys) (xs' ++ ys')
  | _, _, _, _, .nil, h => h
  | _, _, _, _, .cons h1 h2, h => .cons h1 (SubL.append h2 h)
theorem FkL.sub {H : AH} {S : Nat → Bool} : ∀ {xs ys : List AV}, SubL xs ys → FkL H S xs ys
  | _, _, .nil => .nil
  | _, _, .cons h1 h2 => .cons (.sub h1) (FkL.sub h2)

/-! ### new memory -/
section
variable {sz len bytes : Nat} {l : List AV} {cs : Option (List AV)} {H : AH} {K : Kt}
/-- frozen at once -/
theorem wNew.F {l' : List AV} (hc : cs = some l) (hs : SubL l l') (h : K (.ptrF l' 0) H) : wNew sz cs H K := ⟨l, _, _, hc, .frz (.ptr hs), h⟩
theorem wNew.F' (hc : cs = some l) (h : K (.ptrF l 0) H) : wNew sz cs H K := .F hc (.refl _) h
theorem wNew.L (hc : cs = some l) (h : K (.ptrL H.bs.length 0 H.ctr) ⟨H.bs ++ [.cells H.ctr sz l], H.ctr + 1⟩) : wNew sz cs H K :=
  ⟨l, _, _, hc, .live H.bs.length (.inl rfl), by simpa [AH.put] using h⟩
theorem wNew.S (b : Nat) (hc : cs = some l) (hb : H.bs[b]? = some .dead) (h : K (.ptrL b 0 H.ctr) ⟨H.bs.set b (.cells H.ctr sz l), H.ctr + 1⟩) : wNew sz cs H K :=
  ⟨l, _, _, hc, .live b (.inr hb), by
    have := lt_of_get hb
    have hne : b ≠ H.bs.length := by omega
    simpa [AH.put, hne] using h⟩
theorem wNewS.F {l' : List AV} (hc : cs = some l) (hs : SubL l l') (hl : l.length = len * sz) (h : K (.slN l' len) H) : wNewS sz len cs H K := ⟨l, _, _, hc, hl, .frz (.F hs), h⟩
theorem wNewS.F' (hc : cs = some l) (hl : l.length = len * sz) (h : K (.slN l len) H) : wNewS sz len cs H K := .F hc (.refl _) hl h
theorem wNewS.L (hc : cs = some l) (hl : l.length = len * sz) (h : K (.slL H.bs.length 0 len H.ctr) ⟨H.bs ++ [.cells H.ctr sz l], H.ctr + 1⟩) : wNewS sz len cs H K :=
  ⟨l, _, _, hc, hl, .live H.bs.length (.inl rfl), by simpa [AH.put] using h⟩
theorem wNewS.S (b : Nat) (hc : cs = some l) (hl : l.length = len * sz) (hb : H.bs[b]? = some .dead) (h : K (.slL b 0 len H.ctr) ⟨H.bs.set b (.cells H.ctr sz l), H.ctr + 1⟩) : wNewS sz len cs H K :=
  ⟨l, _, _, hc, hl, .live b (.inr hb), by
    have := lt_of_get hb
    have hne : b ≠ H.bs.length := by omega
    simpa [AH.put, hne] using h⟩
theorem wNewS.T {l' : List AV} (hc : cs = some l) (hs : SubL l l') (hl : l.length = len * sz) (h : K (.slT H.bs.length l' len H.ctr) ⟨H.bs ++ [.tail H.ctr sz], H.ctr + 1⟩) : wNewS sz len cs H K :=
  ⟨l, _, _, hc, hl, .tail H.bs.length hs (.inl rfl), by simpa [AH.put] using h⟩
section
variable {zero : List AV} {x y : AV} {n : Nat}
theorem wMake.F (hm : makeA bytes x y = some n) (h : K (.slN (List.replicate n zero).flatten n) H) : wMake sz bytes zero x y H K := ⟨n, _, _, hm, .frz .F', h⟩
theorem wMake.L (hm : makeA bytes x y = some n) (h : K (.slL H.bs.length 0 n H.ctr) ⟨H.bs ++ [.cells H.ctr sz (List.replicate n zero).flatten], H.ctr + 1⟩) : wMake sz bytes zero x y H K :=
  ⟨n, _, _, hm, .live H.bs.length (.inl rfl), by simpa [AH.put] using h⟩
theorem wMake.S (b : Nat) (hm : makeA bytes x y = some n) (hb : H.bs[b]? = some .dead) (h : K (.slL b 0 n H.ctr) ⟨H.bs.set b (.cells H.ctr sz (List.replicate n zero).flatten), H.ctr + 1⟩) : wMake sz bytes zero x y H K :=
  ⟨n, _, _, hm, .live b (.inr hb), by
    have := lt_of_get hb
    have hne : b ≠ H.bs.length := by omega
    simpa [AH.put, hne] using h⟩
end
end
/-! ### slices that grow -/
/-- 'x' holds 'n' elements of 'sz' cells, 'cs', and may grow at place 'b', that holds 'z' -/
def Gr (sz : Nat) (z : Blk) (b : Nat) (x : AV) (cs : List AV) (n : Nat) : Prop := (x = nilS ∧ z = .dead ∧ cs = [] ∧ n = 0) ∨ ∃ g, x = .slT b cs n g ∧ z = .tail g sz
theorem Gr.nil {sz b : Nat} : Gr sz .dead b nilS [] 0 := .inl ⟨rfl, rfl, rfl, rfl⟩
theorem Gr.mk {sz b n g : Nat} {cs : List AV} : Gr sz (.tail g sz) b (.slT b cs n g) cs n := .inr ⟨g, rfl, rfl⟩
theorem Gr.len {sz : Nat} {z : Blk} {b : Nat} {x : AV} {cs : List AV} {n : Nat} (h : Gr sz z b x cs n) : lenA x = some (Z n) := by
  rcases h with ⟨rfl, _, _, rfl⟩ | ⟨g, rfl, _⟩ <;> rfl
theorem Gr.sub {sz : Nat} {z : Blk} {b : Nat} {x : AV} {cs : List AV} {n : Nat} (h : Gr sz z b x cs n) : Sub x (.slN cs n) := by
  rcases h with ⟨rfl, _, rfl, rfl⟩ | ⟨g, rfl, _⟩
  · exact .nil
  · exact .T'
theorem Gr.scalar {sz : Nat} {z : Blk} {b : Nat} {x : AV} {cs : List AV} {n : Nat} (h : Gr sz z b x cs n) : x.scalar = true := by
  rcases h with ⟨rfl, _⟩ | ⟨g, rfl, _⟩ <;> rfl
theorem Gr.at {sz : Nat} {z : Blk} {b : Nat} {x : AV} {cs : List AV} {n : Nat} (h : Gr sz z b x cs n) {k : IntKind} {i : Int} (hi : 0 ≤ i ∧ i < n) : iaddr sz x (.val (.int k i)) = some (.ptrF cs (i.toNat * sz)) := by
  rcases h with ⟨rfl, _, rfl, rfl⟩ | ⟨g, rfl, _⟩
  · omega
  · exact iaddr_T hi
theorem Gr.cells {z : Blk} {b : Nat} {x : AV} {cs : List AV} {n : Nat} {sz : Nat} (h : Gr sz z b x cs n) (hn : cs.length = n * sz) (H : AH) : cellsOfA sz x H = some (n, cs) := by
  rcases h with ⟨rfl, _, rfl, rfl⟩ | ⟨g, rfl, _⟩
  · rfl
  · simp [cellsOfA, subL, ← hn]
theorem cellsOfA_len {sz m : Nat} {y : AV} {H : AH} {new : List AV} (hc : cellsOfA sz y H = some (m, new)) : new.length = m * sz := by
  have sub : ∀ {cs l : List AV} {o n : Nat}, subL cs o n = some l → l.length = n := fun h => by
    obtain ⟨h1, rfl⟩ := subL_some h
    simp; omega
  unfold cellsOfA at hc
  split at hc
  · injection hc with hc; injection hc with h1 hc; subst h1 hc; simp
  · simp only [Option.map_eq_some_iff, Prod.mk.injEq] at hc
    obtain ⟨l, h1, rfl, rfl⟩ := hc
    exact sub h1
  · simp only [Option.bind_eq_some_iff, Option.map_eq_some_iff, Prod.mk.injEq] at hc
    obtain ⟨_, _, l, h1, rfl, rfl⟩ := hc
    exact sub h1
  · simp only [Option.map_eq_some_iff, Prod.mk.injEq] at hc
    obtain ⟨l, h1, rfl, rfl⟩ := hc
    exact sub h1
  · simp only [Option.map_eq_some_iff, Prod.mk.injEq] at hc
    obtain ⟨l, h1, rfl, rfl⟩ := hc
    exact sub h1
  · split at hc
    · rename_i h1
      subst h1
      injection hc with hc; injection hc with h1 hc
      subst h1 hc
      rw [List.length_map, Nat.mul_one]
      exact Array.length_toList
    · cases hc
  · cases hc
theorem wApp.gr {sz bytes : Nat} {z : Blk} {b : Nat} {x y : AV} {cs new new' : List AV} {n m : Nat} {H : AH} {K : Kt} (hg : Gr sz z b x cs n) (hz : H.bs[b]? = some z) (hn : cs.length = n * sz) (hc : cellsOfA sz y H = some (m, new)) (hs : SubL new new')
    (hsc : new.all AV.scalar = true) (hb : (n + m) * bytes ≤ mostBytes ∧ n + m ≤ mostBytes) (hk : ∀ z' x' c', Gr sz z' b x' (cs ++ new') (n + m) → K x' ⟨H.bs.set b z', c'⟩) : wApp sz bytes x y H K := by
  have hbl := lt_of_get hz
  rcases hg with ⟨rfl, rfl, rfl, rfl⟩ | ⟨g, rfl, rfl⟩
  · by_cases hm : m = 0
    · subst hm
      have hnew : new = [] := List.eq_nil_of_length_eq_zero (by simpa using cellsOfA_len hc)
      subst hnew
      have : new' = [] := by
        have := hs.length
        exact List.eq_nil_of_length_eq_zero (by simpa using this.symm)
      subst this
      have := hk .dead nilS H.ctr (.inl ⟨rfl, rfl, rfl, rfl⟩)
      have hset : H.bs.set b .dead = H.bs := by
        have : H.bs[b] = .dead := by rw [List.getElem?_eq_getElem hbl] at hz; injection hz
        rw [← this]; simp
      rw [hset] at this
      exact ⟨nilS, H, .old (by simp [appendA, hc]), this⟩
    · refine ⟨_, _, .first b rfl (.inr hz) hc hm hs (by simpa using hb.1) (by simpa using hb.2), ?_⟩
      have hne : b ≠ H.bs.length := by omega
      simp only [AH.put, hne, if_false]
      have := hk (.tail H.ctr sz) (.slT b new' m H.ctr) (H.ctr + 1) (.inr ⟨_, by simp, rfl⟩)
      exact this
  · exact ⟨_, _, .grow rfl hz hn hc hs hsc hb.1 hb.2, hk _ _ _ (.inr ⟨_, rfl, rfl⟩)⟩
/-- one element of one cell more -/
theorem wApp.one {bytes : Nat} {z : Blk} {b : Nat} {x y y' : AV} {cs : List AV} {n : Nat} {H : AH} {K : Kt} (hg : Gr 1 z b x cs n) (hz : H.bs[b]? = some z) (hn : cs.length = n) (hs : Sub y y') (hsc : y.scalar = true) (hb : (n + 1) * bytes ≤ mostBytes ∧ n + 1 ≤ mostBytes)
    (hk : ∀ z' x' c', Gr 1 z' b x' (cs ++ [y']) (n + 1) → K x' ⟨H.bs.set b z', c'⟩) : wApp 1 bytes x (.slN [y] 1) H K :=
  wApp.gr hg hz (by simpa using hn) (new := [y]) (m := 1) rfl (.one hs) (by simpa using hsc) hb hk

/-! ### contracts -/
section
variable {E : Env} {P : Program}
/-- a call of frozen arguments: its result -/
structure FX (E : Env) (P : Program) (k : Nat) (args : List AV) (r : AV) : Prop where
  ok : ∀ n, ACalls E P k args ⟨[], n⟩ fun x _ => x = r
  ca : AV.closedL args
  cr : r.closed
theorem FX.of {k : Nat} {args : List AV} {r : AV} (ca : AV.closedL args) (cr : r.closed) (h : ∀ n (R : Kt), (∀ x H, Fk H S0 x r → R x H) → ACalls E P k args ⟨[], n⟩ R) : FX E P k args r where
  ok := fun n => (h n (fun x H => Fk H S0 x r) fun _ _ hx => hx).mono fun _ H hx => ⟨r, ⟨[], H.ctr⟩, ghost_all (.cons hx .nil), rfl⟩
  ca := ca
  cr := cr
theorem FX.of' {k : Nat} {args : List AV} {r : AV} (ca : AV.closedL args) (cr : r.closed) (h : ∀ n (R : Kt), (∀ x H, x = r → R x H) → ACalls E P k args ⟨[], n⟩ R) : FX E P k args r :=
  .of ca cr fun n R hR => h n R fun x H e => hR x H (e ▸ .same _)
/-- told by a relation -/
structure FR (E : Env) (P : Program) (k : Nat) (args : List AV) (R0 : AV → Prop) : Prop where
  ok : ∀ n, ACalls E P k args ⟨[], n⟩ fun x _ => R0 x
  ca : AV.closedL args
  cr : ∀ r, R0 r → r.closed
theorem FR.of {k : Nat} {args : List AV} {R0 : AV → Prop} (ca : AV.closedL args) (cr : ∀ r, R0 r → r.closed) (h : ∀ n (R : Kt), (∀ x r H, Fk H S0 x r → R0 r → R x H) → ACalls E P k args ⟨[], n⟩ R) : FR E P k args R0 where
  ok := fun n => (h n (fun x H => ∃ r, Fk H S0 x r ∧ R0 r) fun _ r _ hx hr => ⟨r, hx, hr⟩).mono fun _ H ⟨r, hx, hr⟩ => ⟨r, ⟨[], H.ctr⟩, ghost_all (.cons hx .nil), hr⟩
  ca := ca
  cr := cr
theorem FX.fr {k : Nat} {args : List AV} {r : AV} (h : FX E P k args r) : FR E P k args (fun x => x = r) := ⟨h.ok, h.ca, fun _ e => e ▸ h.cr⟩

theorem FR.lift {k : Nat} {args : List AV} {R0 : AV → Prop} (h : FR E P k args R0) (H : AH) : ACalls E P k args H fun r H' => R0 r ∧ ∃ n, H' = ⟨H.bs, n⟩ := by
  have := ACalls.frame (mv := []) (B := []) (args0 := args) (args := args) (H := H) (R0 := fun r _ => R0 r) (fun n => (h.ok n).mono fun r H' hr => ⟨r, ⟨[], H'.ctr⟩, by
      refine ghost_all (.cons (.same _) .nil), hr, rfl⟩) (by simp) rfl (by simp) (by rw [AV.renL_closed _ h.ca])
  refine this.mono fun r H' ⟨r0, B', n, h1, h2, h3, h4⟩ => ⟨r, H', .refl _ _, ?_, n, ?_⟩
  · rw [h3, AV.ren_closed _ (h.cr _ h1)]; exact h1
  · have hB : B' = [] := List.eq_nil_of_length_eq_zero h2
    rw [h4, hB]; simp [setL]
theorem wCall.fr {k : Nat} {args args' : List AV} {R0 : AV → Prop} {H : AH} {K : Kt} (h : FR E P k args' R0) (hs : SubL args args') (hK : ∀ r n, R0 r → K r ⟨H.bs, n⟩) : wCall E P k args H K :=
  ⟨_, ACalls.args (ghost_sub hs) (h.lift H), fun r _ ⟨h1, n, h2⟩ => h2 ▸ hK r n h1⟩
theorem wCall.fx {k : Nat} {args : List AV} {r : AV} {H : AH} {K : Kt} (h : FX E P k args r) (hK : ∀ n, K r ⟨H.bs, n⟩) : wCall E P k args H K :=
  .fr h.fr (.refl _) fun _ n e => e ▸ hK n
end
end Go.Sc
namespace Go.Sc
open Go
def gh0 (I : AH → Prop) : AH → Prop := fun H => KN.gh 0 I H
def back0 (I : Nat → AH → Prop) (m : Nat) : AH → Prop := fun H => ∃ m', m' < m ∧ gh0 (I m') H
theorem gh0.of {I : AH → Prop} {H H' : AH} (hg : Ghost [] H [] H') (h : I H') : gh0 I H := ⟨[], H', rfl, hg, h⟩
theorem gh0.mk {I : AH → Prop} {H : AH} (h : I H) : gh0 I H := gh0.of (.refl _ _) h
theorem back0.of {I : Nat → AH → Prop} {m : Nat} (m' : Nat) (hm : m' < m) {H H' : AH} (hg : Ghost [] H [] H') (h : I m' H') : back0 I m H := ⟨m', hm, gh0.of hg h⟩
theorem back0.mk {I : Nat → AH → Prop} {m : Nat} (m' : Nat) (hm : m' < m) {H : AH} (h : I m' H) : back0 I m H := back0.of m' hm (.refl _ _) h
theorem wLoop.zero {init : KN 0 → Prop} {body : KN 0 → KN 0} (I : Nat → AH → Prop) (m0 : Nat) (hi : init (gh0 (I m0))) (hb : ∀ m H, I m H → body (back0 I m) H) : wLoop 0 init body := ⟨I, ⟨m0, hi⟩, hb⟩
theorem wJoin.zero {m : KN 0 → Prop} {k : KN 0} (J : AH → Prop) (hm : m (gh0 J)) (hk : ∀ H, J H → k H) : wJoin 0 m k := ⟨J, hm, hk⟩

def gh1 (I : AV → AH → Prop) : AV → AH → Prop := fun x0 H => KN.gh 1 I x0 H
def back1 (I : Nat → AV → AH → Prop) (m : Nat) : AV → AH → Prop := fun x0 H => ∃ m', m' < m ∧ gh1 (I m') x0 H
theorem gh1.of {I : AV → AH → Prop} {x0 x0' : AV} {H H' : AH} (hg : Ghost [x0] H [x0'] H') (h : I x0' H') : gh1 I x0 H := ⟨[x0'], H', rfl, hg, h⟩
theorem gh1.mk {I : AV → AH → Prop} {x0 : AV} {H : AH} (h : I x0 H) : gh1 I x0 H := gh1.of (.refl _ _) h
theorem back1.of {I : Nat → AV → AH → Prop} {m : Nat} (m' : Nat) (hm : m' < m) {x0 x0' : AV} {H H' : AH} (hg : Ghost [x0] H [x0'] H') (h : I m' x0' H') : back1 I m x0 H := ⟨m', hm, gh1.of hg h⟩
theorem back1.mk {I : Nat → AV → AH → Prop} {m : Nat} (m' : Nat) (hm : m' < m) {x0 : AV} {H : AH} (h : I m' x0 H) : back1 I m x0 H := back1.of m' hm (.refl _ _) h
theorem wLoop.one {init : KN 1 → Prop} {body : KN 1 → KN 1} (I : Nat → AV → AH → Prop) (m0 : Nat) (hi : init (gh1 (I m0))) (hb : ∀ m x0 H, I m x0 H → body (back1 I m) x0 H) : wLoop 1 init body := ⟨I, ⟨m0, hi⟩, hb⟩
theorem wJoin.one {m : KN 1 → Prop} {k : KN 1} (J : AV → AH → Prop) (hm : m (gh1 J)) (hk : ∀ x0 H, J x0 H → k x0 H) : wJoin 1 m k := ⟨J, hm, hk⟩

def gh2 (I : AV → AV → AH → Prop) : AV → AV → AH → Prop := fun x0 x1 H => KN.gh 2 I x0 x1 H
def back2 (I : Nat → AV → AV → AH → Prop) (m : Nat) : AV → AV → AH → Prop := fun x0 x1 H => ∃ m', m' < m ∧ gh2 (I m') x0 x1 H
theorem gh2.of {I : AV → AV → AH → Prop} {x0 x1 x0' x1' : AV} {H H' : AH} (hg : Ghost [x0, x1] H [x0', x1'] H') (h : I x0' x1' H') : gh2 I x0 x1 H := ⟨[x0', x1'], H', rfl, hg, h⟩
theorem gh2.mk {I : AV → AV → AH → Prop} {x0 x1 : AV} {H : AH} (h : I x0 x1 H) : gh2 I x0 x1 H := gh2.of (.refl _ _) h
theorem back2.of {I : Nat → AV → AV → AH → Prop} {m : Nat} (m' : Nat) (hm : m' < m) {x0 x1 x0' x1' : AV} {H H' : AH} (hg : Ghost [x0, x1] H [x0', x1'] H') (h : I m' x0' x1' H') : back2 I m x0 x1 H := ⟨m', hm, gh2.of hg h⟩
theorem back2.mk {I : Nat → AV → AV → AH → Prop} {m : Nat} (m' : Nat) (hm : m' < m) {x0 x1 : AV} {H : AH} (h : I m' x0 x1 H) : back2 I m x0 x1 H := back2.of m' hm (.refl _ _) h
theorem wLoop.two {init : KN 2 → Prop} {body : KN 2 → KN 2} (I : Nat → AV → AV → AH → Prop) (m0 : Nat) (hi : init (gh2 (I m0))) (hb : ∀ m x0 x1 H, I m x0 x1 H → body (back2 I m) x0 x1 H) : wLoop 2 init body := ⟨I, ⟨m0, hi⟩, hb⟩
theorem wJoin.two {m : KN 2 → Prop} {k : KN 2} (J : AV → AV → AH → Prop) (hm : m (gh2 J)) (hk : ∀ x0 x1 H, J x0 x1 H → k x0 x1 H) : wJoin 2 m k := ⟨J, hm, hk⟩

def gh3 (I : AV → AV → AV → AH → Prop) : AV → AV → AV → AH → Prop := fun x0 x1 x2 H => KN.gh 3 I x0 x1 x2 H
def back3 (I : Nat → AV → AV → AV → AH → Prop) (m : Nat) : AV → AV → AV → AH → Prop := fun x0 x1 x2 H => ∃ m', m' < m ∧ gh3 (I m') x0 x1 x2 H
theorem gh3.of {I : AV → AV → AV → AH → Prop} {x0 x1 x2 x0' x1' x2' : AV} {H H' : AH} (hg : Ghost [x0, x1, x2] H [x0', x1', x2'] H') (h : I x0' x1' x2' H') : gh3 I x0 x1 x2 H := ⟨[x0', x1', x2'], H', rfl, hg, h⟩
theorem gh3.mk {I : AV → AV → AV → AH → Prop} {x0 x1 x2 : AV} {H : AH} (h : I x0 x1 x2 H) : gh3 I x0 x1 x2 H := gh3.of (.refl _ _) h
theorem back3.of {I : Nat → AV → AV → AV → AH → Prop} {m : Nat} (m' : Nat) (hm : m' < m) {x0 x1 x2 x0' x1' x2' : AV} {H H' : AH} (hg : Ghost [x0, x1, x2] H [x0', x1', x2'] H') (h : I m' x0' x1' x2' H') : back3 I m x0 x1 x2 H := ⟨m', hm, gh3.of hg h⟩
theorem back3.mk {I : Nat → AV → AV → AV → AH → Prop} {m : Nat} (m' : Nat) (hm : m' < m) {x0 x1 x2 : AV} {H : AH} (h : I m' x0 x1 x2 H) : back3 I m x0 x1 x2 H := back3.of m' hm (.refl _ _) h
def gh4 (I : AV → AV → AV → AV → AH → Prop) : AV → AV → AV → AV → AH → Prop := fun x0 x1 x2 x3 H => KN.gh 4 I x0 x1 x2 x3 H
def back4 (I : Nat → AV → AV → AV → AV → AH → Prop) (m : Nat) : AV → AV → AV → AV → AH → Prop := fun x0 x1 x2 x3 H => ∃ m', m' < m ∧ gh4 (I m') x0 x1 x2 x3 H
theorem gh4.of {I : AV → AV → AV → AV → AH → Prop} {x0 x1 x2 x3 x0' x1' x2' x3' : AV} {H H' : AH} (hg : Ghost [x0, x1, x2, x3] H [x0', x1', x2', x3'] H') (h : I x0' x1' x2' x3' H') : gh4 I x0 x1 x2 x3 H := ⟨[x0', x1', x2', x3'], H', rfl, hg, h⟩
theorem gh4.mk {I : AV → AV → AV → AV → AH → Prop} {x0 x1 x2 x3 : AV} {H : AH} (h : I x0 x1 x2 x3 H) : gh4 I x0 x1 x2 x3 H := gh4.of (.refl _ _) h
theorem back4.of {I : Nat → AV → AV → AV → AV → AH → Prop} {m : Nat} (m' : Nat) (hm : m' < m) {x0 x1 x2 x3 x0' x1' x2' x3' : AV} {H H' : AH} (hg : Ghost [x0, x1, x2, x3] H [x0', x1', x2', x3'] H') (h : I m' x0' x1' x2' x3' H') : back4 I m x0 x1 x2 x3 H := ⟨m', hm, gh4.of hg h⟩
theorem back4.mk {I : Nat → AV → AV → AV → AV → AH → Prop} {m : Nat} (m' : Nat) (hm : m' < m) {x0 x1 x2 x3 : AV} {H : AH} (h : I m' x0 x1 x2 x3 H) : back4 I m x0 x1 x2 x3 H := back4.of m' hm (.refl _ _) h
def gh5 (I : AV → AV → AV → AV → AV → AH → Prop) : AV → AV → AV → AV → AV → AH → Prop := fun x0 x1 x2 x3 x4 H => KN.gh 5 I x0 x1 x2 x3 x4 H
def back5 (I : Nat → AV → AV → AV → AV → AV → AH → Prop) (m : Nat) : AV → AV → AV → AV → AV → AH → Prop := fun x0 x1 x2 x3 x4 H => ∃ m', m' < m ∧ gh5 (I m') x0 x1 x2 x3 x4 H
theorem gh5.of {I : AV → AV → AV → AV → AV → AH → Prop} {x0 x1 x2 x3 x4 x0' x1' x2' x3' x4' : AV} {H H' : AH} (hg : Ghost [x0, x1, x2, x3, x4] H [x0', x1', x2', x3', x4'] H') (h : I x0' x1' x2' x3' x4' H') : gh5 I x0 x1 x2 x3 x4 H := ⟨[x0', x1', x2', x3', x4'], H', rfl, hg, h⟩
theorem gh5.mk {I : AV → AV → AV → AV → AV → AH → Prop} {x0 x1 x2 x3 x4 : AV} {H : AH} (h : I x0 x1 x2 x3 x4 H) : gh5 I x0 x1 x2 x3 x4 H := gh5.of (.refl _ _) h
theorem back5.of {I : Nat → AV → AV → AV → AV → AV → AH → Prop} {m : Nat} (m' : Nat) (hm : m' < m) {x0 x1 x2 x3 x4 x0' x1' x2' x3' x4' : AV} {H H' : AH} (hg : Ghost [x0, x1, x2, x3, x4] H [x0', x1', x2', x3', x4'] H') (h : I m' x0' x1' x2' x3' x4' H') : back5 I m x0 x1 x2 x3 x4 H := ⟨m', hm, gh5.of hg h⟩
theorem back5.mk {I : Nat → AV → AV → AV → AV → AV → AH → Prop} {m : Nat} (m' : Nat) (hm : m' < m) {x0 x1 x2 x3 x4 : AV} {H : AH} (h : I m' x0 x1 x2 x3 x4 H) : back5 I m x0 x1 x2 x3 x4 H := back5.of m' hm (.refl _ _) h
def gh6 (I : AV → AV → AV → AV → AV → AV → AH → Prop) : AV → AV → AV → AV → AV → AV → AH → Prop := fun x0 x1 x2 x3 x4 x5 H => KN.gh 6 I x0 x1 x2 x3 x4 x5 H
def back6 (I : Nat → AV → AV → AV → AV → AV → AV → AH → Prop) (m : Nat) : AV → AV → AV → AV → AV → AV → AH → Prop := fun x0 x1 x2 x3 x4 x5 H => ∃ m', m' < m ∧ gh6 (I m') x0 x1 x2 x3 x4 x5 H
theorem gh6.of {I : AV → AV → AV → AV → AV → AV → AH → Prop} {x0 x1 x2 x3 x4 x5 x0' x1' x2' x3' x4' x5' : AV} {H H' : AH} (hg : Ghost [x0, x1, x2, x3, x4, x5] H [x0', x1', x2', x3', x4', x5'] H') (h : I x0' x1' x2' x3' x4' x5' H') : gh6 I x0 x1 x2 x3 x4 x5 H := ⟨[x0', x1', x2', x3', x4', x5'], H', rfl, hg, h⟩
theorem gh6.mk {I : AV → AV → AV → AV → AV → AV → AH → Prop} {x0 x1 x2 x3 x4 x5 : AV} {H : AH} (h : I x0 x1 x2 x3 x4 x5 H) : gh6 I x0 x1 x2 x3 x4 x5 H := gh6.of (.refl _ _) h
theorem back6.of {I : Nat → AV → AV → AV → AV → AV → AV → AH → Prop} {m : Nat} (m' : Nat) (hm : m' < m) {x0 x1 x2 x3 x4 x5 x0' x1' x2' x3' x4' x5' : AV} {H H' : AH} (hg : Ghost [x0, x1, x2, x3, x4, x5] H [x0', x1', x2', x3', x4', x5'] H') (h : I m' x0' x1' x2' x3' x4' x5' H') : back6 I m x0 x1 x2 x3 x4 x5 H := ⟨m', hm, gh6.of hg h⟩
theorem back6.mk {I : Nat → AV → AV → AV → AV → AV → AV → AH → Prop} {m : Nat} (m' : Nat) (hm : m' < m) {x0 x1 x2 x3 x4 x5 : AV} {H : AH} (h : I m' x0 x1 x2 x3 x4 x5 H) : back6 I m x0 x1 x2 x3 x4 x5 H := back6.of m' hm (.refl _ _) h
def gh7 (I : AV → AV → AV → AV → AV → AV → AV → AH → Prop) : AV → AV → AV → AV → AV → AV → AV → AH → Prop := fun x0 x1 x2 x3 x4 x5 x6 H => KN.gh 7 I x0 x1 x2 x3 x4 x5 x6 H
def back7 (I : Nat → AV → AV → AV → AV → AV → AV → AV → AH → Prop) (m : Nat) : AV → AV → AV → AV → AV → AV → AV → AH → Prop := fun x0 x1 x2 x3 x4 x5 x6 H => ∃ m', m' < m ∧ gh7 (I m') x0 x1 x2 x3 x4 x5 x6 H
theorem gh7.of {I : AV → AV → AV → AV → AV → AV → AV → AH → Prop} {x0 x1 x2 x3 x4 x5 x6 x0' x1' x2' x3' x4' x5' x6' : AV} {H H' : AH} (hg : Ghost [x0, x1, x2, x3, x4, x5, x6] H [x0', x1', x2', x3', x4', x5', x6'] H') (h : I x0' x1' x2' x3' x4' x5' x6' H') : gh7 I x0 x1 x2 x3 x4 x5 x6 H := ⟨[x0', x1', x2', x3', x4', x5', x6'], H', rfl, hg, h⟩
theorem gh7.mk {I : AV → AV → AV → AV → AV → AV → AV → AH → Prop} {x0 x1 x2 x3 x4 x5 x6 : AV} {H : AH} (h : I x0 x1 x2 x3 x4 x5 x6 H) : gh7 I x0 x1 x2 x3 x4 x5 x6 H := gh7.of (.refl _ _) h
theorem back7.of {I : Nat → AV → AV → AV → AV → AV → AV → AV → AH → Prop} {m : Nat} (m' : Nat) (hm : m' < m) {x0 x1 x2 x3 x4 x5 x6 x0' x1' x2' x3' x4' x5' x6' : AV} {H H' : AH} (hg : Ghost [x0, x1, x2, x3, x4, x5, x6] H [x0', x1', x2', x3', x4', x5', x6'] H') (h : I m' x0' x1' x2' x3' x4' x5' x6' H') : back7 I m x0 x1 x2 x3 x4 x5 x6 H := ⟨m', hm, gh7.of hg h⟩
theorem back7.mk {I : Nat → AV → AV → AV → AV → AV → AV → AV → AH → Prop} {m : Nat} (m' : Nat) (hm : m' < m) {x0 x1 x2 x3 x4 x5 x6 : AV} {H : AH} (h : I m' x0 x1 x2 x3 x4 x5 x6 H) : back7 I m x0 x1 x2 x3 x4 x5 x6 H := back7.of m' hm (.refl _ _) h
def gh8 (I : AV → AV → AV → AV → AV → AV → AV → AV → AH → Prop) : AV → AV → AV → AV → AV → AV → AV → AV → AH → Prop := fun x0 x1 x2 x3 x4 x5 x6 x7 H => KN.gh 8 I x0 x1 x2 x3 x4 x5 x6 x7 H
def back8 (I : Nat → AV → AV → AV → AV → AV → AV → AV → AV → AH → Prop) (m : Nat) : AV → AV → AV → AV → AV → AV → AV → AV → AH → Prop := fun x0 x1 x2 x3 x4 x5 x6 x7 H => ∃ m', m' < m ∧ gh8 (I m') x0 x1 x2 x3 x4 x5 x6 x7 H
theorem gh8.of {I : AV → AV → AV → AV → AV → AV → AV → AV → AH → Prop} {x0 x1 x2 x3 x4 x5 x6 x7 x0' x1' x2' x3' x4' x5' x6' x7' : AV} {H H' : AH} (hg : Ghost [x0, x1, x2, x3, x4, x5, x6, x7] H [x0', x1', x2', x3', x4', x5', x6', x7'] H') (h : I x0' x1' x2' x3' x4' x5' x6' x7' H') : gh8 I x0 x1 x2 x3 x4 x5 x6 x7 H := ⟨[x0', x1', x2', x3', x4', x5', x6', x7'], H', rfl, hg, h⟩
theorem gh8.mk {I : AV → AV → AV → AV → AV → AV → AV → AV → AH → Prop} {x0 x1 x2 x3 x4 x5 x6 x7 : AV} {H : AH} (h : I x0 x1 x2 x3 x4 x5 x6 x7 H) : gh8 I x0 x1 x2 x3 x4 x5 x6 x7 H := gh8.of (.refl _ _) h
theorem back8.of {I : Nat → AV → AV → AV → AV → AV → AV → AV → AV → AH → Prop} {m : Nat} (m' : Nat) (hm : m' < m) {x0 x1 x2 x3 x4 x5 x6 x7 x0' x1' x2' x3' x4' x5' x6' x7' : AV} {H H' : AH} (hg : Ghost [x0, x1, x2, x3, x4, x5, x6, x7] H [x0', x1', x2', x3', x4', x5', x6', x7'] H') (h : I m' x0' x1' x2' x3' x4' x5' x6' x7' H') : back8 I m x0 x1 x2 x3 x4 x5 x6 x7 H := ⟨m', hm, gh8.of hg h⟩
theorem back8.mk {I : Nat → AV → AV → AV → AV → AV → AV → AV → AV → AH → Prop} {m : Nat} (m' : Nat) (hm : m' < m) {x0 x1 x2 x3 x4 x5 x6 x7 : AV} {H : AH} (h : I m' x0 x1 x2 x3 x4 x5 x6 x7 H) : back8 I m x0 x1 x2 x3 x4 x5 x6 x7 H := back8.of m' hm (.refl _ _) h
/-- room for new blocks -/
theorem ghost_room {bs : List Blk} {n : Nat} {xs : List AV} (ds : List Blk) (hd : ∀ x ∈ ds, x = .dead) : Ghost xs ⟨bs, n⟩ xs ⟨bs ++ ds, n⟩ := by
  refine ghost_kill (H := ⟨bs, n⟩) (H' := ⟨bs ++ ds, n⟩) (S := fun _ => false) rfl ?_ (FkL.same xs)
  have : ∀ (i : Nat) (l : List Blk), KBL ⟨bs, n⟩ (fun _ => false) i l (l ++ ds) := by
    intro i l
    induction l generalizing i with
    | nil => exact .room hd
    | cons x l ih => exact .keep rfl (KB.same x) (ih _)
  exact this 0 bs

section
variable {E : Env} {P : Program}
/-- a call that looks into memory of one's own, and whose results have no memory -/
theorem FR.borrow {k : Nat} {args args' : List AV} {R0 : AV → Prop} {H : AH} (h : FR E P k args' R0) (ha : FkL H S0 args args') (hr : ∀ r, R0 r → r.flat) : ACalls E P k args H fun r H' => R0 r ∧ ∃ n, H' = ⟨H.bs, n⟩ := by
  intro c vs hH hv o a next Q hn
  have hgh := ghost_all ha E c hH
  let c0 := c.kill S0
  have hH0 : HRel E c0 ⟨[], c.ctr⟩ := by
    refine ⟨rfl, fun b _ => by simp [c0, Cx.kill, S0], by simp, fun b hb => absurd (by simp [c0, Cx.kill, S0]) hb, by simp, fun b _ hb => absurd (by simp [c0, Cx.kill, S0]) hb, fun b hb => absurd (by simp [c0, Cx.kill, S0]) hb, ?_, hH.fclt, hH.globLe (c.kill_le S0)⟩
    rintro k (hk | ⟨b, hb, _, he⟩)
    · exact hH.fzlt k hk
    · rw [← he]; exact hH.lt b hb
  refine h.ok c.ctr c0 vs hH0 (ha.rel hH hv) o a next Q fun v w' hvw => hn v w' ?_
  obtain ⟨r, c1, H1, rfl, hr0, hH1, hv1, hL⟩ := hvw
  have hg0 : ∀ b, c0.gen b = none := fun b => by simp [c0, Cx.kill, S0]
  have hheap : ∀ k, k < c.w.heap.size → c1.w.heap[k]? = c.w.heap[k]? := fun k hk => hL.keep k hk fun b hb => absurd (hg0 b) hb
  let c2 : Cx := { w := c1.w, al := c.al, base := c.base, gen := c.gen, sz := c.sz, csz := c.csz, fz := fun k => c1.fz k ∧ ∀ b, c.gen b ≠ none → c.al b ≠ k, fc := fun k j => c.fc k j ∨ (c1.fc k j ∧ ∀ b, c.gen b ≠ none → c.al b ≠ k), ctr := c1.ctr }
  have hle : c.le c2 := {
    ctr := hL.le.ctr
    fz := fun k hk => ⟨⟨(hL.le.fz k (.inl hk)).1, fun b hb he => hH.apart b hb (he ▸ hk)⟩, hheap k (hH.fzlt k hk)⟩
    fc := fun k j hk => ⟨.inr (.inl hk), cell_of_heap (hheap k (hH.fclt k j hk)) _ _⟩
    gen := fun b g _ e => ⟨e, rfl, rfl, rfl, rfl⟩
    room := fun b g _ e j hj => by
      rcases hj with hj | ⟨_, hj⟩
      · exact hj
      · exact absurd rfl (hj b (by rw [show c.gen b = some g from e]; simp)) }
  have hsz : c.w.heap.size ≤ c1.w.heap.size := hL.size
  refine ⟨r, c2, ⟨H.bs, c1.ctr⟩, rfl, ⟨hr0, c1.ctr, rfl⟩, ⟨rfl, hH.out, fun b x hb => (hH.blk b x hb).mono hle rfl rfl rfl rfl rfl (fun hd => hheap _ (hH.lt b (hH.live' hb hd))), fun b hb hk => hk.2 b hb rfl, ?_, hH.inj, fun b hb => Nat.lt_of_lt_of_le (hH.lt b hb) hsz, fun k hk => hH1.fzlt k hk.1, ?_, hH.globLe hle⟩, VRel.ofFlat r v (hr r hr0) hv1, ?_⟩
  · intro b x hb hd ht j hj
    rcases hj with hj | ⟨_, hj⟩
    · exact hH.solid b x hb hd ht j hj
    · exact hj b (hH.live' hb hd) rfl
  · intro k j hk
    rcases hk with hk | ⟨hk, _⟩
    · exact Nat.lt_of_lt_of_le (hH.fclt k j hk) hsz
    · exact hH1.fclt k j hk
  · exact {
      le := hle
      os := hL.os
      tape := hL.tape
      output := hL.output
      size := hL.size
      keep := fun k hk _ => hheap k hk
      own := fun b hb => .inl ⟨b, hb, rfl⟩
      fz := fun k hk => by
        rcases hL.fz k hk.1 with (h1 | ⟨b, hb, _, he⟩) | h1 | ⟨b, hb, _⟩
        · exact .inl h1
        · exact absurd he (hk.2 b hb)
        · exact .inr (.inl h1)
        · exact absurd (hg0 b) hb
      fc := fun k j hk => by
        rcases hk with hk | ⟨hk, _⟩
        · exact .inl hk
        · rcases hL.fc k j hk with h1 | h1 | ⟨b, hb, _⟩
          · exact .inl h1
          · exact .inr (.inl h1)
          · exact absurd (hg0 b) hb }

theorem wCall.bo {k : Nat} {args args' : List AV} {r : AV} {H : AH} {K : Kt} (h : FX E P k args' r) (hr : r.flat) (ha : FkL H S0 args args') (hK : ∀ n, K r ⟨H.bs, n⟩) : wCall E P k args H K :=
  ⟨_, h.fr.borrow ha (fun _ e => e ▸ hr), fun x _ ⟨h1, n, h2⟩ => by subst h1; subst h2; exact hK n⟩
/-- frozen for good: by a step of the proof alone -/
theorem wCall.gh {k : Nat} {args args' : List AV} {R0 : AV → Prop} {H H' : AH} {K : Kt} (hg : Ghost args H args' H') (h : FR E P k args' R0) (hK : ∀ r n, R0 r → K r ⟨H'.bs, n⟩) : wCall E P k args H K :=
  ⟨_, ACalls.args hg (h.lift H'), fun r _ ⟨h1, n, h2⟩ => h2 ▸ hK r n h1⟩
theorem wCallV.fr {k : Nat} {fs args cs args' : List AV} {R0 : AV → Prop} {H : AH} {K : Kt} (h : FR E P k args' R0) (hs : SubL (fs ++ args ++ cs) args') (hK : ∀ r n, R0 r → K r ⟨H.bs, n⟩) : wCallV E P (.fn k fs cs) args H K :=
  ⟨k, fs, cs, rfl, _, ACalls.args (ghost_sub hs) (h.lift H), fun r _ ⟨h1, n, h2⟩ => h2 ▸ hK r n h1⟩
theorem wCallV.fx {k : Nat} {fs args cs : List AV} {r : AV} {H : AH} {K : Kt} (h : FX E P k (fs ++ args ++ cs) r) (hK : ∀ n, K r ⟨H.bs, n⟩) : wCallV E P (.fn k fs cs) args H K :=
  .fr h.fr (.refl _) fun _ n e => e ▸ hK n
theorem wCallV.bo {k : Nat} {fs args cs args' : List AV} {r : AV} {H : AH} {K : Kt} (h : FX E P k args' r) (hr : r.flat) (ha : FkL H S0 (fs ++ args ++ cs) args') (hK : ∀ n, K r ⟨H.bs, n⟩) : wCallV E P (.fn k fs cs) args H K :=
  ⟨k, fs, cs, rfl, _, h.fr.borrow ha (fun _ e => e ▸ hr), fun x _ ⟨h1, n, h2⟩ => by subst h1; subst h2; exact hK n⟩
theorem wInv.fr {f k : Nat} {a : AV} {name : String} {args args' : List AV} {R0 : AV → Prop} {H : AH} {K : Kt} (hm : MethodIs E P k name f) (h : FR E P f args' R0) (hs : SubL (a :: args) args') (hK : ∀ r n, R0 r → K r ⟨H.bs, n⟩) : wInv E P (.ifc k a) name args H K :=
  ⟨k, a, f, rfl, hm, _, ACalls.args (ghost_sub hs) (h.lift H), fun r _ ⟨h1, n, h2⟩ => h2 ▸ hK r n h1⟩
theorem wInv.fx {f k : Nat} {a : AV} {name : String} {args : List AV} {r : AV} {H : AH} {K : Kt} (hm : MethodIs E P k name f) (h : FX E P f (a :: args) r) (hK : ∀ n, K r ⟨H.bs, n⟩) : wInv E P (.ifc k a) name args H K :=
  .fr hm h.fr (.refl _) fun _ n e => e ▸ hK n

end
/-! ### what is told of frozen memory -/
theorem FkL.length {H : AH} {S : Nat → Bool} : ∀ {xs ys : List AV}, FkL H S xs ys → xs.length = ys.length
  | _, _, .nil => rfl
  | _, _, .cons _ h => by simp [FkL.length h]
theorem FkL.crel {H : AH} {S : Nat → Bool} {E : Env} {c : Cx} (hH : HRel E c H) : ∀ {xs ys : List AV}, FkL H S xs ys → ∀ {b o : Nat}, CRel E c xs b o → CRel E (c.kill S) ys b o
  | _, _, .nil, _, _, _ => by simp [CRel]
  | _, _, .cons h1 h2, b, o, r => by
    simp only [CRel] at r ⊢
    obtain ⟨⟨hf, u, hu, hv⟩, r⟩ := r
    refine ⟨⟨hf.imp (fun h => .inl h) id, u, hu, h1 E c hH u hv⟩, FkL.crel hH h2 r⟩
theorem Fk.slN {H : AH} {S : Nat → Bool} {cs cs' : List AV} {len : Nat} (h : FkL H S cs cs') : Fk H S (.slN cs len) (.slN cs' len) := fun E c hH v r => by
  simp only [VRel] at r ⊢
  refine r.imp id ?_
  rintro ⟨p, cap, rfl, hl, r⟩
  refine ⟨p, cap, rfl, hl, r.imp id ?_⟩
  rintro ⟨b, o, rfl, hc⟩
  exact ⟨b, o, rfl, h.crel hH hc⟩
theorem Fk.slT {H : AH} {S : Nat → Bool} {b g : Nat} {cs cs' : List AV} {len : Nat} (h : FkL H S cs cs') : Fk H S (.slT b cs len g) (.slT b cs' len g) := fun E c hH v r => by
  simp only [VRel] at r ⊢
  obtain ⟨hg, p, cap, rfl, hl, r⟩ := r
  refine ⟨hg, p, cap, rfl, hl, r.imp id ?_⟩
  rintro ⟨k, o, rfl, hc, hr⟩
  refine ⟨k, o, rfl, h.crel hH hc, fun e => ?_⟩
  have e' : c.gen b = some g := by
    simp only [Cx.kill] at e
    split at e
    · cases e
    · exact e
  obtain ⟨h1, h2, h3⟩ := hr e'
  exact ⟨h1, fun j hj => h2 j (by rw [h.length]; exact hj), h3⟩
theorem Gr.fk {H : AH} {S : Nat → Bool} {sz : Nat} {z : Blk} {b : Nat} {x : AV} {cs cs' : List AV} {n : Nat} (hg : Gr sz z b x cs n) (h : FkL H S cs cs') : ∃ x', Gr sz z b x' cs' n ∧ Fk H S x x' := by
  rcases hg with ⟨rfl, rfl, rfl, rfl⟩ | ⟨g, rfl, rfl⟩
  · cases h
    exact ⟨nilS, .nil, .same _⟩
  · exact ⟨_, .mk, .slT h⟩

/-! ### open orders -/
theorem wOne.mk {op : AH → Kt → Prop} {H : AH} {K : Kt} (x : AV) (h : ∀ n (K' : Kt), (∀ n', K' x ⟨H.bs, n'⟩) → op ⟨H.bs, n⟩ K') (k : K x H) : wOne op H K := ⟨x, h, k⟩
theorem wAll.mk {H : AH} {k : AH → Prop} (h : ∀ n, k ⟨H.bs, n⟩) : wAll H k := h

abbrev Body1 (E : Env) (P : Program) (k : Nat) (F : Env → Program → AV → AH → Kt → Prop) : Prop := ∀ a H R, F E P a H R → ACalls E P k [a] H R
abbrev Body2 (E : Env) (P : Program) (k : Nat) (F : Env → Program → AV → AV → AH → Kt → Prop) : Prop := ∀ a b H R, F E P a b H R → ACalls E P k [a, b] H R
abbrev Body3 (E : Env) (P : Program) (k : Nat) (F : Env → Program → AV → AV → AV → AH → Kt → Prop) : Prop := ∀ a b c H R, F E P a b c H R → ACalls E P k [a, b, c] H R
abbrev Body4 (E : Env) (P : Program) (k : Nat) (F : Env → Program → AV → AV → AV → AV → AH → Kt → Prop) : Prop := ∀ a b c d H R, F E P a b c d H R → ACalls E P k [a, b, c, d] H R
end Go.Sc
namespace Go.Sc
open Go
set_option linter.unusedVariables false
/-- an error of package api: a number; none is nil -/
def Er (e : Int) : AV := if e = 0 then nilE else .ifc 1 (Z e)
theorem Er_closed (e : Int) : (Er e).closed := by unfold Er; split <;> simp [AV.closed]
theorem Er_zero : Er 0 = nilE := rfl
theorem Er_ne {e : Int} (h : e ≠ 0) : Er e = .ifc 1 (Z e) := if_neg h
def At (e p : Int) : AV := .ifc 2 (.ptrF [Z e, Z p] 0)
theorem At_closed (e p : Int) : (At e p).closed := by simp [At, AV.closed, AV.closedL]
theorem wrap_u64 (a : Int) : IntKind.u64.wrap a = a % 18446744073709551616 := by
  simp [IntKind.wrap, IntKind.bits, IntKind.signed]
/-! ### maps -/
theorem wMapN.L {H : AH} {K : Kt} (h : K (.mapL H.bs.length H.ctr) ⟨H.bs ++ [.map H.ctr [] []], H.ctr + 1⟩) : wMapN H K := ⟨H.bs.length, .inl rfl, by simpa [AH.put] using h⟩
theorem put_two (a b a' b' : AV) : putL [a, b] 0 [a', b'] = some [a', b'] := rfl
/-- the first place of one in a list, or -1 -/
def idx {α : Type} [DecidableEq α] (l : List α) (x : α) : Int := if x ∈ l then (l.idxOf x : Nat) else -1
theorem idx_app {α : Type} [DecidableEq α] {pre rest : List α} {x : α} (h : x ∉ pre) : idx (pre ++ x :: rest) x = pre.length := by
  simp [idx, List.idxOf_append, h]
theorem idx_neg {α : Type} [DecidableEq α] {l : List α} {x : α} : idx l x < 0 ↔ x ∉ l := by
  unfold idx; split <;> simp_all <;> omega

theorem Y0 : type_of% @wGet_some := @wGet_some
theorem Y1 : type_of% @wPut_some := @wPut_some
theorem Y2 : type_of% @wDo_some := @wDo_some
theorem Y3 : type_of% @wBool_some := @wBool_some
theorem Y4 : type_of% @wAgg_some := @wAgg_some
theorem Y5 : type_of% @wIf_true := @wIf_true
theorem Y6 : type_of% @wIf_false := @wIf_false
theorem Y7 : type_of% @wGuard_ff := @wGuard_ff
theorem Y8 : type_of% @wGuard_tt := @wGuard_tt
theorem Y9 : type_of% @wGuard_ft := @wGuard_ft
theorem Ya : type_of% @wGuard_tf := @wGuard_tf
theorem Yb : type_of% @wGuard_undef := @wGuard_undef
theorem Yc : type_of% @pickA_t := @pickA_t
theorem Yd : type_of% @pickA_f := @pickA_f
theorem Ye : type_of% @unA_not := @unA_not
theorem Yf : type_of% @faddr_L := @faddr_L
theorem Yg : type_of% @faddr_F := @faddr_F
theorem Yh : type_of% @extractA_tup := @extractA_tup
theorem Yi : type_of% @lenA_N := @lenA_N
theorem Yj : type_of% @lenA_F := @lenA_F
theorem Yk : type_of% @lenA_L := @lenA_L
theorem Yl : type_of% @lenA_T := @lenA_T
theorem Ym : type_of% @lenA_nil := @lenA_nil
theorem Yn : type_of% @lenS_S := @lenS_S
theorem Yo : type_of% @load1_L := @load1_L
theorem Yp : type_of% @load1_F := @load1_F
theorem Yq : type_of% @loadN_L := @loadN_L
theorem Yr : type_of% @loadN_F := @loadN_F
theorem Ys : type_of% @blkCells_self := @blkCells_self
theorem Yt : type_of% @blkDo_self := @blkDo_self
theorem Yu : type_of% @binA_lss := @binA_lss
theorem Yv : type_of% @binA_leq := @binA_leq
theorem Yw : type_of% @binA_gtr := @binA_gtr
theorem Yx : type_of% @binA_geq := @binA_geq
theorem Yy : type_of% @binA_eql := @binA_eql
theorem Yz : type_of% @binA_neq := @binA_neq
theorem Y10 : type_of% @binA_seq := @binA_seq
theorem Y11 : type_of% @binA_sne := @binA_sne
theorem Y12 : type_of% @bnd_none := @bnd_none
theorem Y13 : type_of% @bnd_some := @bnd_some
theorem Y14 : type_of% @eqA_bool := @eqA_bool
theorem Y15 : type_of% @eqA_ifc := @eqA_ifc
theorem Y16 : type_of% @eqA_nilE := @eqA_nilE
theorem Y17 : type_of% @eqA_pF := @eqA_pF
theorem Y18 : type_of% @eqA_pL := @eqA_pL
theorem Y19 : type_of% @eqA_pN := @eqA_pN
theorem Y1a : type_of% @eqA_slF := @eqA_slF
theorem Y1b : type_of% @eqA_slL := @eqA_slL
theorem Y1c : type_of% @eqA_slT := @eqA_slT
theorem Y1d : type_of% @eqA_slZ := @eqA_slZ
theorem Y1e : type_of% @nilA_F := @nilA_F
theorem Y1f : type_of% @nilA_L := @nilA_L
theorem Y1g : type_of% @nilA_fn := @nilA_fn
theorem Y1h : type_of% @convA_int := @convA_int
theorem Y1i : type_of% @convA_str := @convA_str
theorem Y1j : type_of% @sub_two := @sub_two
theorem Y1k : type_of% @sub_three := @sub_three
theorem Y1l : type_of% @sub_four := @sub_four
theorem Y1n : type_of% @List.nil_append := @List.nil_append
theorem Y1o : type_of% @List.cons_append := @List.cons_append
theorem Y1p : type_of% @List.length_nil := @List.length_nil
theorem Y1q : type_of% @List.length_cons := @List.length_cons
theorem Y1r : type_of% @Nat.zero_add := @Nat.zero_add
theorem Y1s : type_of% @Nat.add_zero := @Nat.add_zero
theorem Y1t : type_of% @Nat.mul_one := @Nat.mul_one
theorem Y1w : type_of% @List.getElem?_cons_zero := @List.getElem?_cons_zero
theorem Y1x : type_of% @List.getElem?_cons_succ := @List.getElem?_cons_succ
theorem Y1y : type_of% @List.set_cons_zero := @List.set_cons_zero
theorem Y1z : type_of% @List.set_cons_succ := @List.set_cons_succ
theorem Y20 : type_of% @Option.map_some := @Option.map_some
theorem Y21 : type_of% @Option.bind_some := @Option.bind_some
theorem Y22 : type_of% @Bool.bne_false := @Bool.bne_false
theorem Y23 : type_of% @Bool.bne_true := @Bool.bne_true
theorem Y24 : type_of% @Bool.not_true := @Bool.not_true
theorem Y25 : type_of% @Bool.not_false := @Bool.not_false
theorem Y26 : type_of% @decide_true := @decide_true
theorem Y27 : type_of% @decide_false := @decide_false
theorem Y28 : type_of% @if_true := @if_true
theorem Y29 : type_of% @Bool.false_eq_true := @Bool.false_eq_true
theorem Y2a : type_of% @if_false := @if_false
theorem Y2b : type_of% @Int.toNat_natCast := @Int.toNat_natCast
theorem nd0 : ((((((type_of% @Y0) ∧ (type_of% @Y1)) ∧ ((type_of% @Y2) ∧ (type_of% @Y3))) ∧ (((type_of% @Y4) ∧ (type_of% @Y5)) ∧ ((type_of% @Y6) ∧ (type_of% @Y7)))) ∧ ((((type_of% @Y8) ∧ (type_of% @Y9)) ∧ ((type_of% @Ya) ∧ (type_of% @Yb))) ∧ (((type_of% @Yc) ∧ (type_of% @Yd)) ∧ ((type_of% @Ye) ∧ ((type_of% @Yf) ∧ (type_of% @Yg)))))) ∧ (((((type_of% @Yh) ∧ (type_of% @Yi)) ∧ ((type_of% @Yj) ∧ (type_of% @Yk))) ∧ (((type_of% @Yl) ∧ (type_of% @Ym)) ∧ ((type_of% @Yn) ∧ (type_of% @Yo)))) ∧ ((((type_of% @Yp) ∧ (type_of% @Yq)) ∧ ((type_of% @Yr) ∧ (type_of% @Ys))) ∧ (((type_of% @Yt) ∧ (type_of% @Yu)) ∧ ((type_of% @Yv) ∧ ((type_of% @Yw) ∧ (type_of% @Yx))))))) ∧ ((((((type_of% @Yy) ∧ (type_of% @Yz)) ∧ ((type_of% @Y10) ∧ (type_of% @Y11))) ∧ (((type_of% @Y12) ∧ (type_of% @Y13)) ∧ ((type_of% @Y14) ∧ (type_of% @Y15)))) ∧ ((((type_of% @Y16) ∧ (type_of% @Y17)) ∧ ((type_of% @Y18) ∧ (type_of% @Y19))) ∧ (((type_of% @Y1a) ∧ (type_of% @Y1b)) ∧ ((type_of% @Y1c) ∧ ((type_of% @Y1d) ∧ (type_of% @Y1e)))))) ∧ (((((type_of% @Y1f) ∧ (type_of% @Y1g)) ∧ ((type_of% @Y1h) ∧ (type_of% @Y1i))) ∧ (((type_of% @Y1j) ∧ (type_of% @Y1k)) ∧ ((type_of% @Y1l) ∧ ((type_of% @Y1r) ∧ (type_of% @Y1s))))) ∧ ((((type_of% @Y1t) ∧ (type_of% @Y22)) ∧ ((type_of% @Y23) ∧ (type_of% @Y24))) ∧ (((type_of% @Y25) ∧ (type_of% @Y26)) ∧ ((type_of% @Y27) ∧ ((type_of% @Y29) ∧ (type_of% @Y2b))))))) := ⟨⟨⟨⟨⟨⟨@Y0, @Y1⟩, ⟨@Y2, @Y3⟩⟩, ⟨⟨@Y4, @Y5⟩, ⟨@Y6, @Y7⟩⟩⟩, ⟨⟨⟨@Y8, @Y9⟩, ⟨@Ya, @Yb⟩⟩, ⟨⟨@Yc, @Yd⟩, ⟨@Ye, ⟨@Yf, @Yg⟩⟩⟩⟩⟩, ⟨⟨⟨⟨@Yh, @Yi⟩, ⟨@Yj, @Yk⟩⟩, ⟨⟨@Yl, @Ym⟩, ⟨@Yn, @Yo⟩⟩⟩, ⟨⟨⟨@Yp, @Yq⟩, ⟨@Yr, @Ys⟩⟩, ⟨⟨@Yt, @Yu⟩, ⟨@Yv, ⟨@Yw, @Yx⟩⟩⟩⟩⟩⟩, ⟨⟨⟨⟨⟨@Yy, @Yz⟩, ⟨@Y10, @Y11⟩⟩, ⟨⟨@Y12, @Y13⟩, ⟨@Y14, @Y15⟩⟩⟩, ⟨⟨⟨@Y16, @Y17⟩, ⟨@Y18, @Y19⟩⟩, ⟨⟨@Y1a, @Y1b⟩, ⟨@Y1c, ⟨@Y1d, @Y1e⟩⟩⟩⟩⟩, ⟨⟨⟨⟨@Y1f, @Y1g⟩, ⟨@Y1h, @Y1i⟩⟩, ⟨⟨@Y1j, @Y1k⟩, ⟨@Y1l, ⟨@Y1r, @Y1s⟩⟩⟩⟩, ⟨⟨⟨@Y1t, @Y22⟩, ⟨@Y23, @Y24⟩⟩, ⟨⟨@Y25, @Y26⟩, ⟨@Y27, ⟨@Y29, @Y2b⟩⟩⟩⟩⟩⟩⟩
end Go.Sc
namespace Go.Sc
open Go
set_option linter.unusedVariables false
set_option linter.unusedSimpArgs false
def S1 : Nat → Bool := fun i => decide (i ≠ 0)
structure PC (E : Env) (P : Program) (k sz : Nat) (cs : List AV) (args : Nat → Nat → List AV) (R0 : AV → List AV → Prop) : Prop where
  ok : ∀ n g, ACalls E P k (args 0 g) ⟨[.cells g sz cs], n⟩ fun r H' => ∃ cs', R0 r cs' ∧ H'.bs = [.cells g sz cs']
  ca : ∀ f g, AV.renL f (args 0 g) = args (f 0) g
  cc : AV.closedL cs
  cr : ∀ r cs', R0 r cs' → r.closed ∧ AV.closedL cs'
section
variable {E : Env} {P : Program} {k sz : Nat} {cs : List AV} {args : Nat → Nat → List AV} {R0 : AV → List AV → Prop}
theorem PC.calls (h : PC E P k sz cs args R0) {H : AH} {b g : Nat} (hb : H.bs[b]? = some (.cells g sz cs)) : ACalls E P k (args b g) H fun r H' => ∃ cs' n, R0 r cs' ∧ H' = ⟨H.bs.set b (.cells g sz cs'), n⟩ := by
  have hr : rmap [b] H.bs.length 0 = b := rfl
  have hcells : ∀ cs', AV.closedL cs' → (Blk.cells g sz cs').ren (rmap [b] H.bs.length) = .cells g sz cs' := fun cs' hc => by simp only [Blk.ren, AV.renL_closed _ hc]
  have := ACalls.frame (mv := [b]) (B := [.cells g sz cs]) (args0 := args 0 g) (args := args b g) (H := H) (R0 := fun r B' => ∃ cs', R0 r cs' ∧ B' = [.cells g sz cs'])
    (fun n => (h.ok n g).mono fun r H' ⟨cs', h1, h2⟩ => ⟨r, H', .refl _ _, ⟨cs', h1, h2⟩, by rw [h2]; rfl⟩) (by simp) rfl
    (fun i b' x h1 h2 => by
      cases i with
      | zero => simp at h1 h2; subst h1 h2; rw [hcells _ h.cc]; exact hb
      | succ i => simp at h1) (by rw [h.ca, hr])
  refine this.mono fun r H' ⟨r0, B', n, ⟨cs', h1, h2⟩, _, h3, h4⟩ => ⟨r, H', .refl _ _, cs', n, ?_, ?_⟩
  · rw [h3, AV.ren_closed _ (h.cr _ _ h1).1]; exact h1
  · rw [h4, h2, List.map_cons, List.map_nil, hcells _ (h.cr _ _ h1).2]; rfl
theorem PC.of (ca : ∀ f g, AV.renL f (args 0 g) = args (f 0) g) (cc : AV.closedL cs) (cr : ∀ r cs', R0 r cs' → r.closed ∧ AV.closedL cs')
    (h : ∀ n g (R : Kt), (∀ x r cs' rest n', Fk ⟨.cells g sz cs' :: rest, n'⟩ S1 x r → R0 r cs' → R x ⟨.cells g sz cs' :: rest, n'⟩) → ACalls E P k (args 0 g) ⟨[.cells g sz cs], n⟩ R) : PC E P k sz cs args R0 where
  ok := fun n g => (h n g (fun x H => ∃ r cs' rest n', H = ⟨.cells g sz cs' :: rest, n'⟩ ∧ Fk ⟨.cells g sz cs' :: rest, n'⟩ S1 x r ∧ R0 r cs') fun x r cs' rest n' h1 h2 => ⟨r, cs', rest, n', rfl, h1, h2⟩).mono (by
    rintro x H ⟨r, cs', rest, n', rfl, h1, h2⟩
    refine ⟨r, ⟨[.cells g sz cs'], n'⟩, ?_, cs', h2, rfl⟩
    exact ghost_kill (H := ⟨.cells g sz cs' :: rest, n'⟩) (H' := ⟨[.cells g sz cs'], n'⟩) (S := S1) rfl (.keep rfl (KB.same _) (.cut fun j x _ => .inl (by simp [S1]))) (.cons h1 .nil))
  ca := ca
  cc := cc
  cr := cr
theorem wCall.pc {H : AH} {b g : Nat} {args' : List AV} {K : Kt} (h : PC E P k sz cs args R0) (hb : H.bs[b]? = some (.cells g sz cs)) (ha : args' = args b g) (hK : ∀ r cs' n, R0 r cs' → K r ⟨H.bs.set b (.cells g sz cs'), n⟩) : wCall E P k args' H K :=
  ⟨_, ha ▸ h.calls hb, fun r _ ⟨cs', n, h1, h2⟩ => h2 ▸ hK r cs' n h1⟩
theorem wCallV.pc {H : AH} {b g : Nat} {fs as cc : List AV} {K : Kt} (h : PC E P k sz cs args R0) (hb : H.bs[b]? = some (.cells g sz cs)) (ha : fs ++ as ++ cc = args b g) (hK : ∀ r cs' n, R0 r cs' → K r ⟨H.bs.set b (.cells g sz cs'), n⟩) : wCallV E P (.fn k fs cc) as H K :=
  ⟨k, fs, cc, rfl, _, ha ▸ h.calls hb, fun r _ ⟨cs', n, h1, h2⟩ => h2 ▸ hK r cs' n h1⟩
end
end Go.Sc
namespace Go.Sc.F
open Go Go.Sc
set_option linter.unusedVariables false
/-- signalbox/expr.Name -/
def expr_Name (E : Env) (P : Program) (a0 : AV) (H : AH) (R : Kt) : Prop :=
  wGet (binA .neq a0 (.val (.string ⟨#[]⟩))) H fun t4 H =>
  wGuard t4 true H (fun k => k a0 H) fun t6 H =>
  wGuard t4 true H (fun k => wGet (lenS t6) H k) fun t7 H =>
  wGuard t4 true H (fun k => wGet (binA .leq t7 (.val (.int .i64 8))) H k) fun t8 H =>
  wGet (pickA t4 t8 (.val (.bool false))) H fun t9 H =>
  wGuard t9 true H (fun k => k a0 H) fun t11 H =>
  wGuard t9 true H (fun k => wGet (idxStr t11 (.val (.int .i64 0))) H k) fun t12 H =>
  wGuard t9 true H (fun k => wGet (binA .geq t12 (.val (.int .u8 97))) H k) fun t13 H =>
  wGet (pickA t9 t13 (.val (.bool false))) H fun t14 H =>
  wGuard t14 true H (fun k => k a0 H) fun t16 H =>
  wGuard t14 true H (fun k => wGet (idxStr t16 (.val (.int .i64 0))) H k) fun t17 H =>
  wGuard t14 true H (fun k => wGet (binA .leq t17 (.val (.int .u8 122))) H k) fun t18 H =>
  wGet (pickA t14 t18 (.val (.bool false))) H fun t19 H =>
  wGuard t19 true H (fun k => k a0 H) fun t21 H =>
  wGuard t19 true H (fun k => wCall E P 4 [t21, (.val (.string ⟨#[97, 98, 99, 100, 101, 102, 103, 104, 105, 106, 107, 108, 109, 110, 111, 112, 113, 114, 115, 116, 117, 118, 119, 120, 121, 122, 48, 49, 50, 51, 52, 53, 54, 55, 56, 57, 95]⟩))] H k) fun t22 H =>
  wGuard t19 true H (fun k => wGet (binA .eql t22 (.val (.string ⟨#[]⟩))) H k) fun t23 H =>
  wGet (pickA t19 t23 (.val (.bool false))) H fun t24 H =>
  wGuard t24 true H (fun k => wNewS 1 9 (fillA (List.replicate 9 [(.val (.string ⟨#[]⟩))]).flatten [(0, 1, (.val (.string ⟨#[105, 110, 112, 117, 116]⟩))), (1, 1, (.val (.string ⟨#[99, 111, 105, 108]⟩))), (2, 1, (.val (.string ⟨#[116, 105, 109, 101, 114]⟩))), (3, 1, (.val (.string ⟨#[99, 111, 117, 110, 116, 101, 114]⟩))), (4, 1, (.val (.string ⟨#[115, 101, 116]⟩))), (5, 1, (.val (.string ⟨#[114, 101, 115, 101, 116]⟩))), (6, 1, (.val (.string ⟨#[114, 117, 110]⟩))), (7, 1, (.val (.string ⟨#[99, 111, 117, 110, 116]⟩))), (8, 1, (.val (.string ⟨#[122, 101, 114, 111]⟩)))]) H k) fun t26 H =>
  wGuard t24 true H (fun k => k a0 H) fun t27 H =>
  wGuard t24 true H (fun k => wCall E P 5 [t26, t27] H k) fun t28 H =>
  wGuard t24 true H (fun k => wGet (unA .not t28) H k) fun t29 H =>
  wGet (pickA t24 t29 (.val (.bool false))) H fun t30 H =>
  R t30 H

/-- signalbox/signalboxref.NameCheck -/
def ref_NameCheck (E : Env) (P : Program) (a0 : AV) (H : AH) (R : Kt) : Prop :=
  wGet (lenS a0) H fun t7 H =>
  wLoop 1 (fun I1 => I1 (.val (.int .i64 0)) H) fun I1 t8 H =>
    wGet (binA .lss t8 t7) H fun t9 H =>
    wIf t9 (
      wGet (idxStr a0 t8) H fun t13 H =>
      wGet (binA .geq t13 (.val (.int .u8 97))) H fun t15 H =>
      wGuard t15 true H (fun k => k t13 H) fun t17 H =>
      wGuard t15 true H (fun k => wGet (binA .leq t17 (.val (.int .u8 122))) H k) fun t18 H =>
      wGet (pickA t15 t18 (.val (.bool false))) H fun t19 H =>
      wGet (unA .not t19) H fun t21 H =>
      wGuard t21 true H (fun k => k t8 H) fun t23 H =>
      wGuard t21 true H (fun k => wGet (binA .eql t23 (.val (.int .i64 0))) H k) fun t24 H =>
      wGuard t21 true H (fun k => k t24 H) fun t25 H =>
      wGuard t25 false H (fun k => k t13 H) fun t26 H =>
      wGuard t25 false H (fun k => wGet (binA .geq t26 (.val (.int .u8 48))) H k) fun t27 H =>
      wGuard t25 false H (fun k => k t27 H) fun t28 H =>
      wGuard t28 true H (fun k => k t13 H) fun t29 H =>
      wGuard t28 true H (fun k => wGet (binA .leq t29 (.val (.int .u8 57))) H k) fun t30 H =>
      wGuard t25 false H (fun k => wGet (pickA t28 t30 (.val (.bool false))) H k) fun t31 H =>
      wGuard t25 false H (fun k => k t31 H) fun t32 H =>
      wGuard t32 false H (fun k => k t13 H) fun t33 H =>
      wGuard t32 false H (fun k => wGet (binA .eql t33 (.val (.int .u8 95))) H k) fun t34 H =>
      wGuard t25 false H (fun k => wGet (pickA t32 (.val (.bool true)) t34) H k) fun t35 H =>
      wGuard t25 false H (fun k => wGet (unA .not t35) H k) fun t36 H =>
      wGuard t21 true H (fun k => wGet (pickA t25 (.val (.bool true)) t36) H k) fun t37 H =>
      wGet (pickA t21 t37 (.val (.bool false))) H fun t38 H =>
      wIf t38 (
        R (.val (.bool false)) H) (
        wGet (binA .add t8 (.val (.int .i64 1))) H fun t39 H =>
        I1 t39 H)) (
      wJoin 1 (fun J2 =>
        wGet (binA .eql a0 (.val (.string ⟨#[]⟩))) H fun t42 H =>
        wIf t42 (
          J2 t42 H) (
          wGet (binA .eql a0 (.val (.string ⟨#[105, 110, 112, 117, 116]⟩))) H fun t43 H =>
          wIf t43 (
            J2 t43 H) (
            wGet (binA .eql a0 (.val (.string ⟨#[99, 111, 105, 108]⟩))) H fun t44 H =>
            wIf t44 (
              J2 t44 H) (
              wGet (binA .eql a0 (.val (.string ⟨#[116, 105, 109, 101, 114]⟩))) H fun t45 H =>
              wIf t45 (
                J2 t45 H) (
                wGet (binA .eql a0 (.val (.string ⟨#[99, 111, 117, 110, 116, 101, 114]⟩))) H fun t46 H =>
                wIf t46 (
                  J2 t46 H) (
                  wGet (binA .eql a0 (.val (.string ⟨#[115, 101, 116]⟩))) H fun t47 H =>
                  wIf t47 (
                    J2 t47 H) (
                    wGet (binA .eql a0 (.val (.string ⟨#[114, 101, 115, 101, 116]⟩))) H fun t48 H =>
                    wIf t48 (
                      J2 t48 H) (
                      wGet (binA .eql a0 (.val (.string ⟨#[114, 117, 110]⟩))) H fun t49 H =>
                      wIf t49 (
                        J2 t49 H) (
                        wGet (binA .eql a0 (.val (.string ⟨#[99, 111, 117, 110, 116]⟩))) H fun t50 H =>
                        wIf t50 (
                          J2 t50 H) (
                          wGet (binA .eql a0 (.val (.string ⟨#[122, 101, 114, 111]⟩))) H fun t51 H =>
                          J2 t51 H)))))))))) fun t41 H =>
        wIf t41 (
          R (.val (.bool false)) H) (
          wGet (lenS a0) H fun t53 H =>
          wGet (binA .leq t53 (.val (.int .i64 8))) H fun t54 H =>
          R t54 H))

/-- strings.Trim -/
def strings_Trim (E : Env) (P : Program) (a0 a1 : AV) (H : AH) (R : Kt) : Prop :=
  wGet (binA .eql a0 (.val (.string ⟨#[]⟩))) H fun t8 H =>
  wGuard t8 false H (fun k => k a1 H) fun t10 H =>
  wGuard t8 false H (fun k => wGet (binA .eql t10 (.val (.string ⟨#[]⟩))) H k) fun t11 H =>
  wGet (pickA t8 (.val (.bool true)) t11) H fun t12 H =>
  wIf t12 (
    R a0 H) (
    wGet (lenS a1) H fun t15 H =>
    wGet (binA .eql t15 (.val (.int .i64 1))) H fun t16 H =>
    wGuard t16 true H (fun k => k a1 H) fun t18 H =>
    wGuard t16 true H (fun k => wGet (idxStr t18 (.val (.int .i64 0))) H k) fun t19 H =>
    wGuard t16 true H (fun k => wGet (binA .lss t19 (.val (.int .u8 128))) H k) fun t20 H =>
    wGet (pickA t16 t20 (.val (.bool false))) H fun t21 H =>
    wIf t21 (
      wGet (idxStr a1 (.val (.int .i64 0))) H fun t24 H =>
      wGet (idxStr a1 (.val (.int .i64 0))) H fun t27 H =>
      wCall E P 6 [a0, t24] H fun t25 H =>
      wCall E P 7 [t25, t27] H fun t28 H =>
      R t28 H) (
      wCall E P 8 [a1] H fun t31 H =>
      wGet (extractA t31 0) H fun t32 H =>
      wGet (extractA t31 1) H fun t33 H =>
      wNew 256 (some (List.replicate 256 (.val (.bool false)))) H fun t5 H =>
      wPut (storeN 256 t5 t32 H) fun _u H =>
      wIf t33 (
        wCall E P 9 [a0, t5] H fun t36 H =>
        wCall E P 10 [t36, t5] H fun t37 H =>
        R t37 H) (
        wCall E P 11 [a0, a1] H fun t40 H =>
        wCall E P 12 [t40, a1] H fun t42 H =>
        R t42 H)))

/-- slices.Contains[[]string,string] -/
def slices_Contains_Lstring_string (E : Env) (P : Program) (a0 a1 : AV) (H : AH) (R : Kt) : Prop :=
  wCall E P 13 [a0, a1] H fun t7 H =>
  wGet (binA .geq t7 (.val (.int .i64 0))) H fun t8 H =>
  R t8 H

/-- strings.trimLeftByte -/
def strings_trimLeftByte (E : Env) (P : Program) (a0 a1 : AV) (H : AH) (R : Kt) : Prop :=
  wLoop 1 (fun I1 => I1 a0 H) fun I1 t0 H =>
    wGet (lenS t0) H fun t6 H =>
    wGet (binA .gtr t6 (.val (.int .i64 0))) H fun t7 H =>
    wGuard t7 true H (fun k => k t0 H) fun t9 H =>
    wGuard t7 true H (fun k => wGet (idxStr t9 (.val (.int .i64 0))) H k) fun t10 H =>
    wGuard t7 true H (fun k => k a1 H) fun t11 H =>
    wGuard t7 true H (fun k => wGet (binA .eql t10 t11) H k) fun t12 H =>
    wGet (pickA t7 t12 (.val (.bool false))) H fun t13 H =>
    wIf t13 (
      wGet (sliceS t0 (some (.val (.int .i64 1))) none) H fun t15 H =>
      I1 t15 H) (
      R t0 H)

/-- strings.trimRightByte -/
def strings_trimRightByte (E : Env) (P : Program) (a0 a1 : AV) (H : AH) (R : Kt) : Prop :=
  wLoop 1 (fun I1 => I1 a0 H) fun I1 t0 H =>
    wGet (lenS t0) H fun t6 H =>
    wGet (binA .gtr t6 (.val (.int .i64 0))) H fun t7 H =>
    wGuard t7 true H (fun k => k t0 H) fun t9 H =>
    wGuard t7 true H (fun k => k t0 H) fun t10 H =>
    wGuard t7 true H (fun k => wGet (lenS t10) H k) fun t11 H =>
    wGuard t7 true H (fun k => wGet (binA .sub t11 (.val (.int .i64 1))) H k) fun t12 H =>
    wGuard t7 true H (fun k => wGet (idxStr t9 t12) H k) fun t13 H =>
    wGuard t7 true H (fun k => k a1 H) fun t14 H =>
    wGuard t7 true H (fun k => wGet (binA .eql t13 t14) H k) fun t15 H =>
    wGet (pickA t7 t15 (.val (.bool false))) H fun t16 H =>
    wIf t16 (
      wGet (lenS t0) H fun t19 H =>
      wGet (binA .sub t19 (.val (.int .i64 1))) H fun t20 H =>
      wGet (sliceS t0 none (some t20)) H fun t21 H =>
      I1 t21 H) (
      R t0 H)

/-- strings.makeASCIISet -/
def strings_makeASCIISet (E : Env) (P : Program) (a0 : AV) (H : AH) (R : Kt) : Prop :=
  wNew 256 (some (List.replicate 256 (.val (.bool false)))) H fun t2 H =>
  wLoop 1 (fun I1 => I1 (.val (.int .i64 0)) H) fun I1 t4 H =>
    wGet (lenS a0) H fun t8 H =>
    wGet (binA .lss t4 t8) H fun t9 H =>
    wIf t9 (
      wGet (idxStr a0 t4) H fun t14 H =>
      wGet (binA .geq t14 (.val (.int .u8 128))) H fun t16 H =>
      wIf t16 (
        wGet (loadN 256 t2 H) H fun t17 H =>
        wPut (storeN 256 t2 t17 H) fun _u H =>
        wGet (retPack [loadN 256 t2 H, some (.val (.bool false))]) H R) (
        wGet (iaddrArr 1 256 t2 t14) H fun t19 H =>
        wPut (store1 t19 (.val (.bool true)) H) fun _u H =>
        wGet (binA .add t4 (.val (.int .i64 1))) H fun t11 H =>
        I1 t11 H)) (
      wGet (loadN 256 t2 H) H fun t20 H =>
      wPut (storeN 256 t2 t20 H) fun _u H =>
      wGet (retPack [loadN 256 t2 H, some (.val (.bool true))]) H R)

/-- strings.trimLeftASCII -/
def strings_trimLeftASCII (E : Env) (P : Program) (a0 a1 : AV) (H : AH) (R : Kt) : Prop :=
  wJoin 1 (fun J1 =>
    wLoop 1 (fun I2 => I2 a0 H) fun I2 t0 H =>
      wGet (lenS t0) H fun t6 H =>
      wGet (binA .gtr t6 (.val (.int .i64 0))) H fun t7 H =>
      wIf t7 (
        wGet (idxStr t0 (.val (.int .i64 0))) H fun t10 H =>
        wCall E P 14 [a1, t10] H fun t11 H =>
        wGet (unA .not t11) H fun t12 H =>
        wIf t12 (
          J1 t0 H) (
          wGet (sliceS t0 (some (.val (.int .i64 1))) none) H fun t14 H =>
          I2 t14 H)) (
        J1 t0 H)) fun t0_1 H =>
    R t0_1 H

/-- strings.trimRightASCII -/
def strings_trimRightASCII (E : Env) (P : Program) (a0 a1 : AV) (H : AH) (R : Kt) : Prop :=
  wJoin 1 (fun J1 =>
    wLoop 1 (fun I2 => I2 a0 H) fun I2 t0 H =>
      wGet (lenS t0) H fun t6 H =>
      wGet (binA .gtr t6 (.val (.int .i64 0))) H fun t7 H =>
      wIf t7 (
        wGet (lenS t0) H fun t11 H =>
        wGet (binA .sub t11 (.val (.int .i64 1))) H fun t12 H =>
        wGet (idxStr t0 t12) H fun t13 H =>
        wCall E P 14 [a1, t13] H fun t14 H =>
        wGet (unA .not t14) H fun t15 H =>
        wIf t15 (
          J1 t0 H) (
          wGet (lenS t0) H fun t18 H =>
          wGet (binA .sub t18 (.val (.int .i64 1))) H fun t19 H =>
          wGet (sliceS t0 none (some t19)) H fun t20 H =>
          I2 t20 H)) (
        J1 t0 H)) fun t0_1 H =>
    R t0_1 H

/-- slices.Index[[]string,string] -/
def slices_Index_Lstring_string (E : Env) (P : Program) (a0 a1 : AV) (H : AH) (R : Kt) : Prop :=
  wGet (lenA a0) H fun t7 H =>
  wLoop 1 (fun I1 => I1 (.val (.int .i64 0)) H) fun I1 t8 H =>
    wGet (binA .lss t8 t7) H fun t9 H =>
    wIf t9 (
      wGet (iaddr 1 a0 t8) H fun t14 H =>
      wGet (load1 t14 H) H fun t15 H =>
      wGet (binA .eql a1 t15) H fun t16 H =>
      wIf t16 (
        R t8 H) (
        wGet (binA .add t8 (.val (.int .i64 1))) H fun t18 H =>
        I1 t18 H)) (
      R (.val (.int .i64 (-1))) H)

/-- (*strings.asciiSet).contains -/
def pstrings_asciiSet_contains (E : Env) (P : Program) (a0 a1 : AV) (H : AH) (R : Kt) : Prop :=
  wGet (nilA a0) H fun t7 H =>
  wGet (iaddrArr 1 256 t7 a1) H fun t8 H =>
  wGet (load1 t8 H) H fun t9 H =>
  R t9 H

/-- strings.ContainsRune -/
def strings_ContainsRune (E : Env) (P : Program) (a0 a1 : AV) (H : AH) (R : Kt) : Prop :=
  wCall E P 19 [a0, a1] H fun t7 H =>
  wGet (binA .geq t7 (.val (.int .i64 0))) H fun t8 H =>
  R t8 H

/-- strings.IndexByte -/
def strings_IndexByte (E : Env) (P : Program) (a0 a1 : AV) (H : AH) (R : Kt) : Prop :=
  wCall E P 23 [a0, a1] H fun t7 H =>
  R t7 H

/-- unicode/utf8.ValidRune -/
def unicode_utf8_ValidRune (E : Env) (P : Program) (a0 : AV) (H : AH) (R : Kt) : Prop :=
  wGet (binA .leq (.val (.int .i32 0)) a0) H fun t5 H =>
  wGuard t5 true H (fun k => k a0 H) fun t7 H =>
  wGuard t5 true H (fun k => wGet (binA .lss t7 (.val (.int .i32 55296))) H k) fun t8 H =>
  wGet (pickA t5 t8 (.val (.bool false))) H fun t9 H =>
  wIf t9 (
    R (.val (.bool true)) H) (
    wGet (binA .lss (.val (.int .i32 57343)) a0) H fun t12 H =>
    wGuard t12 true H (fun k => k a0 H) fun t14 H =>
    wGuard t12 true H (fun k => wGet (binA .leq t14 (.val (.int .i32 1114111))) H k) fun t15 H =>
    wGet (pickA t12 t15 (.val (.bool false))) H fun t16 H =>
    wIf t16 (
      R (.val (.bool true)) H) (
      R (.val (.bool false)) H))

end Go.Sc.F
namespace Go.Sc
open Go
set_option linter.unusedSimpArgs false
set_option linter.unusedVariables false
section
variable {E : Env} {P : Program}
theorem IndexS_spec (hB : Body2 E P 13 F.slices_Index_Lstring_string) (l : List Str) (s : Str) (hl : l.length < 1099511627776) : FX E P 13 [Lm S l, S s] (Z (idx l s)) := by
  refine FX.of' ⟨closed_S l, trivial, trivial⟩ trivial fun n R hR => hB _ _ _ _ ?_
  unfold F.slices_Index_Lstring_string
  simp only [nd0, Y1n, Y1o, Y1p, Y1q, Y1w, Y1x, Y1y, Y1z, Y20, Y21, Y28, Y2a, AV.cells?, Nat.reduceAdd, Nat.reduceMul]
  refine wLoop.one (fun m t H => ∃ pre rest, l = pre ++ rest ∧ m = rest.length ∧ t = Z pre.length ∧ s ∉ pre) l.length (gh1.mk ⟨[], l, rfl, rfl, rfl, by simp⟩) ?_
  rintro m t H ⟨pre, rest, rfl, rfl, rfl, hs⟩
  simp only [nd0, Y1n, Y1o, Y1p, Y1q, Y1w, Y1x, Y1y, Y1z, Y20, Y21, Y28, Y2a, AV.cells?, Nat.reduceAdd, Nat.reduceMul]
  cases rest with
  | nil =>
    simp only [nd0, Y1n, Y1o, Y1p, Y1q, Y1w, Y1x, Y1y, Y1z, Y20, Y21, Y28, Y2a, AV.cells?, Nat.reduceAdd, Nat.reduceMul, List.append_nil, Int.lt_irrefl]
    exact hR _ _ (by rw [idx, if_neg (by simpa using hs)])
  | cons x rest =>
    have h1 : ((pre.length : Int) < ((pre ++ x :: rest).length : Int)) := by simp; omega
    simp only [nd0, Y1n, Y1o, Y1p, Y1q, Y1w, Y1x, Y1y, Y1z, Y20, Y21, Y28, Y2a, AV.cells?, Nat.reduceAdd, Nat.reduceMul, h1]
    rw [iaddr_Nn (by simp)]
    simp only [nd0, Y1n, Y1o, Y1p, Y1q, Y1w, Y1x, Y1y, Y1z, Y20, Y21, Y28, Y2a, AV.cells?, Nat.reduceAdd, Nat.reduceMul, at_mid]
    by_cases hx : s = x
    · subst hx
      simp only [nd0, Y1n, Y1o, Y1p, Y1q, Y1w, Y1x, Y1y, Y1z, Y20, Y21, Y28, Y2a, AV.cells?, Nat.reduceAdd, Nat.reduceMul]
      exact hR _ _ (by rw [idx_app hs])
    · have : ¬ (s = x) := hx
      simp only [nd0, Y1n, Y1o, Y1p, Y1q, Y1w, Y1x, Y1y, Y1z, Y20, Y21, Y28, Y2a, AV.cells?, Nat.reduceAdd, Nat.reduceMul, this]
      rw [binA_succ (by simp at hl; omega)]
      simp only [nd0, Y1n, Y1o, Y1p, Y1q, Y1w, Y1x, Y1y, Y1z, Y20, Y21, Y28, Y2a, AV.cells?, Nat.reduceAdd, Nat.reduceMul]
      exact back1.mk rest.length (by simp) ⟨pre ++ [x], rest, by simp, rfl, by simp, by simp [hs, hx]⟩
theorem ContainsS_spec (hI : ∀ (l : List Str) s, l.length < 1099511627776 → FX E P 13 [Lm S l, S s] (Z (idx l s))) (hB : Body2 E P 5 F.slices_Contains_Lstring_string) (l : List Str) (s : Str) (hl : l.length < 1099511627776) : FX E P 5 [Lm S l, S s] (Bo (decide (s ∈ l))) := by
  refine FX.of' ⟨closed_S l, trivial, trivial⟩ trivial fun n R hR => hB _ _ _ _ ?_
  unfold F.slices_Contains_Lstring_string
  refine wCall.fx (hI l s hl) fun n => ?_
  simp only [nd0, Y1n, Y1o, Y1p, Y1q, Y1w, Y1x, Y1y, Y1z, Y20, Y21, Y28, Y2a, AV.cells?, Nat.reduceAdd, Nat.reduceMul]
  refine hR _ _ ?_
  have : decide ((0 : Int) ≤ idx l s) = decide (s ∈ l) := decide_eq_decide.2 (by rw [← Int.not_lt, idx_neg, Classical.not_not])
  rw [this]

/-! ### Trim -/
/-- without the letters of 'p' at its end -/
def trimR (p : UInt8 → Bool) (s : Str) : Str := (s.reverse.dropWhile p).reverse
def trimL (p : UInt8 → Bool) (s : Str) : Str := s.dropWhile p
theorem trimR_snoc {p : UInt8 → Bool} {s : Str} {c : UInt8} : trimR p (s ++ [c]) = if p c then trimR p s else s ++ [c] := by
  simp only [trimR, List.reverse_append, List.reverse_cons, List.reverse_nil, List.nil_append, List.singleton_append, List.dropWhile_cons]
  split <;> simp
theorem snoc_of {s : Str} (h : s ≠ []) : ∃ t c, s = t ++ [c] := ⟨s.dropLast, s.getLast h, (List.dropLast_concat_getLast h).symm⟩
theorem idxS_last {t : Str} {c : UInt8} : idxStr (S (t ++ [c])) (Z t.length) = some (By c) := by
  rw [idxS (by simp)]; simp
theorem idxS_zero {s : Str} {c : UInt8} : idxStr (S (c :: s)) (Z 0) = some (By c) := by
  have := idxS (s := c :: s) (i := 0) (by simp)
  simpa using this
theorem sliceS_tail {s : Str} {c : UInt8} : sliceS (S (c :: s)) (some (Z 1)) none = some (S s) := by
  rw [sliceS_S (l := 1) (h := (c :: s).length) rfl rfl (by omega) (by simp; omega) (by simp)]
  have : ((c :: s).take ((c :: s).length : Int).toNat) = c :: s := by rw [Int.toNat_natCast, List.take_length]
  rw [this]; simp
theorem sliceS_init {s : Str} {c : UInt8} : sliceS (S (s ++ [c])) none (some (Z s.length)) = some (S s) := by
  rw [sliceS_S (l := 0) (h := s.length) rfl rfl (by omega) (by omega) (by simp; omega)]
  simp
theorem by_eq {a b : UInt8} : decide (((a.toNat : Nat) : Int) = ((b.toNat : Nat) : Int)) = decide (a = b) := decide_eq_decide.2 ⟨fun h => UInt8.toNat_inj.1 (by omega), fun h => by rw [h]⟩

theorem trimLB_spec (hB : Body2 E P 7 F.strings_trimLeftByte) (s : Str) (c : UInt8) : FX E P 7 [S s, By c] (S (trimL (· = c) s)) := by
  refine FX.of' (by simp [AV.closed, AV.closedL]) trivial fun n R hR => hB _ _ _ _ ?_
  unfold F.strings_trimLeftByte
  refine wLoop.one (fun m t H => ∃ r, t = S r ∧ m = r.length ∧ trimL (· = c) r = trimL (· = c) s) s.length (gh1.mk ⟨s, rfl, rfl, rfl⟩) ?_
  rintro m t H ⟨r, rfl, rfl, hr⟩
  simp only [nd0, Y1n, Y1o, Y1p, Y1q, Y1w, Y1x, Y1y, Y1z, Y20, Y21, Y28, Y2a, AV.cells?, Nat.reduceAdd, Nat.reduceMul]
  cases r with
  | nil =>
    simp only [nd0, Y1n, Y1o, Y1p, Y1q, Y1w, Y1x, Y1y, Y1z, Y20, Y21, Y28, Y2a, AV.cells?, Nat.reduceAdd, Nat.reduceMul, show ¬ ((0 : Int) < ((0 : Nat) : Int)) by simp]
    exact hR _ _ (by rw [← hr]; rfl)
  | cons d r =>
    have h1 : ((0 : Int) < ((r.length + 1 : Nat) : Int)) := by omega
    simp only [nd0, Y1n, Y1o, Y1p, Y1q, Y1w, Y1x, Y1y, Y1z, Y20, Y21, Y28, Y2a, AV.cells?, Nat.reduceAdd, Nat.reduceMul, h1]
    rw [idxS_zero]
    simp only [nd0, Y1n, Y1o, Y1p, Y1q, Y1w, Y1x, Y1y, Y1z, Y20, Y21, Y28, Y2a, AV.cells?, Nat.reduceAdd, Nat.reduceMul, by_eq]
    by_cases hd : d = c
    · subst hd
      simp only [nd0, Y1n, Y1o, Y1p, Y1q, Y1w, Y1x, Y1y, Y1z, Y20, Y21, Y28, Y2a, AV.cells?, Nat.reduceAdd, Nat.reduceMul]
      rw [sliceS_tail]
      simp only [nd0, Y1n, Y1o, Y1p, Y1q, Y1w, Y1x, Y1y, Y1z, Y20, Y21, Y28, Y2a, AV.cells?, Nat.reduceAdd, Nat.reduceMul]
      exact back1.mk r.length (by simp) ⟨r, rfl, rfl, by rw [← hr]; simp [trimL]⟩
    · simp only [nd0, Y1n, Y1o, Y1p, Y1q, Y1w, Y1x, Y1y, Y1z, Y20, Y21, Y28, Y2a, AV.cells?, Nat.reduceAdd, Nat.reduceMul, hd]
      exact hR _ _ (by rw [← hr]; simp [trimL, hd])
theorem trimRB_spec (hB : Body2 E P 6 F.strings_trimRightByte) (s : Str) (c : UInt8) (hs : s.length < 1099511627776) : FX E P 6 [S s, By c] (S (trimR (· = c) s)) := by
  refine FX.of' (by simp [AV.closed, AV.closedL]) trivial fun n R hR => hB _ _ _ _ ?_
  unfold F.strings_trimRightByte
  refine wLoop.one (fun m t H => ∃ r, t = S r ∧ m = r.length ∧ r.length ≤ s.length ∧ trimR (· = c) r = trimR (· = c) s) s.length (gh1.mk ⟨s, rfl, rfl, Nat.le_refl _, rfl⟩) ?_
  rintro m t H ⟨r, rfl, rfl, hle, hr⟩
  simp only [nd0, Y1n, Y1o, Y1p, Y1q, Y1w, Y1x, Y1y, Y1z, Y20, Y21, Y28, Y2a, AV.cells?, Nat.reduceAdd, Nat.reduceMul]
  by_cases h0 : r = []
  · subst h0
    simp only [nd0, Y1n, Y1o, Y1p, Y1q, Y1w, Y1x, Y1y, Y1z, Y20, Y21, Y28, Y2a, AV.cells?, Nat.reduceAdd, Nat.reduceMul, show ¬ ((0 : Int) < ((0 : Nat) : Int)) by simp]
    exact hR _ _ (by rw [← hr]; rfl)
  · obtain ⟨t, d, rfl⟩ := snoc_of h0
    simp only [List.length_append, List.length_singleton] at hle
    have h1 : ((0 : Int) < ((t.length + 1 : Nat) : Int)) := by omega
    have h2 : ((t.length + 1 : Nat) : Int) - 1 = (t.length : Int) := by omega
    simp only [nd0, Y1n, Y1o, Y1p, Y1q, Y1w, Y1x, Y1y, Y1z, Y20, Y21, Y28, Y2a, AV.cells?, Nat.reduceAdd, Nat.reduceMul, len_snoc, h1]
    rw [binA_sub (by omega), h2]
    simp only [nd0, Y1n, Y1o, Y1p, Y1q, Y1w, Y1x, Y1y, Y1z, Y20, Y21, Y28, Y2a, AV.cells?, Nat.reduceAdd, Nat.reduceMul]
    rw [idxS_last]
    simp only [nd0, Y1n, Y1o, Y1p, Y1q, Y1w, Y1x, Y1y, Y1z, Y20, Y21, Y28, Y2a, AV.cells?, Nat.reduceAdd, Nat.reduceMul, by_eq]
    by_cases hd : d = c
    · subst hd
      simp only [nd0, Y1n, Y1o, Y1p, Y1q, Y1w, Y1x, Y1y, Y1z, Y20, Y21, Y28, Y2a, AV.cells?, Nat.reduceAdd, Nat.reduceMul]
      rw [sliceS_init]
      simp only [nd0, Y1n, Y1o, Y1p, Y1q, Y1w, Y1x, Y1y, Y1z, Y20, Y21, Y28, Y2a, AV.cells?, Nat.reduceAdd, Nat.reduceMul]
      exact back1.mk t.length (by simp) ⟨t, rfl, rfl, by omega, by rw [← hr, trimR_snoc]; simp⟩
    · simp only [nd0, Y1n, Y1o, Y1p, Y1q, Y1w, Y1x, Y1y, Y1z, Y20, Y21, Y28, Y2a, AV.cells?, Nat.reduceAdd, Nat.reduceMul, hd]
      exact hR _ _ (by rw [← hr, trimR_snoc]; simp [hd])

/-- cells of a set of letters -/
def tbl (p : UInt8 → Bool) : List AV := (List.range 256).map fun i => Bo (p (UInt8.ofNat i))
theorem tbl_len (p : UInt8 → Bool) : (tbl p).length = 256 := by simp [tbl]
theorem tbl_get (p : UInt8 → Bool) (c : UInt8) : (tbl p)[c.toNat]? = some (Bo (p c)) := by
  have := c.toNat_lt
  simp only [tbl, List.getElem?_map]
  rw [List.getElem?_range (by omega)]
  simp
theorem tbl_none : tbl (fun _ => false) = List.replicate 256 (Bo false) := by
  unfold tbl
  rw [List.map_const']
  simp
theorem tbl_set (p : UInt8 → Bool) (c : UInt8) : (tbl p).set c.toNat (Bo true) = tbl (fun d => p d || decide (d = c)) := by
  apply List.ext_getElem?
  intro i
  have hc := c.toNat_lt
  rw [List.getElem?_set]
  by_cases hi : i < 256
  · have h1 : (UInt8.ofNat i).toNat = i := by simp; omega
    by_cases h : c.toNat = i
    · subst h
      rw [if_pos rfl, if_pos (by rw [tbl_len]; omega), tbl_get]; simp
    · rw [if_neg h]
      have h2 : ¬ UInt8.ofNat i = c := fun e => h (by rw [← e, h1])
      have g1 := tbl_get p (UInt8.ofNat i)
      have g2 := tbl_get (fun d => p d || decide (d = c)) (UInt8.ofNat i)
      rw [h1] at g1 g2
      rw [g1, g2]; simp [h2]
  · have : ¬ c.toNat = i := by omega
    rw [if_neg this, List.getElem?_eq_none (by rw [tbl_len]; omega), List.getElem?_eq_none (by rw [tbl_len]; omega)]
theorem tbl_scalar (p : UInt8 → Bool) : (tbl p).all AV.scalar = true := by
  rw [List.all_eq_true]
  intro x hx
  obtain ⟨i, _, rfl⟩ := List.mem_map.1 hx
  rfl
theorem tbl_closed (p : UInt8 → Bool) : AV.closedL (tbl p) := closed_map (f := fun i => Bo (p (UInt8.ofNat i))) (fun _ => by trivial) _
theorem sub_all {cs : List AV} {n : Nat} (h : cs.length = n) : subL cs 0 n = some cs := by
  subst h; simp [subL]
theorem put_all {cs xs : List AV} (h : xs.length = cs.length) : putL cs 0 xs = some xs := by
  simp [putL, h]

theorem asciiHas_spec (hB : Body2 E P 14 F.pstrings_asciiSet_contains) (p : UInt8 → Bool) (c : UInt8) : FX E P 14 [.ptrF (tbl p) 0, By c] (Bo (p c)) := by
  refine FX.of' ⟨by simpa [AV.closed] using tbl_closed p, trivial, trivial⟩ trivial fun n R hR => hB _ _ _ _ ?_
  unfold F.pstrings_asciiSet_contains
  have := c.toNat_lt
  simp only [nd0, Y1n, Y1o, Y1p, Y1q, Y1w, Y1x, Y1y, Y1z, Y20, Y21, Y28, Y2a, AV.cells?, Nat.reduceAdd, Nat.reduceMul]
  rw [iaddrArr_F (by omega)]
  simp only [nd0, Y1n, Y1o, Y1p, Y1q, Y1w, Y1x, Y1y, Y1z, Y20, Y21, Y28, Y2a, AV.cells?, Nat.reduceAdd, Nat.reduceMul, tbl_get]
  exact hR _ _ rfl
/-- letters of one byte -/
def ascii (s : Str) : Prop := ∀ c ∈ s, c < 128
theorem makeSet_spec (hB : Body1 E P 8 F.strings_makeASCIISet) (s : Str) (hs : ascii s) (hl : s.length < 1099511627776) : FX E P 8 [S s] (.tup [.agg (tbl fun c => decide (c ∈ s)), Bo true]) := by
  refine FX.of' (by simp [AV.closed, AV.closedL]) (by simp [AV.closed, AV.closedL]; exact tbl_closed _) fun n R hR => hB _ _ _ ?_
  unfold F.strings_makeASCIISet
  rw [← tbl_none]
  refine wNew.L rfl ?_
  refine wLoop.one (fun m t H => ∃ pre rest, s = pre ++ rest ∧ t = Z pre.length ∧ m = rest.length ∧ H = ⟨[.cells n 256 (tbl fun c => decide (c ∈ pre))], n + 1⟩) s.length (gh1.mk ⟨[], s, rfl, rfl, rfl, by simp⟩) ?_
  rintro m t H ⟨pre, rest, rfl, rfl, rfl, rfl⟩
  simp only [nd0, Y1n, Y1o, Y1p, Y1q, Y1w, Y1x, Y1y, Y1z, Y20, Y21, Y28, Y2a, AV.cells?, Nat.reduceAdd, Nat.reduceMul]
  cases rest with
  | nil =>
    simp only [nd0, Y1n, Y1o, Y1p, Y1q, Y1w, Y1x, Y1y, Y1z, Y20, Y21, Y28, Y2a, AV.cells?, Nat.reduceAdd, Nat.reduceMul, List.append_nil, Int.lt_irrefl]
    rw [sub_all (tbl_len _)]
    simp only [nd0, Y1n, Y1o, Y1p, Y1q, Y1w, Y1x, Y1y, Y1z, Y20, Y21, Y28, Y2a, AV.cells?, Nat.reduceAdd, Nat.reduceMul]
    rw [storeN_L (tbl_len _) (tbl_scalar _)]
    simp only [nd0, Y1n, Y1o, Y1p, Y1q, Y1w, Y1x, Y1y, Y1z, Y20, Y21, Y28, Y2a, AV.cells?, Nat.reduceAdd, Nat.reduceMul]
    rw [put_all rfl]
    simp only [nd0, Y1n, Y1o, Y1p, Y1q, Y1w, Y1x, Y1y, Y1z, Y20, Y21, Y28, Y2a, AV.cells?, Nat.reduceAdd, Nat.reduceMul]
    rw [sub_all (tbl_len _)]
    simp only [nd0, Y1n, Y1o, Y1p, Y1q, Y1w, Y1x, Y1y, Y1z, Y20, Y21, Y28, Y2a, AV.cells?, Nat.reduceAdd, Nat.reduceMul, retPack, allSome]
    exact hR _ _ (by simp)
  | cons c rest =>
    have h1 : ((pre.length : Int) < ((pre ++ c :: rest).length : Int)) := by simp; omega
    simp only [nd0, Y1n, Y1o, Y1p, Y1q, Y1w, Y1x, Y1y, Y1z, Y20, Y21, Y28, Y2a, AV.cells?, Nat.reduceAdd, Nat.reduceMul, h1]
    rw [idxS (by simp)]
    have hc : c < 128 := hs c (by simp)
    have hc2 : ¬ ((128 : Int) ≤ (c.toNat : Int)) := by
      have : c.toNat < 128 := hc
      omega
    have hc3 := c.toNat_lt
    have hg : (pre ++ c :: rest)[pre.length]'(by simp) = c := by simp
    simp only [nd0, Y1n, Y1o, Y1p, Y1q, Y1w, Y1x, Y1y, Y1z, Y20, Y21, Y28, Y2a, AV.cells?, Nat.reduceAdd, Nat.reduceMul, hg, hc2]
    rw [iaddrArr_L (by omega)]
    simp only [nd0, Y1n, Y1o, Y1p, Y1q, Y1w, Y1x, Y1y, Y1z, Y20, Y21, Y28, Y2a, AV.cells?, Nat.reduceAdd, Nat.reduceMul]
    rw [store1_L rfl]
    simp only [nd0, Y1n, Y1o, Y1p, Y1q, Y1w, Y1x, Y1y, Y1z, Y20, Y21, Y28, Y2a, AV.cells?, Nat.reduceAdd, Nat.reduceMul, tbl_len]
    rw [if_pos (by omega), tbl_set]
    simp only [nd0, Y1n, Y1o, Y1p, Y1q, Y1w, Y1x, Y1y, Y1z, Y20, Y21, Y28, Y2a, AV.cells?, Nat.reduceAdd, Nat.reduceMul]
    rw [binA_succ (by simp at hl; omega)]
    simp only [nd0, Y1n, Y1o, Y1p, Y1q, Y1w, Y1x, Y1y, Y1z, Y20, Y21, Y28, Y2a, AV.cells?, Nat.reduceAdd, Nat.reduceMul]
    refine back1.mk rest.length (by simp) ⟨pre ++ [c], rest, by simp, by simp, rfl, ?_⟩
    simp

theorem trimLA_spec (hB : Body2 E P 10 F.strings_trimLeftASCII) (hc : ∀ p c, FX E P 14 [.ptrF (tbl p) 0, By c] (Bo (p c))) (s : Str) (p : UInt8 → Bool) : FX E P 10 [S s, .ptrF (tbl p) 0] (S (trimL p s)) := by
  refine FX.of' ⟨trivial, by simpa [AV.closed] using tbl_closed p, trivial⟩ trivial fun n R hR => hB _ _ _ _ ?_
  unfold F.strings_trimLeftASCII
  refine wJoin.one (fun t H => t = S (trimL p s)) ?_ (fun t H h => hR _ _ h)
  refine wLoop.one (fun m t H => ∃ r, t = S r ∧ m = r.length ∧ trimL p r = trimL p s) s.length (gh1.mk ⟨s, rfl, rfl, rfl⟩) ?_
  rintro m t H ⟨r, rfl, rfl, hr⟩
  simp only [nd0, Y1n, Y1o, Y1p, Y1q, Y1w, Y1x, Y1y, Y1z, Y20, Y21, Y28, Y2a, AV.cells?, Nat.reduceAdd, Nat.reduceMul]
  cases r with
  | nil =>
    simp only [nd0, Y1n, Y1o, Y1p, Y1q, Y1w, Y1x, Y1y, Y1z, Y20, Y21, Y28, Y2a, AV.cells?, Nat.reduceAdd, Nat.reduceMul, show ¬ ((0 : Int) < ((0 : Nat) : Int)) by simp]
    exact gh1.mk (by rw [← hr]; rfl)
  | cons d r =>
    have h1 : ((0 : Int) < ((r.length + 1 : Nat) : Int)) := by omega
    simp only [nd0, Y1n, Y1o, Y1p, Y1q, Y1w, Y1x, Y1y, Y1z, Y20, Y21, Y28, Y2a, AV.cells?, Nat.reduceAdd, Nat.reduceMul, h1]
    rw [idxS_zero]
    simp only [nd0, Y1n, Y1o, Y1p, Y1q, Y1w, Y1x, Y1y, Y1z, Y20, Y21, Y28, Y2a, AV.cells?, Nat.reduceAdd, Nat.reduceMul]
    refine wCall.fx (hc p d) fun n => ?_
    by_cases hd : p d = true
    · simp only [nd0, Y1n, Y1o, Y1p, Y1q, Y1w, Y1x, Y1y, Y1z, Y20, Y21, Y28, Y2a, AV.cells?, Nat.reduceAdd, Nat.reduceMul, hd]
      rw [sliceS_tail]
      simp only [nd0, Y1n, Y1o, Y1p, Y1q, Y1w, Y1x, Y1y, Y1z, Y20, Y21, Y28, Y2a, AV.cells?, Nat.reduceAdd, Nat.reduceMul]
      exact back1.mk r.length (by simp) ⟨r, rfl, rfl, by rw [← hr]; simp [trimL, hd]⟩
    · simp only [nd0, Y1n, Y1o, Y1p, Y1q, Y1w, Y1x, Y1y, Y1z, Y20, Y21, Y28, Y2a, AV.cells?, Nat.reduceAdd, Nat.reduceMul, hd]
      exact gh1.mk (by rw [← hr]; simp [trimL, hd])
theorem trimRA_spec (hB : Body2 E P 9 F.strings_trimRightASCII) (hc : ∀ p c, FX E P 14 [.ptrF (tbl p) 0, By c] (Bo (p c))) (s : Str) (p : UInt8 → Bool) (hs : s.length < 1099511627776) : FX E P 9 [S s, .ptrF (tbl p) 0] (S (trimR p s)) := by
  refine FX.of' ⟨trivial, by simpa [AV.closed] using tbl_closed p, trivial⟩ trivial fun n R hR => hB _ _ _ _ ?_
  unfold F.strings_trimRightASCII
  refine wJoin.one (fun t H => t = S (trimR p s)) ?_ (fun t H h => hR _ _ h)
  refine wLoop.one (fun m t H => ∃ r, t = S r ∧ m = r.length ∧ r.length ≤ s.length ∧ trimR p r = trimR p s) s.length (gh1.mk ⟨s, rfl, rfl, Nat.le_refl _, rfl⟩) ?_
  rintro m t H ⟨r, rfl, rfl, hle, hr⟩
  simp only [nd0, Y1n, Y1o, Y1p, Y1q, Y1w, Y1x, Y1y, Y1z, Y20, Y21, Y28, Y2a, AV.cells?, Nat.reduceAdd, Nat.reduceMul]
  by_cases h0 : r = []
  · subst h0
    simp only [nd0, Y1n, Y1o, Y1p, Y1q, Y1w, Y1x, Y1y, Y1z, Y20, Y21, Y28, Y2a, AV.cells?, Nat.reduceAdd, Nat.reduceMul, show ¬ ((0 : Int) < ((0 : Nat) : Int)) by simp]
    exact gh1.mk (by rw [← hr]; rfl)
  · obtain ⟨t, d, rfl⟩ := snoc_of h0
    simp only [List.length_append, List.length_singleton] at hle
    have h1 : ((0 : Int) < ((t.length + 1 : Nat) : Int)) := by omega
    have h2 : ((t.length + 1 : Nat) : Int) - 1 = (t.length : Int) := by omega
    simp only [nd0, Y1n, Y1o, Y1p, Y1q, Y1w, Y1x, Y1y, Y1z, Y20, Y21, Y28, Y2a, AV.cells?, Nat.reduceAdd, Nat.reduceMul, len_snoc, h1]
    rw [binA_sub (by omega), h2]
    simp only [nd0, Y1n, Y1o, Y1p, Y1q, Y1w, Y1x, Y1y, Y1z, Y20, Y21, Y28, Y2a, AV.cells?, Nat.reduceAdd, Nat.reduceMul]
    rw [idxS_last]
    simp only [nd0, Y1n, Y1o, Y1p, Y1q, Y1w, Y1x, Y1y, Y1z, Y20, Y21, Y28, Y2a, AV.cells?, Nat.reduceAdd, Nat.reduceMul]
    refine wCall.fx (hc p d) fun n => ?_
    by_cases hd : p d = true
    · simp only [nd0, Y1n, Y1o, Y1p, Y1q, Y1w, Y1x, Y1y, Y1z, Y20, Y21, Y28, Y2a, AV.cells?, Nat.reduceAdd, Nat.reduceMul, hd]
      rw [sliceS_init]
      simp only [nd0, Y1n, Y1o, Y1p, Y1q, Y1w, Y1x, Y1y, Y1z, Y20, Y21, Y28, Y2a, AV.cells?, Nat.reduceAdd, Nat.reduceMul]
      exact back1.mk t.length (by simp) ⟨t, rfl, rfl, by omega, by rw [← hr, trimR_snoc]; simp [hd]⟩
    · simp only [nd0, Y1n, Y1o, Y1p, Y1q, Y1w, Y1x, Y1y, Y1z, Y20, Y21, Y28, Y2a, AV.cells?, Nat.reduceAdd, Nat.reduceMul, hd]
      exact gh1.mk (by rw [← hr, trimR_snoc]; simp [hd])
end
/-- what 'Trim' leaves -/
def trim (cut s : Str) : Str := trimL (fun c => decide (c ∈ cut)) (trimR (fun c => decide (c ∈ cut)) s)
section
variable {E : Env} {P : Program}
structure TrimBodies (E : Env) (P : Program) : Prop where
  trim : Body2 E P 4 F.strings_Trim
  rb : Body2 E P 6 F.strings_trimRightByte
  lb : Body2 E P 7 F.strings_trimLeftByte
  mkSet : Body1 E P 8 F.strings_makeASCIISet
  ra : Body2 E P 9 F.strings_trimRightASCII
  la : Body2 E P 10 F.strings_trimLeftASCII
  has : Body2 E P 14 F.pstrings_asciiSet_contains
theorem Trim_spec (B : TrimBodies E P) (s cut : Str) (hc : ascii cut) (hs : s.length < 1099511627776) (hl : cut.length < 1099511627776) : FX E P 4 [S s, S cut] (S (trim cut s)) := by
  refine FX.of' (by simp [AV.closed, AV.closedL]) trivial fun n R hR => B.trim _ _ _ _ ?_
  unfold F.strings_Trim
  by_cases h1 : s = []
  · subst h1
    simp only [nd0, Y1n, Y1o, Y1p, Y1q, Y1w, Y1x, Y1y, Y1z, Y20, Y21, Y28, Y2a, AV.cells?, Nat.reduceAdd, Nat.reduceMul, show (AV.val (.string ⟨#[]⟩)) = S [] from rfl]
    exact hR _ _ rfl
  by_cases h2 : cut = []
  · subst h2
    simp only [nd0, Y1n, Y1o, Y1p, Y1q, Y1w, Y1x, Y1y, Y1z, Y20, Y21, Y28, Y2a, AV.cells?, Nat.reduceAdd, Nat.reduceMul, show (AV.val (.string ⟨#[]⟩)) = S [] from rfl, h1]
    exact hR _ _ (by
      have : ∀ l : Str, List.dropWhile (fun _ => false) l = l := fun l => by cases l <;> rfl
      simp [trim, trimL, trimR, this])
  simp only [nd0, Y1n, Y1o, Y1p, Y1q, Y1w, Y1x, Y1y, Y1z, Y20, Y21, Y28, Y2a, AV.cells?, Nat.reduceAdd, Nat.reduceMul, show (AV.val (.string ⟨#[]⟩)) = S [] from rfl, h1, h2]
  by_cases h3 : cut.length = 1
  · obtain ⟨c, rfl⟩ := List.length_eq_one_iff.1 h3
    have hc' : c < 128 := hc c (by simp)
    have hc2 : ((c.toNat : Int) < 128) := by
      have : c.toNat < 128 := hc'
      omega
    simp only [nd0, Y1n, Y1o, Y1p, Y1q, Y1w, Y1x, Y1y, Y1z, Y20, Y21, Y28, Y2a, AV.cells?, Nat.reduceAdd, Nat.reduceMul, show (((0 + 1 : Nat) : Int) = 1) from rfl, show (((1 : Nat) : Int) = 1) from rfl]
    rw [idxS_zero]
    simp only [nd0, Y1n, Y1o, Y1p, Y1q, Y1w, Y1x, Y1y, Y1z, Y20, Y21, Y28, Y2a, AV.cells?, Nat.reduceAdd, Nat.reduceMul, hc2]
    refine wCall.fx (trimRB_spec B.rb s c hs) fun n => ?_
    refine wCall.fx (trimLB_spec B.lb _ c) fun n => ?_
    exact hR _ _ (by simp [trim])
  · have : ¬ ((cut.length : Int) = 1) := by omega
    simp only [nd0, Y1n, Y1o, Y1p, Y1q, Y1w, Y1x, Y1y, Y1z, Y20, Y21, Y28, Y2a, AV.cells?, Nat.reduceAdd, Nat.reduceMul, this]
    refine wCall.fx (makeSet_spec B.mkSet cut hc hl) fun n => ?_
    simp only [nd0, Y1n, Y1o, Y1p, Y1q, Y1w, Y1x, Y1y, Y1z, Y20, Y21, Y28, Y2a, AV.cells?, Nat.reduceAdd, Nat.reduceMul]
    refine wNew.L rfl ?_
    simp only [nd0, Y1n, Y1o, Y1p, Y1q, Y1w, Y1x, Y1y, Y1z, Y20, Y21, Y28, Y2a, AV.cells?, Nat.reduceAdd, Nat.reduceMul]
    rw [storeN_L (tbl_len _) (tbl_scalar _)]
    simp only [nd0, Y1n, Y1o, Y1p, Y1q, Y1w, Y1x, Y1y, Y1z, Y20, Y21, Y28, Y2a, AV.cells?, Nat.reduceAdd, Nat.reduceMul]
    rw [put_all (by rw [tbl_len, List.length_replicate])]
    simp only [nd0, Y1n, Y1o, Y1p, Y1q, Y1w, Y1x, Y1y, Y1z, Y20, Y21, Y28, Y2a, AV.cells?, Nat.reduceAdd, Nat.reduceMul]
    have hf : ∀ n m g : Nat, FkL ⟨[.cells g 256 (tbl fun c => decide (c ∈ cut))], m⟩ S0 [.ptrL 0 0 g] [.ptrF (tbl fun c => decide (c ∈ cut)) 0] := fun n m g =>
      .cons (.ptrF 256 rfl rfl (by rw [List.drop_zero, List.take_of_length_le (by rw [tbl_len]; omega)]; exact .same _)) .nil
    refine wCall.bo (trimRA_spec B.ra (asciiHas_spec B.has) s (fun c => decide (c ∈ cut)) hs) trivial (.cons (.same _) (hf 0 _ _)) fun n1 => ?_
    refine wCall.bo (trimLA_spec B.la (asciiHas_spec B.has) _ (fun c => decide (c ∈ cut))) trivial (.cons (.same _) (hf 0 _ _)) fun n1 => ?_
    exact hR _ _ rfl
end
end Go.Sc
