/- CoverPairs: contracts out of the kit's shelf, laid here. VARIABLES: a known pair of numbers. (of the seat YtldomhanfhfonaaGreatDoor) -/
import Derived.Test.YtldomhanfhfonaaGreatDoorCore10
import Derived.Shelf.Small.Strs
import Derived.Shelf.Strings.Search3
import Derived.Shelf.Sort.Plain
import Derived.Shelf.Slices.CompactS
import Derived.Shelf.Slices.In.SortNone
import Derived.KernelRfl
import Derived.ChangeSame
import Derived.ChangeAt
import Derived.Below
set_option maxRecDepth 100000
namespace Go.Proofs
open Go.Shelf
def Tryz.lays137_ren : Go.Shelf.Ren := ⟨fun | 137 => 85 | 217 => 80 | 266 => 96 | n => n, fun | 9 => 9 | 5 => 5 | 3 => 3 | n => n, fun | n => n⟩
theorem Tryz.lays137 : Go.Proofs.Lays.n137 Tryz.prog Tryz.lays137_ren := {
  mixed := by kernel_rfl
  f137 := Tryz.func85.trans (congrArg some (by kernel_rfl))
  f217 := Tryz.func80.trans (congrArg some (by kernel_rfl))
  f266 := Tryz.func96.trans (congrArg some (by kernel_rfl))
  t3 := Tryz.underlying3
  a3 := Tryz.isAgg3
  z3 := Tryz.sizeOf3
  v3 := Tryz.zeroValue3
  t5 := Tryz.underlying5
  a5 := Tryz.isAgg5
  z5 := Tryz.sizeOf5
  v5 := Tryz.zeroValue5
  t9 := Tryz.underlying9
  a9 := Tryz.isAgg9
  z9 := Tryz.sizeOf9
  v9 := Tryz.zeroValue9 }
open Go.RowKit in
theorem Tryz.strings_IndexByte (s : ByteArray) (c : Int) (w : World) :
    Calls Tryz.prog 85 #[.string s, .int .u8 c] w fun e w' => e = .returned (.int .i64 (Lib.indexByte s.data.toList c.toNat.toUInt8)) ∧ w' = w := Any.strings_IndexByte Tryz.lays137 s c w
def Tryz.lays144_ren : Go.Shelf.Ren := ⟨fun | 144 => 40 | 143 => 54 | 219 => 61 | 217 => 80 | 225 => 81 | 224 => 82 | 267 => 83 | 266 => 96 | 314 => 97 | n => n, fun | 9 => 9 | 4 => 4 | 3 => 3 | 5 => 5 | 46 => 38 | 146 => 161 | 51 => 124 | n => n, fun | 1 => 2 | n => n⟩
theorem Tryz.lays144 : Go.Proofs.Lays.n144 Tryz.prog Tryz.lays144_ren := {
  mixed := by kernel_rfl
  f143 := Tryz.func54.trans (congrArg some (by kernel_rfl))
  f144 := Tryz.func40.trans (congrArg some (by kernel_rfl))
  f217 := Tryz.func80.trans (congrArg some (by kernel_rfl))
  f219 := Tryz.func61.trans (congrArg some (by kernel_rfl))
  f224 := Tryz.func82.trans (congrArg some (by kernel_rfl))
  f225 := Tryz.func81.trans (congrArg some (by kernel_rfl))
  f266 := Tryz.func96.trans (congrArg some (by kernel_rfl))
  f267 := Tryz.func83.trans (congrArg some (by kernel_rfl))
  f314 := Tryz.func97.trans (congrArg some (by kernel_rfl))
  t3 := Tryz.underlying3
  a3 := Tryz.isAgg3
  z3 := Tryz.sizeOf3
  v3 := Tryz.zeroValue3
  t4 := Tryz.underlying4
  a4 := Tryz.isAgg4
  z4 := Tryz.sizeOf4
  v4 := Tryz.zeroValue4
  t5 := Tryz.underlying5
  a5 := Tryz.isAgg5
  z5 := Tryz.sizeOf5
  v5 := Tryz.zeroValue5
  t9 := Tryz.underlying9
  a9 := Tryz.isAgg9
  z9 := Tryz.sizeOf9
  v9 := Tryz.zeroValue9
  t46 := Tryz.underlying38
  a46 := Tryz.isAgg38
  z46 := Tryz.sizeOf38
  v46 := Tryz.zeroValue38
  t51 := Tryz.underlying124
  a51 := Tryz.isAgg124
  z51 := Tryz.sizeOf124
  v51 := Tryz.zeroValue124
  t146 := Tryz.underlying161
  a146 := Tryz.isAgg161
  z146 := Tryz.sizeOf161
  v146 := Tryz.zeroValue161
  g1 := by kernel_rfl }
open Go.RowKit Go.Lib in
theorem Tryz.strings_Contains (s sub : ByteArray) (m : Int) (w : World) (hs : s.size < 4294967281) (hm : w.cell? ⟨2, 0, none⟩ = some (.int .i64 m)) :
    Calls Tryz.prog 40 #[.string s, .string sub] w fun e w' => e = .returned (.bool (Lib.contains s.data.toList sub.data.toList)) ∧ w' = w := Any.strings_Contains Tryz.lays144 s sub m w hs hm
def Tryz.lays190_ren : Go.Shelf.Ren := ⟨fun | 190 => 49 | 125 => 59 | 258 => 58 | 128 => 74 | 129 => 75 | 302 => 65 | 303 => 66 | 304 => 67 | 305 => 68 | 306 => 69 | 307 => 70 | 308 => 71 | 309 => 72 | 310 => 73 | 333 => 87 | 329 => 88 | 330 => 89 | 334 => 90 | 335 => 91 | 336 => 92 | 344 => 101 | n => n, fun | 31 => 34 | 9 => 9 | 3 => 3 | 46 => 38 | 0 => 0 | 51 => 124 | 53 => 126 | 4 => 4 | 183 => 117 | 182 => 116 | 131 => 121 | 5 => 5 | 218 => 143 | 222 => 147 | 228 => 166 | 229 => 167 | n => n, fun | n => n⟩
theorem Tryz.lays190 : Go.Proofs.Lays.n190 Tryz.prog Tryz.lays190_ren := {
  mixed := by kernel_rfl
  f125 := Tryz.func59.trans (congrArg some (by kernel_rfl))
  f128 := Tryz.func74.trans (congrArg some (by kernel_rfl))
  f129 := Tryz.func75.trans (congrArg some (by kernel_rfl))
  f190 := Tryz.func49.trans (congrArg some (by kernel_rfl))
  f258 := Tryz.func58.trans (congrArg some (by kernel_rfl))
  f302 := Tryz.func65.trans (congrArg some (by kernel_rfl))
  f303 := Tryz.func66.trans (congrArg some (by kernel_rfl))
  f304 := Tryz.func67.trans (congrArg some (by kernel_rfl))
  f305 := Tryz.func68.trans (congrArg some (by kernel_rfl))
  f306 := Tryz.func69.trans (congrArg some (by kernel_rfl))
  f307 := Tryz.func70.trans (congrArg some (by kernel_rfl))
  f308 := Tryz.func71.trans (congrArg some (by kernel_rfl))
  f309 := Tryz.func72.trans (congrArg some (by kernel_rfl))
  f310 := Tryz.func73.trans (congrArg some (by kernel_rfl))
  f329 := Tryz.func88.trans (congrArg some (by kernel_rfl))
  f330 := Tryz.func89.trans (congrArg some (by kernel_rfl))
  f333 := Tryz.func87.trans (congrArg some (by kernel_rfl))
  f334 := Tryz.func90.trans (congrArg some (by kernel_rfl))
  f335 := Tryz.func91.trans (congrArg some (by kernel_rfl))
  f336 := Tryz.func92.trans (congrArg some (by kernel_rfl))
  f344 := Tryz.func101.trans (congrArg some (by kernel_rfl))
  t0 := Tryz.underlying0
  a0 := Tryz.isAgg0
  z0 := Tryz.sizeOf0
  v0 := Tryz.zeroValue0
  t3 := Tryz.underlying3
  a3 := Tryz.isAgg3
  z3 := Tryz.sizeOf3
  v3 := Tryz.zeroValue3
  t4 := Tryz.underlying4
  a4 := Tryz.isAgg4
  z4 := Tryz.sizeOf4
  v4 := Tryz.zeroValue4
  t5 := Tryz.underlying5
  a5 := Tryz.isAgg5
  z5 := Tryz.sizeOf5
  v5 := Tryz.zeroValue5
  t9 := Tryz.underlying9
  a9 := Tryz.isAgg9
  z9 := Tryz.sizeOf9
  v9 := Tryz.zeroValue9
  t31 := Tryz.underlying34
  a31 := Tryz.isAgg34
  z31 := Tryz.sizeOf34
  v31 := Tryz.zeroValue34
  t46 := Tryz.underlying38
  a46 := Tryz.isAgg38
  z46 := Tryz.sizeOf38
  v46 := Tryz.zeroValue38
  t51 := Tryz.underlying124
  a51 := Tryz.isAgg124
  z51 := Tryz.sizeOf124
  v51 := Tryz.zeroValue124
  t53 := Tryz.underlying126
  a53 := Tryz.isAgg126
  z53 := Tryz.sizeOf126
  v53 := Tryz.zeroValue126
  t131 := Tryz.underlying121
  a131 := Tryz.isAgg121
  z131 := Tryz.sizeOf121
  v131 := Tryz.zeroValue121
  t182 := Tryz.underlying116
  a182 := Tryz.isAgg116
  z182 := Tryz.sizeOf116
  v182 := Tryz.zeroValue116
  t183 := Tryz.underlying117
  a183 := Tryz.isAgg117
  z183 := Tryz.sizeOf117
  v183 := Tryz.zeroValue117
  t218 := Tryz.underlying143
  a218 := Tryz.isAgg143
  z218 := Tryz.sizeOf143
  v218 := Tryz.zeroValue143
  t222 := Tryz.underlying147
  a222 := Tryz.isAgg147
  z222 := Tryz.sizeOf147
  v222 := Tryz.zeroValue147
  t228 := Tryz.underlying166
  a228 := Tryz.isAgg166
  z228 := Tryz.sizeOf166
  v228 := Tryz.zeroValue166
  t229 := Tryz.underlying167
  a229 := Tryz.isAgg167
  z229 := Tryz.sizeOf167
  v229 := Tryz.zeroValue167 }
open Go.Sort Go.RowKit in
theorem Tryz.slices_Sort_string (blk off cap : Nat) (ss : List (List UInt8)) (w : World) (hH : Holds encStr w blk off ss.toArray) (hblk : blk < w.heap.size) (hsz : ss.length < 4611686018427387904) :
    Calls Tryz.prog 49 #[.slice (some ⟨blk, off, none⟩) ss.length cap] w fun e w' =>
      e = .returned (.tuple #[]) ∧ ∃ n os, w' = grow (putRow encStr (Sort.ahead w n) blk off (ss.mergeSort fun x y => decide (x ≤ y)).toArray) os := Any.slices_Sort_string Tryz.lays190 blk off cap ss w hH hblk hsz
def Tryz.lays194_ren : Go.Shelf.Ren := ⟨fun | 194 => 50 | n => n, fun | 31 => 34 | 9 => 9 | 3 => 3 | 4 => 4 | 0 => 0 | n => n, fun | n => n⟩
theorem Tryz.lays194 : Go.Proofs.Lays.n194 Tryz.prog Tryz.lays194_ren := {
  mixed := by kernel_rfl
  f194 := Tryz.func50.trans (congrArg some (by kernel_rfl))
  t0 := Tryz.underlying0
  a0 := Tryz.isAgg0
  z0 := Tryz.sizeOf0
  v0 := Tryz.zeroValue0
  t3 := Tryz.underlying3
  a3 := Tryz.isAgg3
  z3 := Tryz.sizeOf3
  v3 := Tryz.zeroValue3
  t4 := Tryz.underlying4
  a4 := Tryz.isAgg4
  z4 := Tryz.sizeOf4
  v4 := Tryz.zeroValue4
  t9 := Tryz.underlying9
  a9 := Tryz.isAgg9
  z9 := Tryz.sizeOf9
  v9 := Tryz.zeroValue9
  t31 := Tryz.underlying34
  a31 := Tryz.isAgg34
  z31 := Tryz.sizeOf34
  v31 := Tryz.zeroValue34 }
open Go.RowKit Go.Lib Go.Sort in
theorem Tryz.slices_Compact_string (blk off cap : Nat) (zs : List (List UInt8)) (w : World) (hH : Holds encStr w blk off zs.toArray) (hsz : zs.length ≤ 9223372036854775807) (hcap : zs.length ≤ cap) :
    Calls Tryz.prog 50 #[.slice (some ⟨blk, off, none⟩) zs.length cap] w fun e w' => e = .returned (.slice (some ⟨blk, off, none⟩) (Lib.compact zs).length cap) ∧ ∃ q, w' = putRow encStr (Sort.ahead w q) blk off (Lib.compact zs ++ List.replicate (zs.length - (Lib.compact zs).length) []).toArray := Any.slices_Compact_string Tryz.lays194 blk off cap zs w hH hsz hcap
open Go.RowKit Go.Lib Go.Sort in
theorem Tryz.slices_Compact_string_empty (a : Option Addr) (cap : Nat) (w : World) :
    Calls Tryz.prog 50 #[.slice a 0 cap] w fun e w' => e = .returned (.slice a 0 cap) ∧ w' = w := Any.slices_Compact_string_empty Tryz.lays194 a cap w
open Go.RowKit Go.Sort in
theorem Tryz.slices_Sort_string_none (p : Option Addr) (cap : Nat) (w : World) :
    Calls Tryz.prog 49 #[.slice p 0 cap] w fun e w' => e = .returned (.tuple #[]) ∧ w' = w := Any.slices_Sort_string_none Tryz.lays190 p cap w
end Go.Proofs
namespace Go.Proofs.YtldomhanfhfonaaGreatDoor
open Go Go.Sc
variable [Inhabited Mx]
theorem ixB (s : Str) (c : UInt8) : FX E Tryz.prog 21 [S s, By c] (Z (idx s c)) := FX.indexByte (show Tryz.prog.funcs[E.fn 21]? = some Tryz.f85 from Tryz.func85) (by kernel_rfl) (by kernel_rfl) Tryz.strings_IndexByte s c
theorem conB (s t : Str) (hs : s.length ≤ 1000) : FX E Tryz.prog 199 [S s, S t] (Bo (Lib.contains s t)) := FX.contains (gk := 6) (show Tryz.prog.funcs[E.fn 199]? = some Tryz.f40 from Tryz.func40) (by kernel_rfl) (by kernel_rfl) (show E.gl 6 = some [.val (.int .i64 (default : Mx).v)] from rfl) Tryz.strings_Contains s t hs
theorem sortNB : FX E Tryz.prog 194 [nilS] (.tup []) := FX.sortNil (show Tryz.prog.funcs[E.fn 194]? = some Tryz.f49 from Tryz.func49) (by kernel_rfl) (by kernel_rfl) Tryz.slices_Sort_string_none
theorem sortCB {H : AH} {b g : Nat} {l : List Str} (hl : l.length < 4611686018427387904) (hb : H.bs[b]? = some (.cells g 1 (l.map fun s => S s))) : ACalls E Tryz.prog 194 [.slL b 0 l.length g] H fun r H' => r = .tup [] ∧ H' = ⟨H.bs.set b (.cells g 1 ((sortS l).map fun s => S s)), H.ctr⟩ := sort_calls (show Tryz.prog.funcs[E.fn 194]? = some Tryz.f49 from Tryz.func49) (by kernel_rfl) (by kernel_rfl) Tryz.slices_Sort_string_none Tryz.slices_Sort_string hl hb
theorem compNB : FX E Tryz.prog 195 [nilS] nilS := FX.compactNil (show Tryz.prog.funcs[E.fn 195]? = some Tryz.f50 from Tryz.func50) (by kernel_rfl) (by kernel_rfl) Tryz.slices_Compact_string_empty
theorem compCB {H : AH} {b g : Nat} {l : List Str} (hl : l.length < 4611686018427387904) (hb : H.bs[b]? = some (.cells g 1 (l.map fun s => S s))) : ACalls E Tryz.prog 195 [.slL b 0 l.length g] H fun r H' => r = .slL b 0 (packS l).length g ∧ H' = ⟨H.bs.set b (.cells g 1 ((packS l ++ List.replicate (l.length - (packS l).length) []).map fun s => S s)), H.ctr⟩ := compact_calls (show Tryz.prog.funcs[E.fn 195]? = some Tryz.f50 from Tryz.func50) (by kernel_rfl) (by kernel_rfl) Tryz.slices_Compact_string_empty Tryz.slices_Compact_string hl hb
end Go.Proofs.YtldomhanfhfonaaGreatDoor
namespace Go.Sc
open Go Go.ChangeShapes Go.WideShapes Go.ChangeAt Go.RowKit
section
variable {P : Program} {W : World} {E : Env}
theorem laid_struct2 {l : List (String × DataW Unit)} {n : String} {a b : Int} {g : Nat} {ty : TypeId} {f0 f1 : Field} (h : laidMetH P l W) (hm : (n, DataW.agg [.lit (.int .i64 a), .lit (.int .i64 b)]) ∈ l) (hn : P.globalNamed n = some g) (ht : (P.globals[g]?).map (·.type) = some ty)
    (hu : P.underlying ty = some (.struct #[f0, f1])) (e0 : P.underlying f0.type = some (.int .i64)) (e1 : P.underlying f1.type = some (.int .i64)) (o0 : f0.offset = 0) (o1 : f1.offset = 1) (c0 : P.cellsOf f0.type = 1) (c1 : P.cellsOf f1.type = 1) : CRel E (Cx.start W) [Z a, Z b] g 0 := by
  obtain ⟨h1, _⟩ := laidMetH_iff.1 h
  obtain ⟨ps, h2, _⟩ := h1
  obtain ⟨g', t', cs, fuel, p, k1, k2, k3, k4⟩ := laid_at (l := l) h2 (List.mem_filter.2 ⟨hm, by rfl⟩)
  rw [hn] at k1; injection k1 with k1; subst k1
  rw [ht] at k2; injection k2 with k2; subst k2
  obtain ⟨y0, y1, m', hx, hl, x0, x1⟩ := trod_struct2 hu k4
  simp only [World.var?, hn, Option.bind_some] at k3
  split at k3
  · rename_i cs' ty' fr hW
    injection k3 with k3; subst k3
    have hlt : g < W.heap.size := by
      by_cases h : g < W.heap.size
      · exact h
      · rw [Array.getElem?_eq_none (by omega)] at hW; cases hW
    injection hx with hx1 hx2
    injection hx1 with hx1
    injection hx1 with hxa hx1
    injection hx1 with hxb _
    rw [o0, c0] at x0
    rw [o1, c1] at x1
    obtain ⟨w0, hw0, hv0, _⟩ := DataW.trod_int e0 x0
    obtain ⟨w1, hw1, hv1, _⟩ := DataW.trod_int e1 x1
    rw [hv0] at hxa
    rw [hv1] at hxb
    injection hxa with hxa
    injection hxa with _ hxa
    injection hxb with hxb
    injection hxb with _ hxb
    subst hxa; subst hxb
    have q0 : cs'.toList[0]? = some (.int .i64 a) := by
      have := congrArg (·[0]?) hw0
      simpa using this
    have q1 : cs'.toList[1]? = some (.int .i64 b) := by
      have := congrArg (·[0]?) hw1
      simp only [List.getElem?_take, List.getElem?_drop, List.getElem?_cons_zero] at this
      simpa using this
    refine crel_start hlt fun i y hi => ?_
    match i with
    | 0 => simp only [List.getElem?_cons_zero, Option.some.injEq] at hi; subst hi; exact ⟨.int .i64 a, by simp only [World.cell?, hW]; simpa using q0, by simp [VRel]⟩
    | 1 => simp only [List.getElem?_cons_succ, List.getElem?_cons_zero, Option.some.injEq] at hi; subst hi; exact ⟨.int .i64 b, by simp only [World.cell?, hW]; simpa using q1, by simp [VRel]⟩
    | i + 2 => simp at hi
  · cases k3
end
theorem least_isNone (l : List String) : (Instr.least l).isNone = l.isEmpty := by
  cases l <;> simp [Instr.least]
theorem missing_isNone (want : Array (String × TypeId)) (got : Array Method) : (Instr.missingMethod want got).isNone = want.toList.all fun x => got.any fun m => m.name == x.1 && m.sig == x.2 := by
  unfold Instr.missingMethod
  generalize hm : (want.toList.filter _).map (·.1) = missing
  have h1 : (want.toList.all fun x => got.any fun m => m.name == x.1 && m.sig == x.2) = missing.isEmpty := by
    rw [← hm]
    generalize want.toList = l
    induction l with
    | nil => rfl
    | cons a l ih =>
      simp only [List.all_cons, List.filter_cons]
      cases h : (got.any fun m => m.name == a.1 && m.sig == a.2) with
      | true => simpa [h] using ih
      | false => simp
  rw [h1]
  simp only
  rw [List.partition_eq_filter_filter]
  simp only
  cases missing with
  | nil => simp [Instr.least]
  | cons s l =>
    simp only [List.isEmpty_cons]
    cases he : Instr.least (List.filter (not ∘ fun x => String.contains x '.') (s :: l)) with
    | some y => rfl
    | none =>
      have h2 := least_isNone (List.filter (not ∘ fun x => String.contains x '.') (s :: l))
      rw [he] at h2
      simp only [Option.isNone_none, Bool.true_eq, List.isEmpty_iff, List.filter_eq_nil_iff] at h2
      have h3 := h2 s (by simp)
      have h4 : (s.contains '.') = true := by simpa using h3
      show (Instr.least _).isNone = false
      rw [least_isNone]
      simp only [List.filter_cons, h4, if_true, List.map_cons, List.isEmpty_cons]
def hasMB (E : Env) (P : Program) (kt k : Nat) (b : Bool) : Bool :=
  match P.underlying (E.ty kt) with
  | some (.interface want) => (match P.info? (E.ty k) with
    | some i => (want.toList.all fun x => i.methods.any fun m => m.name == x.1 && m.sig == x.2) == b
    | none => false)
  | _ => true
theorem HasM.of {E : Env} {P : Program} {kt k : Nat} {b : Bool} (h : hasMB E P kt k b = true) : HasM E P kt k b := fun want hw => by
  unfold hasMB at h
  rw [hw] at h
  simp only at h
  split at h
  · rename_i i hi
    exact ⟨i, hi, by rw [missing_isNone]; simpa using h⟩
  · cases h
end Go.Sc
