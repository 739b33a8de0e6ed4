/- CONTRACTS OUT OF THE KIT's SHELF: strings.Join, strings.IndexByte. ExprTidies: contracts out of the kit's shelf, laid here. VARIABLES: a known pair of numbers. (of the seat YtmeppifnagiamaaDoor) -/
import Derived.Test.YtmeppifnagiamaaDoorCore12
import Derived.Lib.Join
import Derived.Lib.Bytealg
import Derived.Shelf.Strings.OnBuilder
import Derived.Shelf.Small.Strs
import Derived.KernelRfl
import Derived.ChangeSame
import Derived.ChangeAt
import Derived.Below
namespace Go.Sc
set_option linter.unusedSimpArgs false
open Go Go.RowKit
section
variable {E : Env} {P : Program}
theorem intercalate_joinS (sep : Str) : ∀ l : List Str, sep.intercalate l = joinS sep l
  | [] => by simp [List.intercalate, joinS]
  | [x] => by simp [List.intercalate, joinS]
  | x :: y :: l => by
    have := intercalate_joinS sep (y :: l)
    simp only [List.intercalate, List.intersperse, List.flatten_cons, joinS] at this ⊢
    rw [this]; simp
theorem indexByte_idx (c : UInt8) : ∀ s : Str, Lib.indexByte s c = idx s c
  | [] => by simp [Lib.indexByte, idx]
  | x :: s => by
    have ih := indexByte_idx c s
    unfold Lib.indexByte
    by_cases h : x = c
    · subst h; simp [idx]
    · have h' : ¬ c = x := fun e => h e.symm
      have hb : (x == c) = false := by simpa using h
      by_cases hm : c ∈ s
      · simp [idx, hm, h, h', ih, List.idxOf_cons, hb] <;> omega
      · simp [idx, hm, h, h', ih]
theorem cell_in {w : World} {b o : Nat} {v : Value} (h : w.cell? ⟨b, o, none⟩ = some v) : b < w.heap.size := by
  by_cases hb : b < w.heap.size
  · exact hb
  · simp [World.cell?, Array.getElem?_eq_none (Nat.le_of_not_lt hb)] at h
theorem FX.indexByte {k : Nat} {fn : Func} (hf : P.funcs[E.fn k]? = some fn) (hn : (fn.name == "runtime.NumGoroutine") = false) (hb : fn.body.isNone = false)
    (h : ∀ (s : ByteArray) (c : Int) (w : World), Calls P (E.fn k) #[.string s, .int .u8 c] w fun e w' => e = .returned (.int .i64 (Lib.indexByte s.data.toList c.toNat.toUInt8)) ∧ w' = w) (s : Str) (c : UInt8) : FX E P k [S s, By c] (Z (idx s c)) := by
  refine FX.ofCalls hf hn hb (by simp [AV.closedL, AV.closed]) (by simp [AV.flat]) (by simp [AV.closed]) fun cx vs _ _ hv => ?_
  simp only [LRel, VRel] at hv
  obtain ⟨v0, _, rfl, rfl, v1, _, rfl, rfl, rfl⟩ := hv
  refine (h ⟨s.toArray⟩ c.toNat cx.w).mono ?_
  rintro e w' ⟨rfl, rfl⟩
  refine ⟨_, rfl, Below.refl _ _, ?_⟩
  have e1 : (((c.toNat : Nat) : Int).toNat).toUInt8 = c := by simp
  rw [e1, indexByte_idx]
  simp [VRel]
theorem FX.join {k : Nat} {fn : Func} (hf : P.funcs[E.fn k]? = some fn) (hn : (fn.name == "runtime.NumGoroutine") = false) (hb : fn.body.isNone = false)
    (h0 : ∀ (a : Option Addr) (c : Nat) (sep : ByteArray) (w : World), Calls P (E.fn k) #[.slice a 0 c, .string sep] w fun e w' => e = .returned (.string ⟨#[]⟩) ∧ w' = w)
    (h1 : ∀ (bk o c : Nat) (xs : List ByteArray) (sep : ByteArray) (w : World), (∀ (j : Nat) x, xs[j]? = some x → w.cell? ⟨bk, o + j, none⟩ = some (.string x)) → bk < w.heap.size → xs.length ≤ 140737488355328 → xs.length ≤ c → (Lib.join (xs.map (·.data.toList)) sep.data.toList).length ≤ 140737488355328 →
      Calls P (E.fn k) #[.slice (some ⟨bk, o, none⟩) xs.length c, .string sep] w fun e w' => e = .returned (.string ⟨(Lib.join (xs.map (·.data.toList)) sep.data.toList).toArray⟩) ∧ Below w.heap.size w w')
    (l : List Str) (sep : Str) (hl : l.length ≤ 140737488355328) (hj : (joinS sep l).length ≤ 140737488355328) : FX E P k [Lm S l, S sep] (S (joinS sep l)) := by
  refine FX.ofCalls hf hn hb (by simp only [AV.closedL, Lm, AV.closed]; exact ⟨closed_S l, trivial, trivial⟩) (by simp [AV.flat]) (by simp [AV.closed]) fun cx vs _ _ hv => ?_
  simp only [LRel] at hv
  obtain ⟨v0, _, rfl, hv0, v1, _, rfl, hv1, rfl⟩ := hv
  simp only [VRel] at hv1
  subst hv1
  simp only [Lm, VRel] at hv0
  cases l with
  | nil =>
    have hz : ∃ a c, v0 = .slice a 0 c := by
      rcases hv0 with ⟨rfl, _⟩ | ⟨p, cap, rfl, _⟩
      · exact ⟨_, _, rfl⟩
      · exact ⟨_, _, rfl⟩
    obtain ⟨a, c, rfl⟩ := hz
    refine (h0 a c ⟨sep.toArray⟩ cx.w).mono ?_
    rintro e w' ⟨rfl, rfl⟩
    exact ⟨_, rfl, Below.refl _ _, by simp [VRel, joinS]⟩
  | cons x l =>
    rcases hv0 with ⟨_, h⟩ | ⟨p, cap, rfl, hcap, hc⟩
    · simp at h
    rcases hc with hc | ⟨b, o, rfl, hc⟩
    · simp at hcap; omega
    have hcells : ∀ (j : Nat) y, ((x :: l).map fun s : Str => (⟨s.toArray⟩ : ByteArray))[j]? = some y → cx.w.cell? ⟨b, o + j, none⟩ = some (.string y) := fun j y hy => by
      rw [List.getElem?_map] at hy
      simp only [Option.map_eq_some_iff] at hy
      obtain ⟨s, hs, rfl⟩ := hy
      obtain ⟨u, hu, hv⟩ := hc.get (i := j) (x := S s) (by rw [List.getElem?_map, hs]; rfl)
      simp only [VRel] at hv
      rw [hu, hv]
    have hb0 := cell_in (hcells 0 ⟨x.toArray⟩ (by simp))
    have hlen : ((x :: l).map fun s : Str => (⟨s.toArray⟩ : ByteArray)).length = (x :: l).length := by simp
    have hjj : Lib.join (((x :: l).map fun s : Str => (⟨s.toArray⟩ : ByteArray)).map (·.data.toList)) (⟨sep.toArray⟩ : ByteArray).data.toList = joinS sep (x :: l) := by
      unfold Lib.join
      rw [List.map_map, intercalate_joinS]
      congr 1
      simp [Function.comp_def]
    have := h1 b o cap ((x :: l).map fun s => ⟨s.toArray⟩) ⟨sep.toArray⟩ cx.w hcells hb0 (by rw [hlen]; exact hl) (by rw [hlen]; exact hcap) (by rw [hjj]; exact hj)
    rw [hlen, hjj] at this
    refine this.mono ?_
    rintro e w' ⟨rfl, bel⟩
    exact ⟨_, rfl, bel, by simp [VRel]⟩
end
end Go.Sc
set_option maxRecDepth 100000
namespace Go.Proofs
open Go.Shelf
def Tryd.lays156_ren : Go.Shelf.Ren := ⟨fun | 156 => 13 | 165 => 24 | 166 => 25 | 169 => 26 | 240 => 35 | 241 => 36 | 276 => 40 | 277 => 41 | n => n, fun | 31 => 52 | 9 => 9 | 3 => 3 | 4 => 4 | 0 => 0 | 20 => 20 | 72 => 73 | 76 => 75 | 70 => 70 | 37 => 71 | 75 => 38 | 127 => 84 | 164 => 86 | 5 => 5 | 80 => 30 | n => n, fun | n => n⟩
theorem Tryd.lays156 : Go.Proofs.Lays.n156 Tryd.prog Tryd.lays156_ren := {
  mixed := by kernel_rfl
  f156 := Tryd.func13.trans (congrArg some (by kernel_rfl))
  f165 := Tryd.func24.trans (congrArg some (by kernel_rfl))
  f166 := Tryd.func25.trans (congrArg some (by kernel_rfl))
  f169 := Tryd.func26.trans (congrArg some (by kernel_rfl))
  f240 := Tryd.func35.trans (congrArg some (by kernel_rfl))
  f241 := Tryd.func36.trans (congrArg some (by kernel_rfl))
  f276 := Tryd.func40.trans (congrArg some (by kernel_rfl))
  f277 := Tryd.func41.trans (congrArg some (by kernel_rfl))
  t0 := Tryd.underlying0
  a0 := Tryd.isAgg0
  z0 := Tryd.sizeOf0
  v0 := Tryd.zeroValue0
  t3 := Tryd.underlying3
  a3 := Tryd.isAgg3
  z3 := Tryd.sizeOf3
  v3 := Tryd.zeroValue3
  t4 := Tryd.underlying4
  a4 := Tryd.isAgg4
  z4 := Tryd.sizeOf4
  v4 := Tryd.zeroValue4
  t9 := Tryd.underlying9
  a9 := Tryd.isAgg9
  z9 := Tryd.sizeOf9
  v9 := Tryd.zeroValue9
  t20 := Tryd.underlying20
  a20 := Tryd.isAgg20
  z20 := Tryd.sizeOf20
  v20 := Tryd.zeroValue20
  t31 := Tryd.underlying52
  a31 := Tryd.isAgg52
  z31 := Tryd.sizeOf52
  v31 := Tryd.zeroValue52
  t37 := Tryd.underlying71
  a37 := Tryd.isAgg71
  z37 := Tryd.sizeOf71
  v37 := Tryd.zeroValue71
  t70 := Tryd.underlying70
  a70 := Tryd.isAgg70
  z70 := Tryd.sizeOf70
  v70 := Tryd.zeroValue70
  t72 := Tryd.underlying73
  a72 := Tryd.isAgg73
  z72 := Tryd.sizeOf73
  v72 := Tryd.zeroValue73
  t75 := Tryd.underlying38
  a75 := Tryd.isAgg38
  z75 := Tryd.sizeOf38
  v75 := Tryd.zeroValue38
  t76 := Tryd.underlying75
  a76 := Tryd.isAgg75
  z76 := Tryd.sizeOf75
  v76 := Tryd.zeroValue75
  t127 := Tryd.underlying84
  a127 := Tryd.isAgg84
  z127 := Tryd.sizeOf84
  v127 := Tryd.zeroValue84
  t164 := Tryd.underlying86
  a164 := Tryd.isAgg86
  z164 := Tryd.sizeOf86
  v164 := Tryd.zeroValue86 }
theorem Tryd.Builder_Extra_156 : Builder.Extra Tryd.prog Tryd.lays156_ren := {
  sizeBuilder := by kernel_rfl
  liesBuilder := by kernel_rfl
  t5 := Tryd.underlying5
  a5 := Tryd.isAgg5
  z5 := Tryd.sizeOf5
  v5 := Tryd.zeroValue5
  infoByte := by kernel_rfl
  cellsByte := by kernel_rfl
  sizeByte := by kernel_rfl
  neB5 := by decide }
open Go.RowKit in
theorem Tryd.strings_Join_none (a : Option Addr) (c : Nat) (sep : ByteArray) (w : World) :
    Calls Tryd.prog 13 #[.slice a 0 c, .string sep] w fun e w' => e = .returned (.string ⟨#[]⟩) ∧ w' = w := Any.strings_Join_none Tryd.lays156 Tryd.Builder_Extra_156 a c sep w
open Go.RowKit in
theorem Tryd.strings_Join (bk o c : Nat) (xs : List ByteArray) (sep : ByteArray) (w : World) (hcells : ∀ (j : Nat) x, xs[j]? = some x → w.cell? ⟨bk, o + j, none⟩ = some (.string x)) (hbk : bk < w.heap.size) (hN : xs.length ≤ 140737488355328) (hcap : xs.length ≤ c) (hlen : (Lib.join (xs.map (·.data.toList)) sep.data.toList).length ≤ 140737488355328) :
    Calls Tryd.prog 13 #[.slice (some ⟨bk, o, none⟩) xs.length c, .string sep] w fun e w' => e = .returned (.string ⟨(Lib.join (xs.map (·.data.toList)) sep.data.toList).toArray⟩) ∧ Below w.heap.size w w' := Any.strings_Join Tryd.lays156 Tryd.Builder_Extra_156 bk o c xs sep w hcells hbk hN hcap hlen
def Tryd.lays137_ren : Go.Shelf.Ren := ⟨fun | 137 => 46 | 217 => 51 | 266 => 53 | n => n, fun | 9 => 9 | 5 => 5 | 3 => 3 | n => n, fun | n => n⟩
theorem Tryd.lays137 : Go.Proofs.Lays.n137 Tryd.prog Tryd.lays137_ren := {
  mixed := by kernel_rfl
  f137 := Tryd.func46.trans (congrArg some (by kernel_rfl))
  f217 := Tryd.func51.trans (congrArg some (by kernel_rfl))
  f266 := Tryd.func53.trans (congrArg some (by kernel_rfl))
  t3 := Tryd.underlying3
  a3 := Tryd.isAgg3
  z3 := Tryd.sizeOf3
  v3 := Tryd.zeroValue3
  t5 := Tryd.underlying5
  a5 := Tryd.isAgg5
  z5 := Tryd.sizeOf5
  v5 := Tryd.zeroValue5
  t9 := Tryd.underlying9
  a9 := Tryd.isAgg9
  z9 := Tryd.sizeOf9
  v9 := Tryd.zeroValue9 }
open Go.RowKit in
theorem Tryd.strings_IndexByte (s : ByteArray) (c : Int) (w : World) :
    Calls Tryd.prog 46 #[.string s, .int .u8 c] w fun e w' => e = .returned (.int .i64 (Lib.indexByte s.data.toList c.toNat.toUInt8)) ∧ w' = w := Any.strings_IndexByte Tryd.lays137 s c w
end Go.Proofs
namespace Go.Proofs.YtmeppifnagiamaaDoor
open Go Go.Sc
theorem ixB (s : Str) (c : UInt8) : FX E Tryd.prog 21 [S s, By c] (Z (idx s c)) := FX.indexByte (show Tryd.prog.funcs[E.fn 21]? = some Tryd.f46 from Tryd.func46) (by kernel_rfl) (by kernel_rfl) Tryd.strings_IndexByte s c
theorem joinB (l : List Str) (sep : Str) (hl : l.length ≤ 140737488355328) (hj : (joinS sep l).length ≤ 140737488355328) : FX E Tryd.prog 118 [Lm S l, S sep] (S (joinS sep l)) := FX.join (show Tryd.prog.funcs[E.fn 118]? = some Tryd.f13 from Tryd.func13) (by kernel_rfl) (by kernel_rfl) Tryd.strings_Join_none Tryd.strings_Join l sep hl hj
end Go.Proofs.YtmeppifnagiamaaDoor
namespace Go.Sc
open Go Go.ChangeShapes Go.WideShapes Go.ChangeAt Go.RowKit
section
variable {P : Program} {W : World} {E : Env}
theorem laid_struct2 {l : List (String × DataW Unit)} {n : String} {a b : Int} {g : Nat} {ty : TypeId} {f0 f1 : Field} (h : laidMetH P l W) (hm : (n, DataW.agg [.lit (.int .i64 a), .lit (.int .i64 b)]) ∈ l) (hn : P.globalNamed n = some g) (ht : (P.globals[g]?).map (·.type) = some ty)
    (hu : P.underlying ty = some (.struct #[f0, f1])) (e0 : P.underlying f0.type = some (.int .i64)) (e1 : P.underlying f1.type = some (.int .i64)) (o0 : f0.offset = 0) (o1 : f1.offset = 1) (c0 : P.cellsOf f0.type = 1) (c1 : P.cellsOf f1.type = 1) : CRel E (Cx.start W) [Z a, Z b] g 0 := by
  obtain ⟨h1, _⟩ := laidMetH_iff.1 h
  obtain ⟨ps, h2, _⟩ := h1
  obtain ⟨g', t', cs, fuel, p, k1, k2, k3, k4⟩ := laid_at (l := l) h2 (List.mem_filter.2 ⟨hm, by rfl⟩)
  rw [hn] at k1; injection k1 with k1; subst k1
  rw [ht] at k2; injection k2 with k2; subst k2
  obtain ⟨y0, y1, m', hx, hl, x0, x1⟩ := trod_struct2 hu k4
  simp only [World.var?, hn, Option.bind_some] at k3
  split at k3
  · rename_i cs' ty' fr hW
    injection k3 with k3; subst k3
    have hlt : g < W.heap.size := by
      by_cases h : g < W.heap.size
      · exact h
      · rw [Array.getElem?_eq_none (by omega)] at hW; cases hW
    injection hx with hx1 hx2
    injection hx1 with hx1
    injection hx1 with hxa hx1
    injection hx1 with hxb _
    rw [o0, c0] at x0
    rw [o1, c1] at x1
    obtain ⟨w0, hw0, hv0, _⟩ := DataW.trod_int e0 x0
    obtain ⟨w1, hw1, hv1, _⟩ := DataW.trod_int e1 x1
    rw [hv0] at hxa
    rw [hv1] at hxb
    injection hxa with hxa
    injection hxa with _ hxa
    injection hxb with hxb
    injection hxb with _ hxb
    subst hxa; subst hxb
    have q0 : cs'.toList[0]? = some (.int .i64 a) := by
      have := congrArg (·[0]?) hw0
      simpa using this
    have q1 : cs'.toList[1]? = some (.int .i64 b) := by
      have := congrArg (·[0]?) hw1
      simp only [List.getElem?_take, List.getElem?_drop, List.getElem?_cons_zero] at this
      simpa using this
    refine crel_start hlt fun i y hi => ?_
    match i with
    | 0 => simp only [List.getElem?_cons_zero, Option.some.injEq] at hi; subst hi; exact ⟨.int .i64 a, by simp only [World.cell?, hW]; simpa using q0, by simp [VRel]⟩
    | 1 => simp only [List.getElem?_cons_succ, List.getElem?_cons_zero, Option.some.injEq] at hi; subst hi; exact ⟨.int .i64 b, by simp only [World.cell?, hW]; simpa using q1, by simp [VRel]⟩
    | i + 2 => simp at hi
  · cases k3
end
theorem least_isNone (l : List String) : (Instr.least l).isNone = l.isEmpty := by
  cases l <;> simp [Instr.least]
theorem missing_isNone (want : Array (String × TypeId)) (got : Array Method) : (Instr.missingMethod want got).isNone = want.toList.all fun x => got.any fun m => m.name == x.1 && m.sig == x.2 := by
  unfold Instr.missingMethod
  generalize hm : (want.toList.filter _).map (·.1) = missing
  have h1 : (want.toList.all fun x => got.any fun m => m.name == x.1 && m.sig == x.2) = missing.isEmpty := by
    rw [← hm]
    generalize want.toList = l
    induction l with
    | nil => rfl
    | cons a l ih =>
      simp only [List.all_cons, List.filter_cons]
      cases h : (got.any fun m => m.name == a.1 && m.sig == a.2) with
      | true => simpa [h] using ih
      | false => simp
  rw [h1]
  simp only
  rw [List.partition_eq_filter_filter]
  simp only
  cases missing with
  | nil => simp [Instr.least]
  | cons s l =>
    simp only [List.isEmpty_cons]
    cases he : Instr.least (List.filter (not ∘ fun x => String.contains x '.') (s :: l)) with
    | some y => rfl
    | none =>
      have h2 := least_isNone (List.filter (not ∘ fun x => String.contains x '.') (s :: l))
      rw [he] at h2
      simp only [Option.isNone_none, Bool.true_eq, List.isEmpty_iff, List.filter_eq_nil_iff] at h2
      have h3 := h2 s (by simp)
      have h4 : (s.contains '.') = true := by simpa using h3
      show (Instr.least _).isNone = false
      rw [least_isNone]
      simp only [List.filter_cons, h4, if_true, List.map_cons, List.isEmpty_cons]
def hasMB (E : Env) (P : Program) (kt k : Nat) (b : Bool) : Bool :=
  match P.underlying (E.ty kt) with
  | some (.interface want) => (match P.info? (E.ty k) with
    | some i => (want.toList.all fun x => i.methods.any fun m => m.name == x.1 && m.sig == x.2) == b
    | none => false)
  | _ => true
theorem HasM.of {E : Env} {P : Program} {kt k : Nat} {b : Bool} (h : hasMB E P kt k b = true) : HasM E P kt k b := fun want hw => by
  unfold hasMB at h
  rw [hw] at h
  simp only at h
  split at h
  · rename_i i hi
    exact ⟨i, hi, by rw [missing_isNone]; simpa using h⟩
  · cases h
end Go.Sc
