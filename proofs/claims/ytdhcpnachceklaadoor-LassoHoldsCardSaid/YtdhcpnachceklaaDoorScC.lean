/-
  WHAT A FUNCTION'S CODE COMES TO ON ABSTRACT VALUES: 'wpC', a statement out of the code, of nodes that stand for the model's operations.
-/
import Derived.Test.YtdhcpnachceklaaDoorScB
import Derived.StillTail
namespace Go.Sc
open Go

abbrev Kt := AV → AH → Prop

def undefA : AV := .val (.tuple #[])

/-! ### plain functions on abstract values -/
/-- of one cell -/
def AV.scalar : AV → Bool
  | .agg _ | .junk | .tup _ | .val (.agg _) | .val (.tuple _) => false
  | _ => true
def AV.cells? (a : AV) : Option (List AV) :=
  match a with
  | .agg cs => some cs
  | a => if a.scalar then some [a] else none

def AH.cells (H : AH) (b g : Nat) : Option (List AV) :=
  match H.bs[b]? with
  | some (.cells g' _ cs) => if g' = g then some cs else none
  | _ => none
/-- the cells of an element of a live block -/
def AH.esz (H : AH) (b g : Nat) : Option Nat :=
  match H.bs[b]? with
  | some (.cells g' sz _) => if g' = g then some sz else none
  | _ => none
/-- the cells of an element of a slice that may grow -/
def AH.tsz (H : AH) (b g : Nat) : Option Nat :=
  match H.bs[b]? with
  | some (.tail g' sz) => if g' = g then some sz else none
  | _ => none
def AH.set (H : AH) (b : Nat) (cs : List AV) : AH :=
  match H.bs[b]? with
  | some (.cells g sz _) => ⟨H.bs.set b (.cells g sz cs), H.ctr⟩
  | _ => H
def AH.push (H : AH) (sz : Nat) (cs : List AV) : AH := ⟨H.bs ++ [.cells H.ctr sz cs], H.ctr + 1⟩

def subL (cs : List AV) (o n : Nat) : Option (List AV) := if o + n ≤ cs.length then some ((cs.drop o).take n) else none

def load1 (a : AV) (H : AH) : Option AV :=
  match a with
  | .ptrF cs o => cs[o]?
  | .ptrL b o g => (H.cells b g).bind fun cs => cs[o]?
  | _ => none
def loadN (n : Nat) (a : AV) (H : AH) : Option AV :=
  match a with
  | .ptrF cs o => (subL cs o n).map .agg
  | .ptrL b o g => (H.cells b g).bind fun cs => (subL cs o n).map .agg
  | _ => none

/-- put 'xs' into 'cs' from 'o' on -/
def putL (cs : List AV) (o : Nat) (xs : List AV) : Option (List AV) := if o + xs.length ≤ cs.length then some (cs.take o ++ xs ++ cs.drop (o + xs.length)) else none

def store1 (a x : AV) (H : AH) : Option AH :=
  match a with
  | .ptrL b o g => if x.scalar then (H.cells b g).bind fun cs => if o < cs.length then some (H.set b (cs.set o x)) else none else none
  | _ => none
def storeN (n : Nat) (a x : AV) (H : AH) : Option AH :=
  match a, x with
  | .ptrL b o g, .agg xs => if xs.length = n ∧ xs.all AV.scalar = true then (H.cells b g).bind fun cs => (putL cs o xs).map fun cs' => H.set b cs' else none
  | _, _ => none

def fieldA (off n : Nat) (isAgg : Bool) (x : AV) : Option AV :=
  match x with
  | .agg cs => if isAgg then (subL cs off n).map .agg else cs[off]?
  | _ => none
def faddr (off : Nat) (a : AV) : Option AV :=
  match a with
  | .ptrL b o g => some (.ptrL b (o + off) g)
  | .ptrF cs o => some (.ptrF cs (o + off))
  | _ => none
def iaddr (sz : Nat) (s i : AV) : Option AV :=
  match s, i with
  | .slF cs off len, .val (.int _ n) => if 0 ≤ n ∧ n < len then some (.ptrF cs (off + n.toNat * sz)) else none
  | .slL b off len g, .val (.int _ n) => if 0 ≤ n ∧ n < len then some (.ptrL b (off + n.toNat * sz) g) else none
  | .slN cs len, .val (.int _ n) => if 0 ≤ n ∧ n < len then some (.ptrF cs (n.toNat * sz)) else none
  | .slT _ cs len _, .val (.int _ n) => if 0 ≤ n ∧ n < len then some (.ptrF cs (n.toNat * sz)) else none
  | _, _ => none
/-- the place of an array's element -/
def iaddrArr (sz len : Nat) (a i : AV) : Option AV :=
  match a, i with
  | .ptrF cs off, .val (.int _ n) => if 0 ≤ n ∧ n < len then some (.ptrF cs (off + n.toNat * sz)) else none
  | .ptrL b off g, .val (.int _ n) => if 0 ≤ n ∧ n < len then some (.ptrL b (off + n.toNat * sz) g) else none
  | _, _ => none
def idxStr (s i : AV) : Option AV :=
  match s, i with
  | .val (.string s), .val (.int _ n) => if 0 ≤ n ∧ n < s.size then some (.val (.int .u8 (s.data.toList.getD n.toNat 0).toNat)) else none
  | _, _ => none
def idxArr (sz len : Nat) (isAgg : Bool) (x i : AV) : Option AV :=
  match x, i with
  | .agg cs, .val (.int _ n) => if 0 ≤ n ∧ n < len then (if isAgg then (subL cs (n.toNat * sz) sz).map .agg else cs[n.toNat * sz]?) else none
  | _, _ => none
def lenA : AV → Option AV
  | .slF _ _ n => some (.val (.int .i64 n))
  | .slL _ _ n _ => some (.val (.int .i64 n))
  | .slN _ n => some (.val (.int .i64 n))
  | .slT _ _ n _ => some (.val (.int .i64 n))
  | .val (.slice _ n _) => some (.val (.int .i64 n))
  | _ => none
def lenS : AV → Option AV
  | .val (.string s) => some (.val (.int .i64 s.size))
  | _ => none

def intBin (op : BinOp) (k : IntKind) (a b : Int) : Option Value :=
  match op with
  | .add => some (.int k (k.wrap (a + b)))
  | .sub => some (.int k (k.wrap (a - b)))
  | .mul => some (.int k (k.wrap (a * b)))
  | .quo => if b = 0 then none else some (.int k (k.wrap (a.tdiv b)))
  | .rem => if b = 0 then none else some (.int k (a.tmod b))
  | .and => some (.int k (k.wrap (BitVec.ofInt k.bits a &&& BitVec.ofInt k.bits b).toNat))
  | .or => some (.int k (k.wrap (BitVec.ofInt k.bits a ||| BitVec.ofInt k.bits b).toNat))
  | .xor => some (.int k (k.wrap (BitVec.ofInt k.bits a ^^^ BitVec.ofInt k.bits b).toNat))
  | .andNot => some (.int k (k.wrap (BitVec.ofInt k.bits a &&& ~~~(BitVec.ofInt k.bits b)).toNat))
  | .eql => some (.bool (a == b))
  | .neq => some (.bool (a != b))
  | .lss => some (.bool (a < b))
  | .leq => some (.bool (a ≤ b))
  | .gtr => some (.bool (a > b))
  | .geq => some (.bool (a ≥ b))
  | _ => none
def strBin (op : BinOp) (x y : ByteArray) : Option Value :=
  match op with
  | .add => if ((x.size + y.size : Nat) : Int) > IntKind.i64.max then none else some (.string (x ++ y))
  | .eql => some (.bool (x.toList == y.toList))
  | .neq => some (.bool !(x.toList == y.toList))
  | .lss => some (.bool (Op.bytesLess x.toList y.toList))
  | .leq => some (.bool (Op.bytesLess x.toList y.toList || x.toList == y.toList))
  | .gtr => some (.bool !(Op.bytesLess x.toList y.toList || x.toList == y.toList))
  | .geq => some (.bool !(Op.bytesLess x.toList y.toList))
  | _ => none
/-- numbers and texts -/
def binA (op : BinOp) (x y : AV) : Option AV :=
  match x, y with
  | .val (.int k a), .val (.int k' b) =>
    match op with
    | .shl => if b < 0 then none else some (.val (.int k (k.wrap (a * 2 ^ (min b.toNat k.bits)))))
    | .shr => if b < 0 then none else some (.val (.int k (a.fdiv (2 ^ (min b.toNat k.bits)))))
    | _ => if k = k' then (intBin op k a b).map .val else none
  | .val (.string a), .val (.string b) => (strBin op a b).map .val
  | _, _ => none
/-- shapes of types that '==' asks -/
inductive Shp where | bool | ptr | slice | iface | func
  deriving DecidableEq
def eqA (s : Shp) (x y : AV) : Option Bool :=
  match s, x, y with
  | .bool, .val (.bool a), .val (.bool b) => some (a == b)
  | .ptr, .val (.pointer none), .val (.pointer none) => some true
  | .ptr, .ptrF _ _, .val (.pointer none) => some false
  | .ptr, .val (.pointer none), .ptrF _ _ => some false
  | .ptr, .ptrL _ _ _, .val (.pointer none) => some false
  | .ptr, .val (.pointer none), .ptrL _ _ _ => some false
  | .slice, .val (.slice none _ _), .val (.slice none _ _) => some true
  | .slice, .slF _ _ _, .val (.slice none _ _) => some false
  | .slice, .val (.slice none _ _), .slF _ _ _ => some false
  | .slice, .slL _ _ _ _, .val (.slice none _ _) => some false
  | .slice, .slT _ _ _ _, .val (.slice none _ _) => some false
  | .slice, .val (.slice none _ _), .slL _ _ _ _ => some false
  | .iface, .val .nilIface, .val .nilIface => some true
  | .iface, .ifc _ _, .val .nilIface => some false
  | .iface, .val .nilIface, .ifc _ _ => some false
  | .func, .val .nilFunc, .val .nilFunc => some true
  | .func, .fn _ _ _, .val .nilFunc => some false
  | .func, .val .nilFunc, .fn _ _ _ => some false
  | _, _, _ => none
def unA (op : UnOp) (x : AV) : Option AV :=
  match op, x with
  | .neg, .val (.int k n) => some (.val (.int k (k.wrap (0 - n))))
  | .not, .val (.bool b) => some (.val (.bool !b))
  | _, _ => none
def pickA (c a b : AV) : Option AV :=
  match c with
  | .val (.bool t) => some (if t then a else b)
  | _ => none
def extractA (t : AV) (i : Nat) : Option AV :=
  match t with
  | .tup vs => vs[i]?
  | _ => none
/-- asked for a type: 'k' -/
def assertA (k : Nat) (z x : AV) : Option AV :=
  match x with
  | .ifc k' a => if k' = k then some (.tup [a, .val (.bool true)]) else some (.tup [z, .val (.bool false)])
  | .val .nilIface => some (.tup [z, .val (.bool false)])
  | _ => none
def assert1 (k : Nat) (x : AV) : Option AV :=
  match x with
  | .ifc k' a => if k' = k then some a else none
  | _ => none
/-! ### maps: keys that are compared at once (numbers, texts, truths) -/
def keyEq : AV → AV → Option Bool
  | .val (.int k a), .val (.int k' b) => if k = k' then some (a == b) else none
  | .val (.string a), .val (.string b) => some (a == b)
  | .val (.bool a), .val (.bool b) => some (a == b)
  | _, _ => none
def findK (k : AV) : List AV → Nat → Option (Option Nat)
  | [], _ => some none
  | x :: xs, i => match keyEq k x with
    | some true => some (some i)
    | some false => findK k xs (i + 1)
    | none => none
def keyIs : TypeDesc → AV → Bool
  | .int k, .val (.int k' _) => decide (k = k')
  | .string, .val (.string _) => true
  | .bool, .val (.bool _) => true
  | _, _ => false
def AH.maps (H : AH) (b g : Nat) : Option (List AV × List AV) :=
  match H.bs[b]? with
  | some (.map g' ks vs) => if g' = g then some (ks, vs) else none
  | _ => none
def mapGet (z : AV) (ok : Bool) (k : AV) (ks vs : List AV) : Option AV :=
  match findK k ks 0 with
  | some (some i) => vs[i]?.map fun v => if ok then .tup [v, .val (.bool true)] else v
  | some none => some (if ok then .tup [z, .val (.bool false)] else z)
  | none => none
def lookupA (d : TypeDesc) (z : AV) (ok : Bool) (m k : AV) (H : AH) : Option AV :=
  if keyIs d k = true then (match m with
    | .val (.map none) => mapGet z ok k [] []
    | .mapL b g => (H.maps b g).bind fun p => mapGet z ok k p.1 p.2
    | .mapF ks vs => mapGet z ok k ks vs
    | _ => none) else none
def insertA (d : TypeDesc) (m k v : AV) (H : AH) : Option AH :=
  if keyIs d k = true then (match m with
    | .mapL b g => (H.maps b g).bind fun p => match findK k p.1 0 with
      | some (some i) => some ⟨H.bs.set b (.map g p.1 (p.2.set i v)), H.ctr⟩
      | some none => some ⟨H.bs.set b (.map g (p.1 ++ [k]) (p.2 ++ [v])), H.ctr⟩
      | none => none
    | _ => none) else none
def mapB (P : Program) (t : TypeId) : Option (TypeDesc × TypeId) := match P.underlying t with
  | some (.map k e) => (P.underlying k).map fun d => (d, e)
  | _ => none
def minA (mx : Bool) (x y : AV) : Option AV :=
  match x, y with
  | .val (.int k a), .val (.int k' b) => if k = k' then some (.val (.int k (if mx then (if b > a then b else a) else (if b < a then b else a)))) else none
  | _, _ => none
def nilA (x : AV) : Option AV :=
  match x with
  | .ptrL _ _ _ => some x
  | .ptrF _ _ => some x
  | .fn _ _ _ => some x
  | _ => none

/-- slices of slices and texts: 'lo' and 'hi' are numbers, or none -/
def bnd (x : Option AV) (d : Nat) : Option Int :=
  match x with
  | none => some d
  | some (.val (.int _ n)) => some n
  | _ => none
def sliceA (sz : Nat) (s : AV) (lo hi : Option AV) (H : AH) : Option AV :=
  match s with
  | .slF cs off len => (bnd lo 0).bind fun l => (bnd hi len).bind fun h => if 0 ≤ l ∧ l ≤ h ∧ h ≤ len then some (.slF cs (off + l.toNat * sz) (h.toNat - l.toNat)) else none
  | .slL b off len g => (bnd lo 0).bind fun l => (bnd hi len).bind fun h => if H.esz b g = some sz ∧ 0 ≤ l ∧ l ≤ h ∧ h ≤ len then some (.slL b (off + l.toNat * sz) (h.toNat - l.toNat) g) else none
  | .slN cs len => (bnd lo 0).bind fun l => (bnd hi len).bind fun h => if 0 ≤ l ∧ l ≤ h ∧ h ≤ len then some (.slN ((cs.drop (l.toNat * sz)).take ((h.toNat - l.toNat) * sz)) (h.toNat - l.toNat)) else none
  | .slT b cs len g => (bnd lo 0).bind fun l => (bnd hi len).bind fun h => if H.tsz b g = some sz ∧ 0 ≤ l ∧ l ≤ h ∧ h ≤ len ∧ cs.length = len * sz then (if h = len then some (.slT b (cs.drop (l.toNat * sz)) (len - l.toNat) g) else some (.slN ((cs.drop (l.toNat * sz)).take ((h.toNat - l.toNat) * sz)) (h.toNat - l.toNat))) else none
  | .val (.slice none 0 0) => (bnd lo 0).bind fun l => (bnd hi 0).bind fun h => if l = 0 ∧ h = 0 then some (.val (.slice none 0 0)) else none
  | _ => none
def sliceS (s : AV) (lo hi : Option AV) : Option AV :=
  match s with
  | .val (.string s) => (bnd lo 0).bind fun l => (bnd hi s.size).bind fun h => if 0 ≤ l ∧ l ≤ h ∧ h ≤ s.size then some (.val (.string (s.extract l.toNat h.toNat))) else none
  | _ => none

/-- the cells of what is appended -/
def cellsOfA (sz : Nat) (x : AV) (H : AH) : Option (Nat × List AV) :=
  match x with
  | .val (.slice none 0 0) => some (0, [])
  | .slF cs off len => (subL cs off (len * sz)).map fun l => (len, l)
  | .slL b off len g => (H.cells b g).bind fun cs => (subL cs off (len * sz)).map fun l => (len, l)
  | .slN cs len => (subL cs 0 (len * sz)).map fun l => (len, l)
  | .slT _ cs len _ => (subL cs 0 (len * sz)).map fun l => (len, l)
  | .val (.string s) => if sz = 1 then some (s.size, s.data.toList.map fun b => .val (.int .u8 b.toNat)) else none
  | _ => none
/-- how great an append may be -/
def mostBytes : Nat := 2 ^ 46
def appendA (sz bytes : Nat) (s x : AV) (H : AH) : Option (AV × AH) :=
  (cellsOfA sz x H).bind fun (n, new) =>
  match s with
  | .val (.slice none 0 0) =>
    if n = 0 then some (s, H) else
    if n * bytes ≤ mostBytes ∧ n ≤ mostBytes then some (.slL H.bs.length 0 n H.ctr, H.push sz new) else none
  | .slL b off len g =>
    (H.cells b g).bind fun cs =>
      if H.esz b g = some sz ∧ off + len * sz = cs.length ∧ (len + n) * bytes ≤ mostBytes ∧ len + n ≤ mostBytes ∧ new.all AV.scalar = true then
        if n = 0 then some (s, H) else
        some (.slL b 0 (len + n) H.ctr, ⟨H.bs.set b (.cells H.ctr sz (cs.drop off ++ new)), H.ctr + 1⟩)
      else none
  | _ => none
def makeA (bytes : Nat) (l c : AV) : Option Nat :=
  match l, c with
  | .val (.int _ n), .val (.int _ m) => if 0 ≤ n ∧ n = m ∧ n * bytes ≤ mostBytes ∧ n ≤ mostBytes then some n.toNat else none
  | _, _ => none
/-- the parts of a struct (or an array, or a slice) laid over noughts: offset, size, part -/
def fillA (zero : List AV) : List (Nat × Nat × AV) → Option (List AV)
  | [] => some zero
  | (off, n, x) :: rest => (x.cells?).bind fun cs => if cs.length = n then (putL zero off cs).bind fun z => fillA z rest else none

/-! ### contracts -/
/-- what a call of a function comes to, wherever it is made -/
def CallsN (P : Program) (f : FuncId) (args : Array Value) (w : World) (R : Value → World → Prop) : Prop :=
  ∀ (o : Oper) (a : Act) (next : Act → World → Prop) (Q : Exit → Act → World → Prop), (∀ v w', R v w' → next (a.put o.dst v) w') → o.upon P a next Q ((callFunc f args).run P w)
def ACalls (E : Env) (P : Program) (k : Nat) (args : List AV) (H : AH) (R : Kt) : Prop :=
  ∀ (c : Cx) (vs : List Value), HRel E c H → LRel E c args vs →
    CallsN P (E.fn k) vs.toArray c.w fun v w' => ∃ r c' H', c'.w = w' ∧ R r H' ∧ HRel E c' H' ∧ VRel E c' r v ∧ Later c c'

/-! ### choices -/
/-- told otherwise: with less -/
def Sub (x y : AV) : Prop := ∀ (E : Env) (c : Cx) (v : Value), VRel E c x v → VRel E c y v
inductive SubL : List AV → List AV → Prop where
  | nil : SubL [] []
  | cons {x y : AV} {xs ys : List AV} : Sub x y → SubL xs ys → SubL (x :: xs) (y :: ys)
/-- a place for a new block: one that is dead, or a new one -/
def AH.free (H : AH) (b : Nat) : Prop := b = H.bs.length ∨ H.bs[b]? = some .dead
def AH.put (H : AH) (b : Nat) (x : Blk) : AH := ⟨if b = H.bs.length then H.bs ++ [x] else H.bs.set b x, H.ctr + 1⟩
inductive NewR (sz : Nat) (l : List AV) (H : AH) : AV → AH → Prop where
  | frz {x : AV} : Sub (.ptrF l 0) x → NewR sz l H x H
  | live (b : Nat) : H.free b → NewR sz l H (.ptrL b 0 H.ctr) (H.put b (.cells H.ctr sz l))
inductive NewSR (sz len : Nat) (l : List AV) (H : AH) : AV → AH → Prop where
  | frz {x : AV} : Sub (.slF l 0 len) x → NewSR sz len l H x H
  | live (b : Nat) : H.free b → NewSR sz len l H (.slL b 0 len H.ctr) (H.put b (.cells H.ctr sz l))
  | tail (b : Nat) {l' : List AV} : SubL l l' → H.free b → NewSR sz len l H (.slT b l' len H.ctr) (H.put b (.tail H.ctr sz))
inductive AppR (sz bytes : Nat) (s x : AV) (H : AH) : AV → AH → Prop where
  | old {r : AV} {H' : AH} : appendA sz bytes s x H = some (r, H') → AppR sz bytes s x H r H'
  | grow {b len g m : Nat} {cs new new' : List AV} : s = .slT b cs len g → H.bs[b]? = some (.tail g sz) → cs.length = len * sz → cellsOfA sz x H = some (m, new) → SubL new new' → new.all AV.scalar = true →
      (len + m) * bytes ≤ mostBytes → len + m ≤ mostBytes → AppR sz bytes s x H (.slT b (cs ++ new') (len + m) H.ctr) ⟨H.bs.set b (.tail H.ctr sz), H.ctr + 1⟩
  | first (b : Nat) {m : Nat} {new new' : List AV} : s = .val (.slice none 0 0) → H.free b → cellsOfA sz x H = some (m, new) → m ≠ 0 → SubL new new' →
      m * bytes ≤ mostBytes → m ≤ mostBytes → AppR sz bytes s x H (.slT b new' m H.ctr) (H.put b (.tail H.ctr sz))

/-! ### nodes -/
structure wGet (r : Option AV) (H : AH) (K : Kt) : Prop where ok : ∃ x, r = some x ∧ K x H
structure wPut (r : Option AH) (K : Kt) : Prop where ok : ∃ H, r = some H ∧ K undefA H
structure wDo (r : Option (AV × AH)) (K : Kt) : Prop where ok : ∃ x H, r = some (x, H) ∧ K x H
structure wBool (r : Option Bool) (H : AH) (neg : Bool) (K : Kt) : Prop where ok : ∃ b, r = some b ∧ K (.val (.bool (b != neg))) H
structure wNew (sz : Nat) (cs : Option (List AV)) (H : AH) (K : Kt) : Prop where ok : ∃ l x H', cs = some l ∧ NewR sz l H x H' ∧ K x H'
structure wNewS (sz len : Nat) (cs : Option (List AV)) (H : AH) (K : Kt) : Prop where ok : ∃ l x H', cs = some l ∧ l.length = len * sz ∧ NewSR sz len l H x H' ∧ K x H'
structure wMake (sz bytes : Nat) (zero : List AV) (l c : AV) (H : AH) (K : Kt) : Prop where ok : ∃ n x H', makeA bytes l c = some n ∧ NewSR sz n (List.replicate n zero).flatten H x H' ∧ K x H'
structure wMapN (H : AH) (K : Kt) : Prop where ok : ∃ b, H.free b ∧ K (.mapL b H.ctr) (H.put b (.map H.ctr [] []))
structure wApp (sz bytes : Nat) (s x : AV) (H : AH) (K : Kt) : Prop where ok : ∃ r H', AppR sz bytes s x H r H' ∧ K r H'
structure wAgg (cs : Option (List AV)) (H : AH) (K : Kt) : Prop where ok : ∃ l, cs = some l ∧ K (.agg l) H
structure wIf (c : AV) (t f : Prop) : Prop where ok : ∃ b, c = .val (.bool b) ∧ (b = true → t) ∧ (b = false → f)
structure wGuard (x : AV) (want : Bool) (H : AH) (m : Kt → Prop) (K : Kt) : Prop where
  ok : (∃ b, x = .val (.bool b) ∧ (b = want → m K) ∧ (b ≠ want → K undefA H)) ∨ (x = undefA ∧ K undefA H)
structure wCall (E : Env) (P : Program) (k : Nat) (args : List AV) (H : AH) (K : Kt) : Prop where
  ok : ∃ R, ACalls E P k args H R ∧ ∀ r H', R r H' → K r H'
structure wCallV (E : Env) (P : Program) (f : AV) (args : List AV) (H : AH) (K : Kt) : Prop where
  ok : ∃ k fs cs, f = .fn k fs cs ∧ ∃ R, ACalls E P k (fs ++ args ++ cs) H R ∧ ∀ r H', R r H' → K r H'

/-- a type's method -/
def MethodIs (E : Env) (P : Program) (k : Nat) (name : String) (f : Nat) : Prop := ∀ v w, (Go.method (P.types.size + Made.depth) (E.ty k) v name).run P w = .ok (E.fn f, v) w
structure wInv (E : Env) (P : Program) (x : AV) (name : String) (args : List AV) (H : AH) (K : Kt) : Prop where
  ok : ∃ k a f, x = .ifc k a ∧ MethodIs E P k name f ∧ ∃ R, ACalls E P f (a :: args) H R ∧ ∀ r H', R r H' → K r H'
/-- has a type the methods of another one? -/
def HasM (E : Env) (P : Program) (kt k : Nat) (b : Bool) : Prop := ∀ want, P.underlying (E.ty kt) = some (.interface want) → ∃ i, P.info? (E.ty k) = some i ∧ (Instr.missingMethod want i.methods).isNone = b
structure wAsI (E : Env) (P : Program) (kt : Nat) (x : AV) (H : AH) (K : Kt) : Prop where
  ok : (x = .val .nilIface ∧ K (.tup [.val .nilIface, .val (.bool false)]) H) ∨ ∃ k a b, x = .ifc k a ∧ HasM E P kt k b ∧ K (if b then .tup [x, .val (.bool true)] else .tup [.val .nilIface, .val (.bool false)]) H

/-! ### joins and loops -/
def KN : Nat → Type
  | 0 => AH → Prop
  | n + 1 => AV → KN n
def KN.of : (n : Nat) → (List AV → AH → Prop) → KN n
  | 0, f => f []
  | n + 1, f => fun x => KN.of n fun xs => f (x :: xs)
def KN.app : (n : Nat) → KN n → List AV → AH → Prop
  | 0, k, _ => k
  | n + 1, k, x :: xs => KN.app n (k x) xs
  | _ + 1, _, [] => fun _ => False
def KN.le : (n : Nat) → KN n → KN n → Prop
  | 0, j, k => ∀ H, j H → k H
  | n + 1, j, k => ∀ x, KN.le n (j x) (k x)
/-- as told otherwise -/
def KN.gh (n : Nat) (k : KN n) : KN n := KN.of n fun xs H => ∃ xs' H', xs'.length = n ∧ Ghost xs H xs' H' ∧ KN.app n k xs' H'
structure wJoin (n : Nat) (m : KN n → Prop) (k : KN n) : Prop where ok : ∃ J : KN n, m (KN.gh n J) ∧ KN.le n J k
structure wLoop (n : Nat) (init : KN n → Prop) (body : KN n → KN n) : Prop where
  ok : ∃ I : Nat → KN n, (∃ m, init (KN.gh n (I m))) ∧ ∀ m, KN.le n (I m) (body (KN.of n fun xs H => ∃ m', m' < m ∧ KN.app n (KN.gh n (I m')) xs H))

inductive AX where
  | normal
  | exit (id : Nat)
  | ret

inductive Ann where
  | leaf
  | draw
  | free
  | seq (j : Option (List Nat)) (a b : Ann)
  | one (a : Ann)
  | two (a b : Ann)
  | loop (l : List Nat) (a : Ann)

def opWrites (ops : Array Oper) : List Nat := ops.toList.filterMap (·.dst)
def Code.writes : Code → List Nat
  | .region _ ops _ => opWrites ops
  | .seq a b => Code.writes a ++ Code.writes b
  | .cond _ a b => Code.writes a ++ Code.writes b
  | .block _ a => Code.writes a
  | .loop a => Code.writes a
  | _ => []
/-- the temporaries where ways meet: those that may have been written are forgotten, but for those of 'l', which are 'xs' -/
def junkL : List AV → List Nat → List AV
  | ts, [] => ts
  | ts, t :: W => junkL (ts.set t .junk) W
def fillL : List AV → List Nat → List AV → List AV
  | ts, t :: l, x :: xs => fillL (ts.set t x) l xs
  | ts, _, _ => ts
/-- as 'fillL', of those alone that may have been written -/
def fillW (W : List Nat) : List AV → List Nat → List AV → List AV
  | ts, t :: l, x :: xs => fillW W (cond (W.contains t) (ts.set t x) ts) l xs
  | ts, _, _ => ts
def looks (ts : List AV) (l : List Nat) : List AV := l.map fun t => ts.getD t undefA

/-- a constant -/
def constA : Value → AV
  | .agg cs => .agg (cs.toList.map .val)
  | v => .val v
def gptr (E : Env) (k : Nat) : AV := match E.gl k with
  | some cs => .ptrF cs 0
  | none => .junk
def ev (E : Env) (ts : List AV) : Operand → AV
  | .tmp t => ts.getD t undefA
  | .const v => constA v
  | .global g => if E.gn (E.gk g) = g then gptr E (E.gk g) else .junk
  | .func f => if E.fn (E.fk f) = f then .fn (E.fk f) [] [] else .junk
def putT (ts : List AV) (d : Option Tmp) (x : AV) : List AV :=
  match d with
  | some d => ts.set d x
  | none => ts

/-- of a type: is it a struct or an array; how many cells -/
def tyB (P : Program) (t : TypeId) : Option (Bool × Nat) :=
  match P.underlying t, P.info? t with
  | some d, some i => some (match d with | .struct _ => true | .array _ _ => true | _ => false, i.size)
  | _, _ => none
def okCell : Value → Bool
  | .agg _ | .tuple _ => false
  | _ => true
/-- a type's noughts -/
def zeroB (P : Program) (t : TypeId) : Option (List AV) :=
  match (P.info? t).bind (·.zero) with
  | some v => if v.cells.toList.all okCell && some v.cells.size == (tyB P t).map (·.2) then some (v.cells.toList.map .val) else none
  | none => none
def zeroV (P : Program) (t : TypeId) : Option AV := ((P.info? t).bind (·.zero)).map constA
def shpB (P : Program) (t : TypeId) : Option Shp := match P.underlying t with
  | some .bool => some .bool
  | some (.pointer _) => some .ptr
  | some (.slice _) => some .slice
  | some (.interface _) => some .iface
  | some (.func ..) => some .func
  | _ => none
/-- a slice's elements: their type, cells, bytes -/
def elemB (P : Program) (t : TypeId) : Option (TypeId × Nat × Nat) := match P.underlying t with
  | some (.slice e) => (P.info? e).map fun i => (e, i.size, i.bytes)
  | _ => none
def isConstO : Operand → Bool
  | .const _ => true
  | _ => false
/-- a struct's field: its place, is it a struct or an array, its cells -/
def fieldB (P : Program) (t : TypeId) (f : Nat) : Option (Nat × Bool × Nat) := match P.underlying t with
  | some (.struct fs) => (fs[f]?).bind fun x => (tyB P x.type).map fun (a, n) => (x.offset, a, n)
  | _ => none
/-- the parts of a literal: where, and what -/
def partsP (E : Env) (ts : List AV) (place : Nat → Option (Nat × Nat)) : List (Nat × Operand) → Option (List (Nat × Nat × AV))
  | [] => some []
  | (i, x) :: rest => match place i, partsP E ts place rest with
    | some (off, n), some l => some ((off, n, ev E ts x) :: l)
    | _, _ => none
def partsB (E : Env) (P : Program) (ts : List AV) (t : TypeId) (parts : List (Nat × Operand)) : Option (List (Nat × Nat × AV)) :=
  match P.underlying t with
  | some (.struct fs) => match fs.toList.mapM (fun f => (P.info? f.type).map fun i => (f.offset, i.size)) with
    | some places => partsP E ts (places.toArray[·]?) parts
    | none => none
  | some (.array _ e) => match P.info? e with
    | some ie => partsP E ts (fun i => some (i * ie.size, ie.size)) parts
    | none => none
  | _ => none
def convA (d : TypeDesc) (x : AV) : Option AV :=
  match d, x with
  | .int k, .val (.int _ n) => some (.val (.int k (k.wrap n)))
  | .string, .val (.string s) => some (.val (.string s))
  | .string, .val (.int _ n) => some (.val (.string (Utf8.encode n)))
  | _, _ => none

/-- an operation -/
def opW (E : Env) (P : Program) (o : Oper) (ts : List AV) (H : AH) (K : Kt) : Prop :=
  match o.op with
  | .move x => K (ev E ts x) H
  | .assign x => K (ev E ts x) H
  | .pick c a b => wGet (pickA (ev E ts c) (ev E ts a) (ev E ts b)) H K
  | .alloc t => match tyB P t with
    | some (_, n) => wNew n (zeroB P t) H K
    | none => False
  | .box t x => match tyB P t with
    | some (_, n) => wNew n (ev E ts x).cells? H K
    | none => False
  | .build t parts => match partsB E P ts t parts.toList, zeroB P t with
    | some l, some z => wAgg (fillA z l) H K
    | _, _ => False
  | .buildSlice t len parts => match elemB P t with
    | some (e, n, _) => match zeroB P e, partsP E ts (fun i => some (i * n, n)) parts.toList with
      | some z, some l => if len * n ≤ 2 ^ 24 then wNewS n len (fillA (List.replicate len z).flatten l) H K else False
      | _, _ => False
    | none => False
  | .load t a => match tyB P t with
    | some (true, n) => wGet (loadN n (ev E ts a) H) H K
    | some (false, _) => wGet (load1 (ev E ts a) H) H K
    | none => False
  | .store t a x => match tyB P t with
    | some (true, n) => wPut (storeN n (ev E ts a) (ev E ts x) H) K
    | some (false, n) => if n = 1 then wPut (store1 (ev E ts a) (ev E ts x) H) K else False
    | none => False
  | .nilCheck x => wGet (nilA (ev E ts x)) H K
  | .binOp op t x y _ => match shpB P t with
    | some s => match op with
      | .eql => if s = .iface ∧ !(isConstO x || isConstO y) then False else wBool (eqA s (ev E ts x) (ev E ts y)) H false K
      | .neq => if s = .iface ∧ !(isConstO x || isConstO y) then False else wBool (eqA s (ev E ts x) (ev E ts y)) H true K
      | _ => False
    | none => wGet (binA op (ev E ts x) (ev E ts y)) H K
  | .unOp op _ x => wGet (unA op (ev E ts x)) H K
  | .convert s t x => match P.underlying s, P.underlying t with
    | some _, some d => wGet (convA d (ev E ts x)) H K
    | _, _ => False
  | .makeInterface t x => match P.underlying t with
    | some (.interface _) => False
    | some _ => if E.ty (E.tk t) = t then K (.ifc (E.tk t) (ev E ts x)) H else False
    | none => False
  | .makeFunc f fs cs => match f with
    | .func f => if E.fn (E.fk f) = f then K (.fn (E.fk f) (fs.toList.map (ev E ts)) (cs.toList.map (ev E ts))) H else False
    | _ => False
  | .slice t x lo hi m => match m with
    | some _ => False
    | none => match P.underlying t with
      | some .string => wGet (sliceS (ev E ts x) (lo.map (ev E ts)) (hi.map (ev E ts))) H K
      | some (.slice _) => match elemB P t with
        | some (_, n, _) => wGet (sliceA n (ev E ts x) (lo.map (ev E ts)) (hi.map (ev E ts)) H) H K
        | none => False
      | _ => False
  | .fieldAddr t x f => match fieldB P t f with
    | some (off, _, n) => if n = 0 then False else wGet (faddr off (ev E ts x)) H K
    | none => False
  | .field t x f => match fieldB P t f with
    | some (off, a, n) => wGet (fieldA off n a (ev E ts x)) H K
    | none => False
  | .indexAddr t x i => match P.underlying t with
    | some (.slice e) => match tyB P e with
      | some (_, n) => wGet (iaddr n (ev E ts x) (ev E ts i)) H K
      | none => False
    | some (.array len e) => match tyB P e with
      | some (_, n) => wGet (iaddrArr n len (ev E ts x) (ev E ts i)) H K
      | none => False
    | _ => False
  | .index t x i => match P.underlying t with
    | some .string => wGet (idxStr (ev E ts x) (ev E ts i)) H K
    | some (.array len e) => match tyB P e with
      | some (a, n) => wGet (idxArr n len a (ev E ts x) (ev E ts i)) H K
      | none => False
    | _ => False
  | .extract t i => wGet (extractA (ev E ts t) i) H K
  | .typeAssert x _ t ok => match P.underlying t with
    | some (.interface _) => match (P.info? t).bind (·.zero) with
      | some .nilIface => if E.ty (E.tk t) = t ∧ ok = true then wAsI E P (E.tk t) (ev E ts x) H K else False
      | _ => False
    | some _ => match ok with
      | true => match zeroV P t with
        | some z => if E.ty (E.tk t) = t then wGet (assertA (E.tk t) z (ev E ts x)) H K else False
        | none => False
      | false => if E.ty (E.tk t) = t then wGet (assert1 (E.tk t) (ev E ts x)) H K else False
    | none => False
  | .makeSlice t l c => match elemB P t with
    | some (e, n, b) => match zeroB P e with
      | some z => wMake n b z (ev E ts l) (ev E ts c) H K
      | none => False
    | none => False
  | .makeMap _ r => match r with
    | none => wMapN H K
    | some _ => False
  | .insert t m k v => match mapB P t with
    | some (d, _) => wPut (insertA d (ev E ts m) (ev E ts k) (ev E ts v) H) K
    | none => False
  | .mapUpdate t m k v => match mapB P t with
    | some (d, _) => wPut (insertA d (ev E ts m) (ev E ts k) (ev E ts v) H) K
    | none => False
  | .lookup t m k ok => match mapB P t with
    | some (d, e) => match zeroV P e with
      | some z => wGet (lookupA d z ok (ev E ts m) (ev E ts k) H) H K
      | none => False
    | none => False
  | .call c => match c.callee with
    | .value (.func f) => if E.fn (E.fk f) = f then wCall E P (E.fk f) (c.args.toList.map (ev E ts)) H K else False
    | .value x => wCallV E P (ev E ts x) (c.args.toList.map (ev E ts)) H K
    | .builtin .len => match (c.argTypes[0]?).bind P.underlying, c.args.toList with
      | some .string, [x] => wGet (lenS (ev E ts x)) H K
      | some (.slice _), [x] => wGet (lenA (ev E ts x)) H K
      | _, _ => False
    | .invoke r m => wInv E P (ev E ts r) m (c.args.toList.map (ev E ts)) H K
    | .builtin .max => match c.args.toList with
      | [x, y] => wGet (minA true (ev E ts x) (ev E ts y)) H K
      | _ => False
    | .builtin .min => match c.args.toList with
      | [x, y] => wGet (minA false (ev E ts x) (ev E ts y)) H K
      | _ => False
    | .builtin .append => match (c.argTypes[0]?).bind (elemB P), (c.argTypes[1]?).bind P.underlying, c.args.toList with
      | some (e, n, b), some (.slice _), [s, x] => if (zeroB P e).isSome then wApp n b (ev E ts s) (ev E ts x) H K else False
      | some (e, n, b), some .string, [s, x] => if (zeroB P e).isSome then wApp n b (ev E ts s) (ev E ts x) H K else False
      | _, _, _ => False
    | _ => False
  | _ => False

/-- operations that only look -/
def readOp : Op → Bool
  | .move _ | .assign _ | .pick .. | .build .. | .load .. | .nilCheck _ | .binOp .. | .unOp .. | .convert .. | .makeInterface .. | .makeFunc .. | .slice .. | .fieldAddr .. | .field .. | .indexAddr .. | .index .. | .extract .. => true
  | .call c => match c.callee with
    | .builtin .len => true
    | _ => false
  | _ => false

/-- the operations of a region, in the text's order -/
def opsW (E : Env) (P : Program) (all : Array Oper) : List Oper → List AV → AH → (List AV → AH → Prop) → Prop
  | [], ts, H, K => K ts H
  | o :: rest, ts, H, K =>
    match o.guard with
    | none => opW E P o ts H fun x H => opsW E P all rest (putT ts o.dst x) H K
    | some (j, want) => match (all[j]?).bind (·.dst) with
      | some d => wGuard (ts.getD d undefA) want H (fun k => opW E P o ts H k) fun x H => opsW E P all rest (putT ts o.dst x) H K
      | none => False

/-- an operation of a region under its guard -/
def opG (E : Env) (P : Program) (all : Array Oper) (o : Oper) (ts : List AV) (H : AH) (K : Kt) : Prop :=
  match o.guard with
  | none => opW E P o ts H K
  | some (j, want) => match (all[j]?).bind (·.dst) with
    | some d => wGuard (ts.getD d undefA) want H (fun k => opW E P o ts H k) K
    | none => False

/-- what only looks, and writes a temporary that nobody else writes -/
def lookOp : Op → Bool
  | .assign _ => false
  | o => readOp o
/-- does an operation that only looks look into memory? -/
def heapOp : Op → Bool
  | .load .. | .slice .. => true
  | _ => false
/-- on which operations one waits, and those on which these wait -/
def anc (ops : Array Oper) : Nat → Nat → List Nat
  | 0, _ => []
  | f + 1, i => match ops[i]? with
    | some o => (o.after.toList.filter (Region.binds .any)).flatMap fun e => e.on :: anc ops f e.on
    | none => []
/-- which operations that have looked are asked again behind operation 'i' -/
def again (ops : Array Oper) (done : Array Bool) (i : Nat) : List Nat :=
  (List.range ops.size).filter fun j => done.getD j false && (match ops[j]? with | some o => lookOp o.op && heapOp o.op | none => false) && !(anc ops ops.size i).contains j
def againW (E : Env) (P : Program) (ops : Array Oper) (ts : List AV) (H : AH) : List Nat → Prop → Prop
  | [], p => p
  | j :: l, p => match ops[j]? with
    | some o => match o.dst with
      | some d => opG E P ops o ts H (fun y H' => y = ts.getD d undefA ∧ H' = H) ∧ againW E P ops ts H l p
      | none => againW E P ops ts H l p
    | none => againW E P ops ts H l p
def firstRead (ops : Array Oper) : List Nat → Option Nat
  | [] => none
  | i :: l => match ops[i]? with
    | some o => if lookOp o.op then some i else firstRead ops l
    | none => firstRead ops l
def allW : List Prop → Prop
  | [] => False
  | [p] => p
  | p :: l => p ∧ allW l
/-- a region whose order is open: what only looks as soon as it may; all else in each order -/
def drawW (E : Env) (P : Program) (ops : Array Oper) : Nat → Array Bool → List AV → AH → (List AV → AH → Prop) → Prop
  | 0, done, ts, H, K => if Region.ready .any ops done = [] then K ts H else False
  | f + 1, done, ts, H, K =>
    match firstRead ops (Region.ready .any ops done) with
    | some i => match ops[i]? with
      | some o => opG E P ops o ts H fun x H' => drawW E P ops f (done.setIfInBounds i true) (putT ts o.dst x) H' K
      | none => False
    | none => match Region.ready .any ops done with
      | [] => K ts H
      | l => allW (l.map fun i => match ops[i]? with
        | some o => opG E P ops o ts H fun x H' => againW E P ops (putT ts o.dst x) H' (again ops done i) (drawW E P ops f (done.setIfInBounds i true) (putT ts o.dst x) H' K)
        | none => False)
def waits (y : Oper) (i : Nat) : Bool := y.after.any fun e => Region.binds .any e && e.on == i
/-- what only looks writes a temporary of its own; who looks at it waits for it; and nobody writes what it looks at but in an order -/
def pairsOk (ops : Array Oper) : Bool :=
  (List.range ops.size).all fun i => match ops[i]? with
    | none => true
    | some x => (x.after.all fun e => !Region.binds .any e || decide (e.on < i)) &&
      (if lookOp x.op then (match x.dst with
          | none => false
          | some d => !(x.looksAt ops).contains d && (List.range ops.size).all fun j => i == j || match ops[j]? with
            | none => true
            | some y => y.dst != some d && (!(y.looksAt ops).contains d || waits y i))
        else (match x.dst with
          | none => true
          | some d => (List.range ops.size).all fun j => i == j || match ops[j]? with
            | none => true
            | some y => !lookOp y.op || !(y.looksAt ops).contains d || waits y i || waits x j))
def drawOk (P : Program) (ops : Array Oper) (n : Nat) : Bool :=
  P.follows .mixedOrders && Region.noSelect ops && pairsOk ops && ops.toList.all fun o => match o.dst with
    | some d => decide (d < n)
    | none => true

/-- a step that leaves memory as it is, and comes to one value -/
def wOne (op : AH → Kt → Prop) (H : AH) (K : Kt) : Prop := ∃ x, (∀ n K', (∀ n', K' x ⟨H.bs, n'⟩) → op ⟨H.bs, n⟩ K') ∧ K x H
def wAll (H : AH) (k : AH → Prop) : Prop := ∀ n, k ⟨H.bs, n⟩
/-- a region whose order is open, of steps that leave memory as it is: one order is enough -/
def freeW (E : Env) (P : Program) (ops : Array Oper) : List Oper → List AV → AH → (List AV → AH → Prop) → Prop
  | [], ts, H, K => wAll H fun H => K ts H
  | o :: rest, ts, H, K =>
    if lookOp o.op then opG E P ops o ts H fun x H' => freeW E P ops rest (putT ts o.dst x) H' K
    else wOne (fun H k => opG E P ops o ts H k) H fun x H' => freeW E P ops rest (putT ts o.dst x) H' K
/-- each writes a temporary of its own, and who looks at it waits for it -/
def freeOk (ops : Array Oper) : Bool :=
  (List.range ops.size).all fun i => match ops[i]? with
    | none => true
    | some x => match x.dst with
      | none => true
      | some d => !(x.looksAt ops).contains d && (List.range ops.size).all fun j => i == j || match ops[j]? with
        | none => true
        | some y => y.dst != some d && (!(y.looksAt ops).contains d || waits y i)

def AX.then (next : List AV → AH → Prop) (Q : AX → List AV → AH → Prop) : AX → List AV → AH → Prop
  | .normal, ts, H => next ts H
  | e, ts, H => Q e ts H
def AX.inBlock (id : Nat) (Q : AX → List AV → AH → Prop) : AX → List AV → AH → Prop
  | .exit i, ts, H => if i = id then Q .normal ts H else Q (.exit i) ts H
  | e, ts, H => Q e ts H

def wpC (E : Env) (P : Program) : Code → Ann → (AX → List AV → AH → Prop) → List AV → AH → Prop
  | .skip, _, Q, ts, H => Q .normal ts H
  | .region _ ops false, _, Q, ts, H => opsW E P ops ops.toList ts H (Q .normal)
  | .region _ ops true, .draw, Q, ts, H => if drawOk P ops ts.length = true then drawW E P ops ops.size (Array.replicate ops.size false) ts H (Q .normal) else False
  | .region _ ops true, .free, Q, ts, H => if (drawOk P ops ts.length && freeOk ops) = true then freeW E P ops ops.toList ts H (Q .normal) else False
  | .seq a b, .seq none x y, Q, ts, H => wpC E P a x (AX.then (wpC E P b y Q) Q) ts H
  | .seq a b, .seq (some l) x y, Q, ts, H =>
    wJoin l.length (fun J => wpC E P a x (AX.then (fun ts' H' => KN.app l.length J (looks ts' l) H') Q) ts H)
      (KN.of l.length fun xs H' => wpC E P b y Q (fillW (Code.writes a) (junkL ts (Code.writes a)) l xs) H')
  | .cond c a b, .two x y, Q, ts, H => wIf (ev E ts c) (wpC E P a x Q ts H) (wpC E P b y Q ts H)
  | .block id a, .one x, Q, ts, H => wpC E P a x (AX.inBlock id Q) ts H
  | .loop a, .loop l x, Q, ts, H =>
    wLoop l.length (fun I => KN.app l.length I (looks ts l) H)
      fun I => KN.of l.length fun xs H' => wpC E P a x (AX.then (fun ts' H'' => KN.app l.length I (looks ts' l) H'') Q) (fillW (Code.writes a) (junkL ts (Code.writes a)) l xs) H'
  | .exit id, _, Q, ts, H => Q (.exit id) ts H
  | .ret, _, Q, ts, H => Q .ret ts H
  | _, _, _, _, _ => False

/-- the results -/
def isTmpR : ResultVar → Bool
  | .tmp _ => true
  | _ => false
def tmpA (ts : List AV) : ResultVar → AV
  | .tmp t => ts.getD t undefA
  | _ => undefA
def retA (P : Program) (ts : List AV) (H : AH) : ResultVar → Option AV
  | .tmp t => some (ts.getD t undefA)
  | .cell ad t => match tyB P t with
    | some (true, n) => loadN n (ts.getD ad undefA) H
    | some (false, _) => load1 (ts.getD ad undefA) H
    | none => none
def allSome : List (Option AV) → Option (List AV)
  | [] => some []
  | some x :: l => (allSome l).map (x :: ·)
  | none :: _ => none
def retPack (l : List (Option AV)) : Option AV :=
  match allSome l with
  | some [x] => some x
  | some xs => some (.tup xs)
  | none => none
def retW (P : Program) (fn : Func) (ts : List AV) (H : AH) (R : Kt) : Prop :=
  match fn.results.toList with
  | [.tmp t] => R (ts.getD t undefA) H
  | l => if (l.all isTmpR && l.length != 1) = true then R (.tup (l.map (tmpA ts))) H else wGet (retPack (l.map (retA P ts H))) H R
def bodyW (E : Env) (P : Program) (fn : Func) (n : Ann) (args : List AV) (H : AH) (R : Kt) : Prop :=
  match fn.body with
  | some c => wpC E P c n (fun e ts H => match e with | .exit _ => False | _ => retW P fn ts H R) (args ++ List.replicate (fn.ntmps - args.length) undefA) H
  | none => False
end Go.Sc
