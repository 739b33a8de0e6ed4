/-
  LOOPS AND JOINS, OF SO MANY VARIABLES; CALLS.
-/
import Derived.Test.YtdhcpnachceklaaDoorScO
namespace Go.Sc
open Go

def gh0 (I : AH → Prop) : AH → Prop := fun H => KN.gh 0 I H
def back0 (I : Nat → AH → Prop) (m : Nat) : AH → Prop := fun H => ∃ m', m' < m ∧ gh0 (I m') H
theorem gh0.of {I : AH → Prop} {H H' : AH} (hg : Ghost [] H [] H') (h : I H') : gh0 I H := ⟨[], H', rfl, hg, h⟩
theorem gh0.mk {I : AH → Prop} {H : AH} (h : I H) : gh0 I H := gh0.of (.refl _ _) h
theorem back0.of {I : Nat → AH → Prop} {m : Nat} (m' : Nat) (hm : m' < m) {H H' : AH} (hg : Ghost [] H [] H') (h : I m' H') : back0 I m H := ⟨m', hm, gh0.of hg h⟩
theorem back0.mk {I : Nat → AH → Prop} {m : Nat} (m' : Nat) (hm : m' < m) {H : AH} (h : I m' H) : back0 I m H := back0.of m' hm (.refl _ _) h
theorem wLoop.zero {init : KN 0 → Prop} {body : KN 0 → KN 0} (I : Nat → AH → Prop) (m0 : Nat) (hi : init (gh0 (I m0))) (hb : ∀ m H, I m H → body (back0 I m) H) : wLoop 0 init body := ⟨I, ⟨m0, hi⟩, hb⟩
theorem wJoin.zero {m : KN 0 → Prop} {k : KN 0} (J : AH → Prop) (hm : m (gh0 J)) (hk : ∀ H, J H → k H) : wJoin 0 m k := ⟨J, hm, hk⟩

def gh1 (I : AV → AH → Prop) : AV → AH → Prop := fun x0 H => KN.gh 1 I x0 H
def back1 (I : Nat → AV → AH → Prop) (m : Nat) : AV → AH → Prop := fun x0 H => ∃ m', m' < m ∧ gh1 (I m') x0 H
theorem gh1.of {I : AV → AH → Prop} {x0 x0' : AV} {H H' : AH} (hg : Ghost [x0] H [x0'] H') (h : I x0' H') : gh1 I x0 H := ⟨[x0'], H', rfl, hg, h⟩
theorem gh1.mk {I : AV → AH → Prop} {x0 : AV} {H : AH} (h : I x0 H) : gh1 I x0 H := gh1.of (.refl _ _) h
theorem back1.of {I : Nat → AV → AH → Prop} {m : Nat} (m' : Nat) (hm : m' < m) {x0 x0' : AV} {H H' : AH} (hg : Ghost [x0] H [x0'] H') (h : I m' x0' H') : back1 I m x0 H := ⟨m', hm, gh1.of hg h⟩
theorem back1.mk {I : Nat → AV → AH → Prop} {m : Nat} (m' : Nat) (hm : m' < m) {x0 : AV} {H : AH} (h : I m' x0 H) : back1 I m x0 H := back1.of m' hm (.refl _ _) h
theorem wLoop.one {init : KN 1 → Prop} {body : KN 1 → KN 1} (I : Nat → AV → AH → Prop) (m0 : Nat) (hi : init (gh1 (I m0))) (hb : ∀ m x0 H, I m x0 H → body (back1 I m) x0 H) : wLoop 1 init body := ⟨I, ⟨m0, hi⟩, hb⟩
theorem wJoin.one {m : KN 1 → Prop} {k : KN 1} (J : AV → AH → Prop) (hm : m (gh1 J)) (hk : ∀ x0 H, J x0 H → k x0 H) : wJoin 1 m k := ⟨J, hm, hk⟩

def gh2 (I : AV → AV → AH → Prop) : AV → AV → AH → Prop := fun x0 x1 H => KN.gh 2 I x0 x1 H
def back2 (I : Nat → AV → AV → AH → Prop) (m : Nat) : AV → AV → AH → Prop := fun x0 x1 H => ∃ m', m' < m ∧ gh2 (I m') x0 x1 H
theorem gh2.of {I : AV → AV → AH → Prop} {x0 x1 x0' x1' : AV} {H H' : AH} (hg : Ghost [x0, x1] H [x0', x1'] H') (h : I x0' x1' H') : gh2 I x0 x1 H := ⟨[x0', x1'], H', rfl, hg, h⟩
theorem gh2.mk {I : AV → AV → AH → Prop} {x0 x1 : AV} {H : AH} (h : I x0 x1 H) : gh2 I x0 x1 H := gh2.of (.refl _ _) h
theorem back2.of {I : Nat → AV → AV → AH → Prop} {m : Nat} (m' : Nat) (hm : m' < m) {x0 x1 x0' x1' : AV} {H H' : AH} (hg : Ghost [x0, x1] H [x0', x1'] H') (h : I m' x0' x1' H') : back2 I m x0 x1 H := ⟨m', hm, gh2.of hg h⟩
theorem back2.mk {I : Nat → AV → AV → AH → Prop} {m : Nat} (m' : Nat) (hm : m' < m) {x0 x1 : AV} {H : AH} (h : I m' x0 x1 H) : back2 I m x0 x1 H := back2.of m' hm (.refl _ _) h
theorem wLoop.two {init : KN 2 → Prop} {body : KN 2 → KN 2} (I : Nat → AV → AV → AH → Prop) (m0 : Nat) (hi : init (gh2 (I m0))) (hb : ∀ m x0 x1 H, I m x0 x1 H → body (back2 I m) x0 x1 H) : wLoop 2 init body := ⟨I, ⟨m0, hi⟩, hb⟩
theorem wJoin.two {m : KN 2 → Prop} {k : KN 2} (J : AV → AV → AH → Prop) (hm : m (gh2 J)) (hk : ∀ x0 x1 H, J x0 x1 H → k x0 x1 H) : wJoin 2 m k := ⟨J, hm, hk⟩

def gh3 (I : AV → AV → AV → AH → Prop) : AV → AV → AV → AH → Prop := fun x0 x1 x2 H => KN.gh 3 I x0 x1 x2 H
def back3 (I : Nat → AV → AV → AV → AH → Prop) (m : Nat) : AV → AV → AV → AH → Prop := fun x0 x1 x2 H => ∃ m', m' < m ∧ gh3 (I m') x0 x1 x2 H
theorem gh3.of {I : AV → AV → AV → AH → Prop} {x0 x1 x2 x0' x1' x2' : AV} {H H' : AH} (hg : Ghost [x0, x1, x2] H [x0', x1', x2'] H') (h : I x0' x1' x2' H') : gh3 I x0 x1 x2 H := ⟨[x0', x1', x2'], H', rfl, hg, h⟩
theorem gh3.mk {I : AV → AV → AV → AH → Prop} {x0 x1 x2 : AV} {H : AH} (h : I x0 x1 x2 H) : gh3 I x0 x1 x2 H := gh3.of (.refl _ _) h
theorem back3.of {I : Nat → AV → AV → AV → AH → Prop} {m : Nat} (m' : Nat) (hm : m' < m) {x0 x1 x2 x0' x1' x2' : AV} {H H' : AH} (hg : Ghost [x0, x1, x2] H [x0', x1', x2'] H') (h : I m' x0' x1' x2' H') : back3 I m x0 x1 x2 H := ⟨m', hm, gh3.of hg h⟩
theorem back3.mk {I : Nat → AV → AV → AV → AH → Prop} {m : Nat} (m' : Nat) (hm : m' < m) {x0 x1 x2 : AV} {H : AH} (h : I m' x0 x1 x2 H) : back3 I m x0 x1 x2 H := back3.of m' hm (.refl _ _) h
theorem wLoop.three {init : KN 3 → Prop} {body : KN 3 → KN 3} (I : Nat → AV → AV → AV → AH → Prop) (m0 : Nat) (hi : init (gh3 (I m0))) (hb : ∀ m x0 x1 x2 H, I m x0 x1 x2 H → body (back3 I m) x0 x1 x2 H) : wLoop 3 init body := ⟨I, ⟨m0, hi⟩, hb⟩
theorem wJoin.three {m : KN 3 → Prop} {k : KN 3} (J : AV → AV → AV → AH → Prop) (hm : m (gh3 J)) (hk : ∀ x0 x1 x2 H, J x0 x1 x2 H → k x0 x1 x2 H) : wJoin 3 m k := ⟨J, hm, hk⟩

def gh4 (I : AV → AV → AV → AV → AH → Prop) : AV → AV → AV → AV → AH → Prop := fun x0 x1 x2 x3 H => KN.gh 4 I x0 x1 x2 x3 H
def back4 (I : Nat → AV → AV → AV → AV → AH → Prop) (m : Nat) : AV → AV → AV → AV → AH → Prop := fun x0 x1 x2 x3 H => ∃ m', m' < m ∧ gh4 (I m') x0 x1 x2 x3 H
theorem gh4.of {I : AV → AV → AV → AV → AH → Prop} {x0 x1 x2 x3 x0' x1' x2' x3' : AV} {H H' : AH} (hg : Ghost [x0, x1, x2, x3] H [x0', x1', x2', x3'] H') (h : I x0' x1' x2' x3' H') : gh4 I x0 x1 x2 x3 H := ⟨[x0', x1', x2', x3'], H', rfl, hg, h⟩
theorem gh4.mk {I : AV → AV → AV → AV → AH → Prop} {x0 x1 x2 x3 : AV} {H : AH} (h : I x0 x1 x2 x3 H) : gh4 I x0 x1 x2 x3 H := gh4.of (.refl _ _) h
theorem back4.of {I : Nat → AV → AV → AV → AV → AH → Prop} {m : Nat} (m' : Nat) (hm : m' < m) {x0 x1 x2 x3 x0' x1' x2' x3' : AV} {H H' : AH} (hg : Ghost [x0, x1, x2, x3] H [x0', x1', x2', x3'] H') (h : I m' x0' x1' x2' x3' H') : back4 I m x0 x1 x2 x3 H := ⟨m', hm, gh4.of hg h⟩
theorem back4.mk {I : Nat → AV → AV → AV → AV → AH → Prop} {m : Nat} (m' : Nat) (hm : m' < m) {x0 x1 x2 x3 : AV} {H : AH} (h : I m' x0 x1 x2 x3 H) : back4 I m x0 x1 x2 x3 H := back4.of m' hm (.refl _ _) h
theorem wLoop.four {init : KN 4 → Prop} {body : KN 4 → KN 4} (I : Nat → AV → AV → AV → AV → AH → Prop) (m0 : Nat) (hi : init (gh4 (I m0))) (hb : ∀ m x0 x1 x2 x3 H, I m x0 x1 x2 x3 H → body (back4 I m) x0 x1 x2 x3 H) : wLoop 4 init body := ⟨I, ⟨m0, hi⟩, hb⟩
theorem wJoin.four {m : KN 4 → Prop} {k : KN 4} (J : AV → AV → AV → AV → AH → Prop) (hm : m (gh4 J)) (hk : ∀ x0 x1 x2 x3 H, J x0 x1 x2 x3 H → k x0 x1 x2 x3 H) : wJoin 4 m k := ⟨J, hm, hk⟩

def gh5 (I : AV → AV → AV → AV → AV → AH → Prop) : AV → AV → AV → AV → AV → AH → Prop := fun x0 x1 x2 x3 x4 H => KN.gh 5 I x0 x1 x2 x3 x4 H
def back5 (I : Nat → AV → AV → AV → AV → AV → AH → Prop) (m : Nat) : AV → AV → AV → AV → AV → AH → Prop := fun x0 x1 x2 x3 x4 H => ∃ m', m' < m ∧ gh5 (I m') x0 x1 x2 x3 x4 H
theorem gh5.of {I : AV → AV → AV → AV → AV → AH → Prop} {x0 x1 x2 x3 x4 x0' x1' x2' x3' x4' : AV} {H H' : AH} (hg : Ghost [x0, x1, x2, x3, x4] H [x0', x1', x2', x3', x4'] H') (h : I x0' x1' x2' x3' x4' H') : gh5 I x0 x1 x2 x3 x4 H := ⟨[x0', x1', x2', x3', x4'], H', rfl, hg, h⟩
theorem gh5.mk {I : AV → AV → AV → AV → AV → AH → Prop} {x0 x1 x2 x3 x4 : AV} {H : AH} (h : I x0 x1 x2 x3 x4 H) : gh5 I x0 x1 x2 x3 x4 H := gh5.of (.refl _ _) h
theorem back5.of {I : Nat → AV → AV → AV → AV → AV → AH → Prop} {m : Nat} (m' : Nat) (hm : m' < m) {x0 x1 x2 x3 x4 x0' x1' x2' x3' x4' : AV} {H H' : AH} (hg : Ghost [x0, x1, x2, x3, x4] H [x0', x1', x2', x3', x4'] H') (h : I m' x0' x1' x2' x3' x4' H') : back5 I m x0 x1 x2 x3 x4 H := ⟨m', hm, gh5.of hg h⟩
theorem back5.mk {I : Nat → AV → AV → AV → AV → AV → AH → Prop} {m : Nat} (m' : Nat) (hm : m' < m) {x0 x1 x2 x3 x4 : AV} {H : AH} (h : I m' x0 x1 x2 x3 x4 H) : back5 I m x0 x1 x2 x3 x4 H := back5.of m' hm (.refl _ _) h
theorem wLoop.five {init : KN 5 → Prop} {body : KN 5 → KN 5} (I : Nat → AV → AV → AV → AV → AV → AH → Prop) (m0 : Nat) (hi : init (gh5 (I m0))) (hb : ∀ m x0 x1 x2 x3 x4 H, I m x0 x1 x2 x3 x4 H → body (back5 I m) x0 x1 x2 x3 x4 H) : wLoop 5 init body := ⟨I, ⟨m0, hi⟩, hb⟩
theorem wJoin.five {m : KN 5 → Prop} {k : KN 5} (J : AV → AV → AV → AV → AV → AH → Prop) (hm : m (gh5 J)) (hk : ∀ x0 x1 x2 x3 x4 H, J x0 x1 x2 x3 x4 H → k x0 x1 x2 x3 x4 H) : wJoin 5 m k := ⟨J, hm, hk⟩

def gh6 (I : AV → AV → AV → AV → AV → AV → AH → Prop) : AV → AV → AV → AV → AV → AV → AH → Prop := fun x0 x1 x2 x3 x4 x5 H => KN.gh 6 I x0 x1 x2 x3 x4 x5 H
def back6 (I : Nat → AV → AV → AV → AV → AV → AV → AH → Prop) (m : Nat) : AV → AV → AV → AV → AV → AV → AH → Prop := fun x0 x1 x2 x3 x4 x5 H => ∃ m', m' < m ∧ gh6 (I m') x0 x1 x2 x3 x4 x5 H
theorem gh6.of {I : AV → AV → AV → AV → AV → AV → AH → Prop} {x0 x1 x2 x3 x4 x5 x0' x1' x2' x3' x4' x5' : AV} {H H' : AH} (hg : Ghost [x0, x1, x2, x3, x4, x5] H [x0', x1', x2', x3', x4', x5'] H') (h : I x0' x1' x2' x3' x4' x5' H') : gh6 I x0 x1 x2 x3 x4 x5 H := ⟨[x0', x1', x2', x3', x4', x5'], H', rfl, hg, h⟩
theorem gh6.mk {I : AV → AV → AV → AV → AV → AV → AH → Prop} {x0 x1 x2 x3 x4 x5 : AV} {H : AH} (h : I x0 x1 x2 x3 x4 x5 H) : gh6 I x0 x1 x2 x3 x4 x5 H := gh6.of (.refl _ _) h
theorem back6.of {I : Nat → AV → AV → AV → AV → AV → AV → AH → Prop} {m : Nat} (m' : Nat) (hm : m' < m) {x0 x1 x2 x3 x4 x5 x0' x1' x2' x3' x4' x5' : AV} {H H' : AH} (hg : Ghost [x0, x1, x2, x3, x4, x5] H [x0', x1', x2', x3', x4', x5'] H') (h : I m' x0' x1' x2' x3' x4' x5' H') : back6 I m x0 x1 x2 x3 x4 x5 H := ⟨m', hm, gh6.of hg h⟩
theorem back6.mk {I : Nat → AV → AV → AV → AV → AV → AV → AH → Prop} {m : Nat} (m' : Nat) (hm : m' < m) {x0 x1 x2 x3 x4 x5 : AV} {H : AH} (h : I m' x0 x1 x2 x3 x4 x5 H) : back6 I m x0 x1 x2 x3 x4 x5 H := back6.of m' hm (.refl _ _) h
theorem wLoop.six {init : KN 6 → Prop} {body : KN 6 → KN 6} (I : Nat → AV → AV → AV → AV → AV → AV → AH → Prop) (m0 : Nat) (hi : init (gh6 (I m0))) (hb : ∀ m x0 x1 x2 x3 x4 x5 H, I m x0 x1 x2 x3 x4 x5 H → body (back6 I m) x0 x1 x2 x3 x4 x5 H) : wLoop 6 init body := ⟨I, ⟨m0, hi⟩, hb⟩
theorem wJoin.six {m : KN 6 → Prop} {k : KN 6} (J : AV → AV → AV → AV → AV → AV → AH → Prop) (hm : m (gh6 J)) (hk : ∀ x0 x1 x2 x3 x4 x5 H, J x0 x1 x2 x3 x4 x5 H → k x0 x1 x2 x3 x4 x5 H) : wJoin 6 m k := ⟨J, hm, hk⟩

def gh7 (I : AV → AV → AV → AV → AV → AV → AV → AH → Prop) : AV → AV → AV → AV → AV → AV → AV → AH → Prop := fun x0 x1 x2 x3 x4 x5 x6 H => KN.gh 7 I x0 x1 x2 x3 x4 x5 x6 H
def back7 (I : Nat → AV → AV → AV → AV → AV → AV → AV → AH → Prop) (m : Nat) : AV → AV → AV → AV → AV → AV → AV → AH → Prop := fun x0 x1 x2 x3 x4 x5 x6 H => ∃ m', m' < m ∧ gh7 (I m') x0 x1 x2 x3 x4 x5 x6 H
theorem gh7.of {I : AV → AV → AV → AV → AV → AV → AV → AH → Prop} {x0 x1 x2 x3 x4 x5 x6 x0' x1' x2' x3' x4' x5' x6' : AV} {H H' : AH} (hg : Ghost [x0, x1, x2, x3, x4, x5, x6] H [x0', x1', x2', x3', x4', x5', x6'] H') (h : I x0' x1' x2' x3' x4' x5' x6' H') : gh7 I x0 x1 x2 x3 x4 x5 x6 H := ⟨[x0', x1', x2', x3', x4', x5', x6'], H', rfl, hg, h⟩
theorem gh7.mk {I : AV → AV → AV → AV → AV → AV → AV → AH → Prop} {x0 x1 x2 x3 x4 x5 x6 : AV} {H : AH} (h : I x0 x1 x2 x3 x4 x5 x6 H) : gh7 I x0 x1 x2 x3 x4 x5 x6 H := gh7.of (.refl _ _) h
theorem back7.of {I : Nat → AV → AV → AV → AV → AV → AV → AV → AH → Prop} {m : Nat} (m' : Nat) (hm : m' < m) {x0 x1 x2 x3 x4 x5 x6 x0' x1' x2' x3' x4' x5' x6' : AV} {H H' : AH} (hg : Ghost [x0, x1, x2, x3, x4, x5, x6] H [x0', x1', x2', x3', x4', x5', x6'] H') (h : I m' x0' x1' x2' x3' x4' x5' x6' H') : back7 I m x0 x1 x2 x3 x4 x5 x6 H := ⟨m', hm, gh7.of hg h⟩
theorem back7.mk {I : Nat → AV → AV → AV → AV → AV → AV → AV → AH → Prop} {m : Nat} (m' : Nat) (hm : m' < m) {x0 x1 x2 x3 x4 x5 x6 : AV} {H : AH} (h : I m' x0 x1 x2 x3 x4 x5 x6 H) : back7 I m x0 x1 x2 x3 x4 x5 x6 H := back7.of m' hm (.refl _ _) h
theorem wLoop.seven {init : KN 7 → Prop} {body : KN 7 → KN 7} (I : Nat → AV → AV → AV → AV → AV → AV → AV → AH → Prop) (m0 : Nat) (hi : init (gh7 (I m0))) (hb : ∀ m x0 x1 x2 x3 x4 x5 x6 H, I m x0 x1 x2 x3 x4 x5 x6 H → body (back7 I m) x0 x1 x2 x3 x4 x5 x6 H) : wLoop 7 init body := ⟨I, ⟨m0, hi⟩, hb⟩
theorem wJoin.seven {m : KN 7 → Prop} {k : KN 7} (J : AV → AV → AV → AV → AV → AV → AV → AH → Prop) (hm : m (gh7 J)) (hk : ∀ x0 x1 x2 x3 x4 x5 x6 H, J x0 x1 x2 x3 x4 x5 x6 H → k x0 x1 x2 x3 x4 x5 x6 H) : wJoin 7 m k := ⟨J, hm, hk⟩

def gh8 (I : AV → AV → AV → AV → AV → AV → AV → AV → AH → Prop) : AV → AV → AV → AV → AV → AV → AV → AV → AH → Prop := fun x0 x1 x2 x3 x4 x5 x6 x7 H => KN.gh 8 I x0 x1 x2 x3 x4 x5 x6 x7 H
def back8 (I : Nat → AV → AV → AV → AV → AV → AV → AV → AV → AH → Prop) (m : Nat) : AV → AV → AV → AV → AV → AV → AV → AV → AH → Prop := fun x0 x1 x2 x3 x4 x5 x6 x7 H => ∃ m', m' < m ∧ gh8 (I m') x0 x1 x2 x3 x4 x5 x6 x7 H
theorem gh8.of {I : AV → AV → AV → AV → AV → AV → AV → AV → AH → Prop} {x0 x1 x2 x3 x4 x5 x6 x7 x0' x1' x2' x3' x4' x5' x6' x7' : AV} {H H' : AH} (hg : Ghost [x0, x1, x2, x3, x4, x5, x6, x7] H [x0', x1', x2', x3', x4', x5', x6', x7'] H') (h : I x0' x1' x2' x3' x4' x5' x6' x7' H') : gh8 I x0 x1 x2 x3 x4 x5 x6 x7 H := ⟨[x0', x1', x2', x3', x4', x5', x6', x7'], H', rfl, hg, h⟩
theorem gh8.mk {I : AV → AV → AV → AV → AV → AV → AV → AV → AH → Prop} {x0 x1 x2 x3 x4 x5 x6 x7 : AV} {H : AH} (h : I x0 x1 x2 x3 x4 x5 x6 x7 H) : gh8 I x0 x1 x2 x3 x4 x5 x6 x7 H := gh8.of (.refl _ _) h
theorem back8.of {I : Nat → AV → AV → AV → AV → AV → AV → AV → AV → AH → Prop} {m : Nat} (m' : Nat) (hm : m' < m) {x0 x1 x2 x3 x4 x5 x6 x7 x0' x1' x2' x3' x4' x5' x6' x7' : AV} {H H' : AH} (hg : Ghost [x0, x1, x2, x3, x4, x5, x6, x7] H [x0', x1', x2', x3', x4', x5', x6', x7'] H') (h : I m' x0' x1' x2' x3' x4' x5' x6' x7' H') : back8 I m x0 x1 x2 x3 x4 x5 x6 x7 H := ⟨m', hm, gh8.of hg h⟩
theorem back8.mk {I : Nat → AV → AV → AV → AV → AV → AV → AV → AV → AH → Prop} {m : Nat} (m' : Nat) (hm : m' < m) {x0 x1 x2 x3 x4 x5 x6 x7 : AV} {H : AH} (h : I m' x0 x1 x2 x3 x4 x5 x6 x7 H) : back8 I m x0 x1 x2 x3 x4 x5 x6 x7 H := back8.of m' hm (.refl _ _) h
theorem wLoop.eight {init : KN 8 → Prop} {body : KN 8 → KN 8} (I : Nat → AV → AV → AV → AV → AV → AV → AV → AV → AH → Prop) (m0 : Nat) (hi : init (gh8 (I m0))) (hb : ∀ m x0 x1 x2 x3 x4 x5 x6 x7 H, I m x0 x1 x2 x3 x4 x5 x6 x7 H → body (back8 I m) x0 x1 x2 x3 x4 x5 x6 x7 H) : wLoop 8 init body := ⟨I, ⟨m0, hi⟩, hb⟩
theorem wJoin.eight {m : KN 8 → Prop} {k : KN 8} (J : AV → AV → AV → AV → AV → AV → AV → AV → AH → Prop) (hm : m (gh8 J)) (hk : ∀ x0 x1 x2 x3 x4 x5 x6 x7 H, J x0 x1 x2 x3 x4 x5 x6 x7 H → k x0 x1 x2 x3 x4 x5 x6 x7 H) : wJoin 8 m k := ⟨J, hm, hk⟩


/-- room for new blocks -/
theorem ghost_room {bs : List Blk} {n : Nat} {xs : List AV} (ds : List Blk) (hd : ∀ x ∈ ds, x = .dead) : Ghost xs ⟨bs, n⟩ xs ⟨bs ++ ds, n⟩ := by
  refine ghost_kill (H := ⟨bs, n⟩) (H' := ⟨bs ++ ds, n⟩) (S := fun _ => false) rfl ?_ (FkL.same xs)
  have : ∀ (i : Nat) (l : List Blk), KBL ⟨bs, n⟩ (fun _ => false) i l (l ++ ds) := by
    intro i l
    induction l generalizing i with
    | nil => exact .room hd
    | cons x l ih => exact .keep rfl (KB.same x) (ih _)
  exact this 0 bs

section
variable {E : Env} {P : Program}
/-- a call that looks into memory of one's own, and whose results have no memory -/
theorem FR.borrow {k : Nat} {args args' : List AV} {R0 : AV → Prop} {H : AH} (h : FR E P k args' R0) (ha : FkL H S0 args args') (hr : ∀ r, R0 r → r.flat) : ACalls E P k args H fun r H' => R0 r ∧ ∃ n, H' = ⟨H.bs, n⟩ := by
  intro c vs hH hv o a next Q hn
  have hgh := ghost_all ha E c hH
  let c0 := c.kill S0
  have hH0 : HRel E c0 ⟨[], c.ctr⟩ := by
    refine ⟨rfl, fun b _ => by simp [c0, Cx.kill, S0], by simp, fun b hb => absurd (by simp [c0, Cx.kill, S0]) hb, by simp, fun b _ hb => absurd (by simp [c0, Cx.kill, S0]) hb, fun b hb => absurd (by simp [c0, Cx.kill, S0]) hb, ?_, hH.fclt, hH.globLe (c.kill_le S0)⟩
    rintro k (hk | ⟨b, hb, _, he⟩)
    · exact hH.fzlt k hk
    · rw [← he]; exact hH.lt b hb
  refine h.ok c.ctr c0 vs hH0 (ha.rel hH hv) o a next Q fun v w' hvw => hn v w' ?_
  obtain ⟨r, c1, H1, rfl, hr0, hH1, hv1, hL⟩ := hvw
  have hg0 : ∀ b, c0.gen b = none := fun b => by simp [c0, Cx.kill, S0]
  have hheap : ∀ k, k < c.w.heap.size → c1.w.heap[k]? = c.w.heap[k]? := fun k hk => hL.keep k hk fun b hb => absurd (hg0 b) hb
  let c2 : Cx := { w := c1.w, al := c.al, base := c.base, gen := c.gen, sz := c.sz, csz := c.csz, fz := fun k => c1.fz k ∧ ∀ b, c.gen b ≠ none → c.al b ≠ k, fc := fun k j => c.fc k j ∨ (c1.fc k j ∧ ∀ b, c.gen b ≠ none → c.al b ≠ k), ctr := c1.ctr }
  have hle : c.le c2 := {
    ctr := hL.le.ctr
    fz := fun k hk => ⟨⟨(hL.le.fz k (.inl hk)).1, fun b hb he => hH.apart b hb (he ▸ hk)⟩, hheap k (hH.fzlt k hk)⟩
    fc := fun k j hk => ⟨.inr (.inl hk), cell_of_heap (hheap k (hH.fclt k j hk)) _ _⟩
    gen := fun b g _ e => ⟨e, rfl, rfl, rfl, rfl⟩
    room := fun b g _ e j hj => by
      rcases hj with hj | ⟨_, hj⟩
      · exact hj
      · exact absurd rfl (hj b (by rw [show c.gen b = some g from e]; simp)) }
  have hsz : c.w.heap.size ≤ c1.w.heap.size := hL.size
  refine ⟨r, c2, ⟨H.bs, c1.ctr⟩, rfl, ⟨hr0, c1.ctr, rfl⟩, ⟨rfl, hH.out, fun b x hb => (hH.blk b x hb).mono hle rfl rfl rfl rfl rfl (fun hd => hheap _ (hH.lt b (hH.live' hb hd))), fun b hb hk => hk.2 b hb rfl, ?_, hH.inj, fun b hb => Nat.lt_of_lt_of_le (hH.lt b hb) hsz, fun k hk => hH1.fzlt k hk.1, ?_, hH.globLe hle⟩, VRel.ofFlat r v (hr r hr0) hv1, ?_⟩
  · intro b x hb hd ht j hj
    rcases hj with hj | ⟨_, hj⟩
    · exact hH.solid b x hb hd ht j hj
    · exact hj b (hH.live' hb hd) rfl
  · intro k j hk
    rcases hk with hk | ⟨hk, _⟩
    · exact Nat.lt_of_lt_of_le (hH.fclt k j hk) hsz
    · exact hH1.fclt k j hk
  · exact {
      le := hle
      os := hL.os
      tape := hL.tape
      output := hL.output
      size := hL.size
      keep := fun k hk _ => hheap k hk
      own := fun b hb => .inl ⟨b, hb, rfl⟩
      fz := fun k hk => by
        rcases hL.fz k hk.1 with (h1 | ⟨b, hb, _, he⟩) | h1 | ⟨b, hb, _⟩
        · exact .inl h1
        · exact absurd he (hk.2 b hb)
        · exact .inr (.inl h1)
        · exact absurd (hg0 b) hb
      fc := fun k j hk => by
        rcases hk with hk | ⟨hk, _⟩
        · exact .inl hk
        · rcases hL.fc k j hk with h1 | h1 | ⟨b, hb, _⟩
          · exact .inl h1
          · exact .inr (.inl h1)
          · exact absurd (hg0 b) hb }

theorem wCall.bo {k : Nat} {args args' : List AV} {r : AV} {H : AH} {K : Kt} (h : FX E P k args' r) (hr : r.flat) (ha : FkL H S0 args args') (hK : ∀ n, K r ⟨H.bs, n⟩) : wCall E P k args H K :=
  ⟨_, h.fr.borrow ha (fun _ e => e ▸ hr), fun x _ ⟨h1, n, h2⟩ => by subst h1; subst h2; exact hK n⟩
/-- frozen for good: by a step of the proof alone -/
theorem wCall.gh {k : Nat} {args args' : List AV} {R0 : AV → Prop} {H H' : AH} {K : Kt} (hg : Ghost args H args' H') (h : FR E P k args' R0) (hK : ∀ r n, R0 r → K r ⟨H'.bs, n⟩) : wCall E P k args H K :=
  ⟨_, ACalls.args hg (h.lift H'), fun r _ ⟨h1, n, h2⟩ => h2 ▸ hK r n h1⟩
theorem wCallV.fr {k : Nat} {fs args cs args' : List AV} {R0 : AV → Prop} {H : AH} {K : Kt} (h : FR E P k args' R0) (hs : SubL (fs ++ args ++ cs) args') (hK : ∀ r n, R0 r → K r ⟨H.bs, n⟩) : wCallV E P (.fn k fs cs) args H K :=
  ⟨k, fs, cs, rfl, _, ACalls.args (ghost_sub hs) (h.lift H), fun r _ ⟨h1, n, h2⟩ => h2 ▸ hK r n h1⟩
theorem wCallV.fx {k : Nat} {fs args cs : List AV} {r : AV} {H : AH} {K : Kt} (h : FX E P k (fs ++ args ++ cs) r) (hK : ∀ n, K r ⟨H.bs, n⟩) : wCallV E P (.fn k fs cs) args H K :=
  .fr h.fr (.refl _) fun _ n e => e ▸ hK n
theorem wCallV.bo {k : Nat} {fs args cs args' : List AV} {r : AV} {H : AH} {K : Kt} (h : FX E P k args' r) (hr : r.flat) (ha : FkL H S0 (fs ++ args ++ cs) args') (hK : ∀ n, K r ⟨H.bs, n⟩) : wCallV E P (.fn k fs cs) args H K :=
  ⟨k, fs, cs, rfl, _, h.fr.borrow ha (fun _ e => e ▸ hr), fun x _ ⟨h1, n, h2⟩ => by subst h1; subst h2; exact hK n⟩
theorem wInv.fr {f k : Nat} {a : AV} {name : String} {args args' : List AV} {R0 : AV → Prop} {H : AH} {K : Kt} (hm : MethodIs E P k name f) (h : FR E P f args' R0) (hs : SubL (a :: args) args') (hK : ∀ r n, R0 r → K r ⟨H.bs, n⟩) : wInv E P (.ifc k a) name args H K :=
  ⟨k, a, f, rfl, hm, _, ACalls.args (ghost_sub hs) (h.lift H), fun r _ ⟨h1, n, h2⟩ => h2 ▸ hK r n h1⟩
theorem wInv.fx {f k : Nat} {a : AV} {name : String} {args : List AV} {r : AV} {H : AH} {K : Kt} (hm : MethodIs E P k name f) (h : FX E P f (a :: args) r) (hK : ∀ n, K r ⟨H.bs, n⟩) : wInv E P (.ifc k a) name args H K :=
  .fr hm h.fr (.refl _) fun _ n e => e ▸ hK n

/-- a call that writes blocks of the caller's -/
theorem wCall.lc {k : Nat} {B : List Blk} {args args0 : List AV} {R0 : AV → List Blk → Prop} {H : AH} {K : Kt} (mv : List Nat) (h : LC E P k B args0 R0) (hn : mv.Nodup) (hl : mv.length = B.length)
    (hB : ∀ (i : Nat) b x, mv[i]? = some b → B[i]? = some x → H.bs[b]? = some (x.ren (rmap mv H.bs.length))) (ha : SubL args (AV.renL (rmap mv H.bs.length) args0))
    (hK : ∀ r B' n, R0 r B' → B'.length = B.length → K (r.ren (rmap mv H.bs.length)) ⟨setL H.bs mv (B'.map (Blk.ren (rmap mv H.bs.length))), n⟩) : wCall E P k args H K :=
  ⟨_, ACalls.args (ghost_sub ha) (ACalls.frame h.ok hn hl hB rfl), fun r _ ⟨r0, B', n, h1, h2, h3, h4⟩ => by subst h3; subst h4; exact hK r0 B' n h1 h2⟩
theorem wCallV.lc {k : Nat} {B : List Blk} {fs args cs args0 : List AV} {R0 : AV → List Blk → Prop} {H : AH} {K : Kt} (mv : List Nat) (h : LC E P k B args0 R0) (hn : mv.Nodup) (hl : mv.length = B.length)
    (hB : ∀ (i : Nat) b x, mv[i]? = some b → B[i]? = some x → H.bs[b]? = some (x.ren (rmap mv H.bs.length))) (ha : SubL (fs ++ args ++ cs) (AV.renL (rmap mv H.bs.length) args0))
    (hK : ∀ r B' n, R0 r B' → B'.length = B.length → K (r.ren (rmap mv H.bs.length)) ⟨setL H.bs mv (B'.map (Blk.ren (rmap mv H.bs.length))), n⟩) : wCallV E P (.fn k fs cs) args H K :=
  ⟨k, fs, cs, rfl, _, ACalls.args (ghost_sub ha) (ACalls.frame h.ok hn hl hB rfl), fun r _ ⟨r0, B', n, h1, h2, h3, h4⟩ => by subst h3; subst h4; exact hK r0 B' n h1 h2⟩
/-- of a body: nothing new is left -/
theorem LC.of0 {k : Nat} {B : List Blk} {args : List AV} {R0 : AV → List Blk → Prop} (h : ∀ n (R : Kt), (∀ r B' n', R0 r B' → B'.length = B.length → R r ⟨B', n'⟩) → ACalls E P k args ⟨B, n⟩ R) : LC E P k B args R0 where
  ok := fun n => h n _ fun _ _ _ h1 h2 => ⟨h1, h2⟩
end

/-! ### what is told of frozen memory -/
theorem FkL.length {H : AH} {S : Nat → Bool} : ∀ {xs ys : List AV}, FkL H S xs ys → xs.length = ys.length
  | _, _, .nil => rfl
  | _, _, .cons _ h => by simp [FkL.length h]
theorem FkL.crel {H : AH} {S : Nat → Bool} {E : Env} {c : Cx} (hH : HRel E c H) : ∀ {xs ys : List AV}, FkL H S xs ys → ∀ {b o : Nat}, CRel E c xs b o → CRel E (c.kill S) ys b o
  | _, _, .nil, _, _, _ => by simp [CRel]
  | _, _, .cons h1 h2, b, o, r => by
    simp only [CRel] at r ⊢
    obtain ⟨⟨hf, u, hu, hv⟩, r⟩ := r
    refine ⟨⟨hf.imp (fun h => .inl h) id, u, hu, h1 E c hH u hv⟩, FkL.crel hH h2 r⟩
theorem Fk.slN {H : AH} {S : Nat → Bool} {cs cs' : List AV} {len : Nat} (h : FkL H S cs cs') : Fk H S (.slN cs len) (.slN cs' len) := fun E c hH v r => by
  simp only [VRel] at r ⊢
  refine r.imp id ?_
  rintro ⟨p, cap, rfl, hl, r⟩
  refine ⟨p, cap, rfl, hl, r.imp id ?_⟩
  rintro ⟨b, o, rfl, hc⟩
  exact ⟨b, o, rfl, h.crel hH hc⟩
theorem Fk.slT {H : AH} {S : Nat → Bool} {b g : Nat} {cs cs' : List AV} {len : Nat} (h : FkL H S cs cs') : Fk H S (.slT b cs len g) (.slT b cs' len g) := fun E c hH v r => by
  simp only [VRel] at r ⊢
  obtain ⟨hg, p, cap, rfl, hl, r⟩ := r
  refine ⟨hg, p, cap, rfl, hl, r.imp id ?_⟩
  rintro ⟨k, o, rfl, hc, hr⟩
  refine ⟨k, o, rfl, h.crel hH hc, fun e => ?_⟩
  have e' : c.gen b = some g := by
    simp only [Cx.kill] at e
    split at e
    · cases e
    · exact e
  obtain ⟨h1, h2, h3⟩ := hr e'
  exact ⟨h1, fun j hj => h2 j (by rw [h.length]; exact hj), h3⟩
theorem Fk.ptrFF {H : AH} {S : Nat → Bool} {cs cs' : List AV} {o : Nat} (h : FkL H S cs cs') : Fk H S (.ptrF cs o) (.ptrF cs' o) := fun E c hH v r => by
  simp only [VRel] at r ⊢
  obtain ⟨b, p, rfl, hc⟩ := r
  exact ⟨b, p, rfl, h.crel hH hc⟩
theorem Gr.fk {H : AH} {S : Nat → Bool} {sz : Nat} {z : Blk} {b : Nat} {x : AV} {cs cs' : List AV} {n : Nat} (hg : Gr sz z b x cs n) (h : FkL H S cs cs') : ∃ x', Gr sz z b x' cs' n ∧ Fk H S x x' := by
  rcases hg with ⟨rfl, rfl, rfl, rfl⟩ | ⟨g, rfl, rfl⟩
  · cases h
    exact ⟨nilS, .nil, .same _⟩
  · exact ⟨_, .mk, .slT h⟩

/-! ### open orders -/
theorem wOne.mk {op : AH → Kt → Prop} {H : AH} {K : Kt} (x : AV) (h : ∀ n (K' : Kt), (∀ n', K' x ⟨H.bs, n'⟩) → op ⟨H.bs, n⟩ K') (k : K x H) : wOne op H K := ⟨x, h, k⟩
theorem wAll.mk {H : AH} {k : AH → Prop} (h : ∀ n, k ⟨H.bs, n⟩) : wAll H k := h

/-- a law's call: bodies -/
abbrev Body0 (E : Env) (P : Program) (k : Nat) (F : Env → Program → AH → Kt → Prop) : Prop := ∀ H R, F E P H R → ACalls E P k [] H R
abbrev Body1 (E : Env) (P : Program) (k : Nat) (F : Env → Program → AV → AH → Kt → Prop) : Prop := ∀ a H R, F E P a H R → ACalls E P k [a] H R
abbrev Body2 (E : Env) (P : Program) (k : Nat) (F : Env → Program → AV → AV → AH → Kt → Prop) : Prop := ∀ a b H R, F E P a b H R → ACalls E P k [a, b] H R
abbrev Body3 (E : Env) (P : Program) (k : Nat) (F : Env → Program → AV → AV → AV → AH → Kt → Prop) : Prop := ∀ a b c H R, F E P a b c H R → ACalls E P k [a, b, c] H R
abbrev Body4 (E : Env) (P : Program) (k : Nat) (F : Env → Program → AV → AV → AV → AV → AH → Kt → Prop) : Prop := ∀ a b c d H R, F E P a b c d H R → ACalls E P k [a, b, c, d] H R
abbrev Body5 (E : Env) (P : Program) (k : Nat) (F : Env → Program → AV → AV → AV → AV → AV → AH → Kt → Prop) : Prop := ∀ a b c d e H R, F E P a b c d e H R → ACalls E P k [a, b, c, d, e] H R
end Go.Sc
