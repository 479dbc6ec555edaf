/- Rules, in plain Lean. -/
import Derived.Test.YtmgpbjpohbpgpaaMem
import Derived.Test.YtmgpbjpohbpgpaaHPlain
set_option linter.unusedSimpArgs false
set_option linter.unusedVariables false
namespace Go.Proofs.Ytmgpbjpohbpgpaa
/-- A rule; its strings are kept as they are. -/
structure Ru where
  k : Int
  sc : ByteArray
  sa : ByteArray
  cl : Int
  ap : Int
  n : Int
  f : Int
  t : Int
/-- A slice of which the length alone counts. -/
structure SH where
  A : Option Addr
  n : Nat
  c : Nat
def Ru.h (r : Ru) : Sp := ⟨r.f, r.t⟩
def plainR (r : Ru) : Bool := decide (r.ap = 0) && (decide (r.f = 0) && decide (r.t = 0))
def val1 (nA : Int) (r : Ru) : Bool := decide (r.n = 0) && decide (0 ≤ r.ap) && decide (r.ap < nA) && !badS r.h
def val2 (r : Ru) : Bool := plainR r && decide (r.n = 0)
def val3 (r : Ru) : Bool := plainR r && decide (1 ≤ r.n) && decide (r.n ≤ 8)
def val4 (r : Ru) : Bool := plainR r && decide (0 ≤ r.n) && decide (r.n ≤ 60) && decide (r.n.tmod 10 = 0)
def valK (nA : Int) (r : Ru) : Bool := if r.k = 1 then val1 nA r else if r.k = 2 then val2 r else if r.k = 3 then val3 r else if r.k = 4 then val4 r else false
def wrong (nC nA : Int) (r : Ru) : Bool := decide (r.k < 0) || decide (5 ≤ r.k) || decide (r.cl < 0) || decide (nC ≤ r.cl) || !valK nA r
/-- What Check says of the rules of an airspace with so many classes and airports. -/
def chkR (nC nA : Int) (l : List Ru) : Int := if decide (64 < (l.length : Int)) || l.any (wrong nC nA) then 130 else 0
/-- Two rules that are no curfews contradict each other. -/
def agR (x y : Ru) : Bool := decide (x.cl = y.cl) && (if x.k = y.k then decide ((x.k = 3 ∨ x.k = 4) ∧ x.n ≠ y.n) else decide ((x.k = 2 ∧ y.k = 4 ∧ 0 < y.n) ∨ (x.k = 4 ∧ y.k = 2 ∧ 0 < x.n)))
theorem ag_iff {x y : Ru} : agR x y = true ↔ x.cl = y.cl ∧ ((x.k = y.k ∧ (x.k = 3 ∨ x.k = 4) ∧ x.n ≠ y.n) ∨ (¬ x.k = y.k ∧ ((x.k = 2 ∧ y.k = 4 ∧ 0 < y.n) ∨ (x.k = 4 ∧ y.k = 2 ∧ 0 < x.n)))) := by
  unfold agR
  by_cases h : x.k = y.k
  · rw [if_pos h]; simp [h]
  · rw [if_neg h]; simp [h]
def isR (k cl : Int) (r : Ru) : Bool := decide (r.k = k) && decide (r.cl = cl)
/-- N of the first rule of a kind and a class. -/
def numR (l : List Ru) (k cl d : Int) : Int := match l.find? (isR k cl) with | some r => r.n | none => d
def chkC (nC nA : Int) (l : List Ru) (cl : Int) : Int := if chkR nC nA l = 0 then (if decide (cl < 0) || decide (nC ≤ cl) then 1 else 0) else chkR nC nA l
end Go.Proofs.Ytmgpbjpohbpgpaa
