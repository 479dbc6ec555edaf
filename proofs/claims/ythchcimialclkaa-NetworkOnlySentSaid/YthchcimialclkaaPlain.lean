/- Links and packets in plain Lean. No program in sight. -/
import Derived.Test.YthchcimialclkaaRd
set_option linter.unusedSimpArgs false
set_option linter.unusedVariables false
namespace Go.Proofs.Ythchcimialclkaa
open Go.RowKit
structure Pk where
  f : Int
  t : Int
  d : SliceOf Int
structure Lk where
  a : Int
  b : Int
deriving DecidableEq
structure Nt where
  q : SliceOf Pk
  ap : SliceOf Lk
def btw (a b : Int) : Lk := ⟨min a b, max a b⟩
def okL (l : Lk) : Bool := decide (0 ≤ l.a) && decide (l.a < l.b) && decide (l.b < 4)
def okP (p : Pk) : Bool := okL (btw p.f p.t) && decide (p.d.l.length ≤ 1048576)
def cmpI (x y : Int) : Int := if x < y then -1 else if y < x then 1 else 0
def cmpL (x y : Lk) : Int := if cmpI x.a y.a ≠ 0 then cmpI x.a y.a else cmpI x.b y.b
/-- Each link is valid and greater than the one before. -/
def okA : List Lk → Bool
  | [] => true
  | [x] => okL x
  | x :: y :: r => okL x && decide (cmpL x y < 0) && okA (y :: r)
def chkN (q : List Pk) (ap : List Lk) : Bool := decide (q.length ≤ 4096) && q.all okP && okA ap
def chkE (n : Nt) : Int := if chkN n.q.l n.ap.l then 0 else 460
/-- What of a packet does not hang on where its data lie. -/
def Pk.key (p : Pk) : Int × Int × List Int := (p.f, p.t, p.d.l)
theorem cmpL_neg (x y : Lk) : cmpL x y < 0 ↔ x.a < y.a ∨ x.a = y.a ∧ x.b < y.b := by
  unfold cmpL cmpI
  by_cases h1 : x.a < y.a
  · simp [h1]
  · by_cases h2 : y.a < x.a
    · simp [h1, h2]; omega
    · simp only [h1, h2, if_false, ne_eq, not_true_eq_false]
      by_cases h3 : x.b < y.b
      · simp [h3]; omega
      · by_cases h4 : y.b < x.b <;> simp [h3, h4] <;> omega
theorem okP_iff (p : Pk) : okP p = (decide (0 ≤ p.f) && decide (p.f < 4) && (decide (0 ≤ p.t) && decide (p.t < 4)) && decide (p.f ≠ p.t) && decide (p.d.l.length ≤ 1048576)) := by
  unfold okP okL btw
  congr 1
  rw [Bool.eq_iff_iff]
  simp only [Bool.and_eq_true, decide_eq_true_eq]
  omega
/-- One link behind another. -/
def step (x : Option Lk) (y : Lk) : Bool := match x with | some x => okL y && decide (cmpL x y < 0) | none => okL y
def okGo : Option Lk → List Lk → Bool
  | _, [] => true
  | p, x :: r => step p x && okGo (some x) r
theorem okGo_some (x : Lk) : ∀ r : List Lk, okGo (some x) r = (match r with | [] => true | y :: s => decide (cmpL x y < 0) && okA (y :: s))
  | [] => rfl
  | [y] => by simp [okGo, step, okA, Bool.and_comm]
  | y :: z :: s => by
    rw [okGo, okGo_some y (z :: s)]
    simp only [step, okA]
    cases okL y <;> cases decide (cmpL x y < 0) <;> simp
theorem okA_go : ∀ l : List Lk, okA l = okGo none l
  | [] => rfl
  | [x] => by simp [okA, okGo, step]
  | x :: y :: s => by
    rw [okGo, okGo_some]
    simp only [step, okA]
    cases okL x <;> cases decide (cmpL x y < 0) <;> simp
end Go.Proofs.Ythchcimialclkaa
