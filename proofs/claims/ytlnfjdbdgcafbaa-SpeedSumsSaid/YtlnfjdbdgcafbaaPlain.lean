/- The data of chapter 12 and what the functions compute, in plain Lean: no program in sight. -/
import Derived.Test.YtlnfjdbdgcafbaaRd
namespace Go.Proofs.Ytlnfjdbdgcafbaa

structure Sp where
  f : Int
  t : Int
structure Bd where
  lo : Int
  hi : Int
structure Lg where
  seg : Int
  vol : Int
  len : Int
  mi : SliceOf Sp
structure Kd where
  slow : Int
  fast : Int
  places : Int
  weight : Int
  longest : Int
  cur : SliceOf (SliceOf Sp)

theorem Bd.eq_iff (a b : Bd) : a = b ↔ a.lo = b.lo ∧ a.hi = b.hi := by cases a; cases b; simp
instance : DecidableEq Bd := fun a b => decidable_of_iff _ (Bd.eq_iff a b).symm

def okS (s : Sp) : Bool := decide (0 ≤ s.f) && decide (s.f < s.t) && decide (s.t ≤ 1440)
def badS (s : Sp) : Bool := decide (s.f < 0) || decide (s.t ≤ s.f) || decide (1440 < s.t)
theorem badS_eq (s : Sp) : badS s = !okS s := by
  unfold badS okS
  by_cases h1 : 0 ≤ s.f <;> by_cases h2 : s.f < s.t <;> by_cases h3 : s.t ≤ 1440 <;> simp [h1, h2, h3] <;> omega
def chkH (l : List Sp) : Bool := !l.any badS
def chkHE (l : List Sp) : Int := if chkH l then 0 else 50
/-- The threes of 'within'. -/
def wit : List Int → Bool
  | a :: b :: c :: r => decide (b ≤ a) && decide (a ≤ c) && wit r
  | _ => true
structure Rng (k : Kd) : Prop where
  s0 : 1 ≤ k.slow
  s1 : k.slow ≤ 64
  f0 : k.slow ≤ k.fast
  f1 : k.fast ≤ 64
  p0 : 1 ≤ k.places
  p1 : k.places ≤ 8
  w0 : 1 ≤ k.weight
  w1 : k.weight ≤ 8
  l0 : 0 ≤ k.longest
  l1 : k.longest ≤ 60
  c1 : k.cur.l.length ≤ 16
def rngB (k : Kd) : Bool := wit [k.slow, 1, 64, k.fast, k.slow, 64, k.places, 1, 8, k.weight, 1, 8, k.longest, 0, 60, k.cur.l.length, 0, 16]
theorem rngB_iff (k : Kd) : rngB k = true ↔ Rng k := by
  simp only [rngB, wit, Bool.and_eq_true, decide_eq_true_eq, and_true]
  constructor
  · rintro ⟨⟨a, b⟩, ⟨c, d⟩, ⟨e, f⟩, ⟨g, h⟩, ⟨i, j⟩, ⟨m, n⟩⟩
    exact ⟨a, b, c, d, e, f, g, h, i, j, by omega⟩
  · rintro ⟨a, b, c, d, e, f, g, h, i, j, m⟩
    exact ⟨⟨a, b⟩, ⟨c, d⟩, ⟨e, f⟩, ⟨g, h⟩, ⟨i, j⟩, ⟨by omega, by omega⟩⟩
/-- Some curfew is wrong. -/
def badC (s : SliceOf Sp) : Bool := chkHE s.l != 0
def vld (k : Kd) : Bool := rngB k && k.longest % 10 == 0 && !k.cur.l.any badC
def vldE (k : Kd) : Int := if vld k then 0 else 120
def mins (n s : Int) : Int := (n + s - 1) / s
def bnd (k : Kd) (n : Int) : Bd := ⟨mins n k.fast, mins n k.slow⟩
def isLen (n : Int) : Bool := decide (1 ≤ n) && decide (n ≤ 4096)
def bound (k : Kd) (n : Int) : Bd × Int := if vld k then (if isLen n then (bnd k n, 0) else (⟨0, 0⟩, 1)) else (⟨0, 0⟩, 120)
def badL (x : Lg) : Bool := !isLen x.len
def asked (k : Kd) (l : List Lg) (hold : Int) : Int :=
  if vld k then (if wit [l.length, 1, 8, hold, 0, 10] && !l.any badL then 0 else 1) else 120
/-- The bound of leg i of n. -/
def eachB (k : Kd) (n : Nat) (hold : Int) (i : Nat) (x : Lg) : Bd :=
  if i + 1 = n then ⟨(bnd k x.len).lo + hold, (bnd k x.len).hi + hold⟩ else bnd k x.len
def eachGo (k : Kd) (n : Nat) (hold : Int) : Nat → List Lg → List Bd
  | _, [] => []
  | i, x :: xs => eachB k n hold i x :: eachGo k n hold (i + 1) xs
def each (k : Kd) (l : List Lg) (hold : Int) : List Bd := eachGo k l.length hold 0 l
def legs (k : Kd) (l : List Lg) (hold : Int) : List Bd × Int := if asked k l hold = 0 then (each k l hold, 0) else ([], asked k l hold)
def addB (a b : Bd) : Bd := ⟨a.lo + b.lo, a.hi + b.hi⟩
def sumB (l : List Bd) : Bd := l.foldl addB ⟨0, 0⟩
def total (k : Kd) (l : List Lg) (hold : Int) : Bd × Int := if asked k l hold = 0 then (sumB (each k l hold), 0) else (⟨0, 0⟩, asked k l hold)
end Go.Proofs.Ytlnfjdbdgcafbaa
