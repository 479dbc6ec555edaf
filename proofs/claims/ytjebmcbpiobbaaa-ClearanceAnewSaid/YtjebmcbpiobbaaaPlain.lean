/- The data of chapter 34 and what the functions compute, in plain Lean: no program in sight. -/
namespace Go.Proofs.Ytjebmcbpiobbaaa

/-- A measure. -/
structure Opt where
  d : Int
  y : Int
  h : Int
  c : Bool

/-- A clearance. -/
structure Clr where
  no : Int
  fl : Int
  iss : Int
  o : Opt
  rd : Bool
  wd : Bool

theorem Opt.eq_iff (a b : Opt) : a = b ↔ a.d = b.d ∧ a.y = b.y ∧ a.h = b.h ∧ a.c = b.c := by
  cases a; cases b; simp
instance : DecidableEq Opt := fun a b => decidable_of_iff _ (Opt.eq_iff a b).symm
theorem Clr.eq_iff (a b : Clr) : a = b ↔ a.no = b.no ∧ a.fl = b.fl ∧ a.iss = b.iss ∧ a.o = b.o ∧ a.rd = b.rd ∧ a.wd = b.wd := by
  cases a; cases b; simp
instance : DecidableEq Clr := fun a b => decidable_of_iff _ (Clr.eq_iff a b).symm

/-- The form of a measure. -/
def fmd (o : Opt) : Bool :=
  if o.c then o.d == 0 && o.y == 0 && o.h == 0
  else decide (0 ≤ o.d) && decide (o.d ≤ 60) && o.d % 10 == 0 && decide (0 ≤ o.y) && decide (o.y < 4) && decide (0 ≤ o.h) && decide (o.h ≤ 10) && o.h % 5 == 0

/-- One step of 'steps'. -/
def stp (n s m : Int) : Bool := decide (0 ≤ n) && decide (n ≤ m) && n % s == 0

theorem fmd_stp (d y h : Int) : fmd ⟨d, y, h, false⟩ = (stp d 10 60 && stp y 1 3 && stp h 5 10) := by
  simp only [fmd, stp]
  rw [Bool.eq_iff_iff]
  simp
  omega
theorem fmd_cancel (d y h : Int) : fmd ⟨d, y, h, true⟩ = (d == 0 && y == 0 && h == 0) := by simp [fmd]

/-- What is wrong with one clearance by itself. -/
def bad (i last : Int) (x : Clr) : Bool :=
  decide (x.no ≠ i) || decide (x.fl < 0) || decide (4095 < x.fl) || decide (x.iss < last) || decide (1440 ≤ x.iss) || !fmd x.o || (x.rd && x.wd)

/-- The loop of Check: from number i on, the last minute and the flights in force at hand. -/
def chkGo : Int → Int → (Int → Bool) → List Clr → Bool
  | _, _, _, [] => true
  | i, last, f, x :: xs =>
    if bad i last x then false
    else if x.wd then chkGo (i + 1) x.iss f xs
    else if f x.fl then false
    else chkGo (i + 1) x.iss (fun j => if j = x.fl then true else f j) xs

def chk (l : List Clr) : Bool := chkGo 0 0 (fun _ => false) l
def chkE (l : List Clr) : Int := if chk l then 0 else 340

theorem chkGo_bad {i last : Int} {f : Int → Bool} {x : Clr} {xs : List Clr} (h : bad i last x = true) : chkGo i last f (x :: xs) = false := by simp [chkGo, h]
theorem chkGo_wd {i last : Int} {f : Int → Bool} {x : Clr} {xs : List Clr} (h : bad i last x = false) (hw : x.wd = true) : chkGo i last f (x :: xs) = chkGo (i + 1) x.iss f xs := by simp [chkGo, h, hw]
theorem chkGo_two {i last : Int} {f : Int → Bool} {x : Clr} {xs : List Clr} (h : bad i last x = false) (hw : x.wd = false) (hf : f x.fl = true) : chkGo i last f (x :: xs) = false := by simp [chkGo, h, hw, hf]
theorem chkGo_one {i last : Int} {f : Int → Bool} {x : Clr} {xs : List Clr} (h : bad i last x = false) (hw : x.wd = false) (hf : f x.fl = false) : chkGo i last f (x :: xs) = chkGo (i + 1) x.iss (fun j => if j = x.fl then true else f j) xs := by simp [chkGo, h, hw, hf]
def newC (l : List Clr) (fl : Int) (o : Opt) (m : Int) : Clr := ⟨l.length, fl, m, o, false, false⟩
def issue (l : List Clr) (fl : Int) (o : Opt) (m : Int) : List Clr × Int :=
  if chk l then (if chk (l ++ [newC l fl o m]) then (l ++ [newC l fl o m], 0) else ([], 340)) else ([], 340)
/-- Number no of l, if it is in force. -/
def change (l : List Clr) (no : Int) (g : Clr → Clr × Int) : List Clr × Int :=
  if chk l then
    match (if 0 ≤ no then l[no.toNat]? else none) with
    | some x => if x.wd then ([], 340) else if (g x).2 = 0 then (l.set no.toNat (g x).1, 0) else ([], (g x).2)
    | none => ([], 340)
  else ([], 340)
def rdG (x : Clr) : Clr × Int := ({ x with rd := true }, 0)
def wdG (x : Clr) : Clr × Int := if x.rd then (x, 341) else ({ x with wd := true }, 0)
def read (l : List Clr) (no : Int) : List Clr × Int := change l no rdG
def withdraw (l : List Clr) (no : Int) : List Clr × Int := change l no wdG
/-- The first place, from k on, at which p answers yes; -1 if there is none. -/
def idxGo (p : Clr → Bool) : Nat → List Clr → Int
  | _, [] => -1
  | k, x :: xs => if p x then k else idxGo p (k + 1) xs
theorem idxGo_cases (p : Clr → Bool) : ∀ (k : Nat) (l : List Clr), (idxGo p k l = -1 ∧ ∀ x ∈ l, p x = false) ∨ ∃ (i : Nat) (x : Clr), idxGo p k l = (k + i : Nat) ∧ l[i]? = some x ∧ p x = true ∧ ∀ j < i, ∀ y, l[j]? = some y → p y = false
  | k, [] => .inl ⟨rfl, by simp⟩
  | k, x :: xs => by
    unfold idxGo
    cases h : p x
    · rcases idxGo_cases p (k + 1) xs with ⟨h1, h2⟩ | ⟨i, y, h1, h2, h3, h4⟩
      · left; simp [h1, h]; exact h2
      · right
        refine ⟨i + 1, y, ?_, by simpa using h2, h3, ?_⟩
        · simp [h1]; omega
        · intro j hj z hz
          cases j with
          | zero => simp at hz; subst hz; exact h
          | succ j => exact h4 j (by omega) z (by simpa using hz)
    · right; exact ⟨0, x, by simp, rfl, h, by intro j hj; omega⟩
def inF (fl : Int) (x : Clr) : Bool := x.fl == fl && !x.wd
def zeroC : Clr := ⟨0, 0, 0, ⟨0, 0, 0, false⟩, false, false⟩
/-- The clearance of a flight that is in force. -/
def inForce (l : List Clr) (fl : Int) : Clr × Bool :=
  match l.find? (inF fl) with
  | some x => (x, true)
  | none => (zeroC, false)
theorem drop_at {α : Type} {l : List α} {k : Nat} {x : α} (h : l[k]? = some x) : l.drop k = x :: l.drop (k + 1) := by
  obtain ⟨hk, rfl⟩ := List.getElem?_eq_some_iff.1 h
  exact List.drop_eq_getElem_cons hk
end Go.Proofs.Ytjebmcbpiobbaaa
