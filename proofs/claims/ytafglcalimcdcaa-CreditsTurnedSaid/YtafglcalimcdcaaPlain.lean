/- Credits, in plain Lean. -/
import Derived.Test.YtafglcalimcdcaaSrt
set_option linter.unusedSimpArgs false
set_option linter.unusedVariables false
namespace Go.Proofs.Ytafglcalimcdcaa
structure Cr where
  a : Int
  m : Int
  u : Int
deriving DecidableEq
def wi (n lo hi : Int) : Bool := decide (lo ≤ n) && decide (n ≤ hi)
def fitC (c : Cr) : Bool := wi c.a 0 7 && wi c.m 1 1440 && wi c.u 1 1440
def bef (x y : Cr) : Bool := decide (x.a < y.a) || (decide (x.a = y.a) && decide (x.u < y.u))
def cmpI (x y : Int) : Int := if x < y then -1 else if y < x then 1 else 0
def cmpC (x y : Cr) : Int := if cmpI x.a y.a = 0 then cmpI x.u y.u else cmpI x.a y.a
theorem fit_iff {c : Cr} : fitC c = true ↔ (0 ≤ c.a ∧ c.a ≤ 7) ∧ (1 ≤ c.m ∧ c.m ≤ 1440) ∧ 1 ≤ c.u ∧ c.u ≤ 1440 := by
  unfold fitC wi; simp only [Bool.and_eq_true, decide_eq_true_eq]; constructor <;> (intro h; omega)
theorem bef_iff {x y : Cr} : bef x y = true ↔ x.a < y.a ∨ x.a = y.a ∧ x.u < y.u := by
  unfold bef; simp only [Bool.or_eq_true, Bool.and_eq_true, decide_eq_true_eq]
theorem bef_false {x y : Cr} : bef x y = false ↔ ¬ (x.a < y.a ∨ x.a = y.a ∧ x.u < y.u) := by
  rw [← bef_iff]; cases bef x y <;> simp
theorem cmpC_neg (x y : Cr) : cmpC x y < 0 ↔ bef x y = true := by
  rw [bef_iff]; unfold cmpC cmpI; split <;> split <;> (try split) <;> (try split) <;> omega
theorem cmpC_zero (x y : Cr) : cmpC x y = 0 ↔ x.a = y.a ∧ x.u = y.u := by
  unfold cmpC cmpI; split <;> split <;> (try split) <;> (try split) <;> omega
theorem bef_irr (x : Cr) : ¬ bef x x = true := by rw [bef_iff]; omega
theorem bef_trans {x y z : Cr} (h : bef x y = true) (k : bef y z = true) : bef x z = true := by rw [bef_iff] at *; omega
theorem bef_same {x y : Cr} (h : bef x y = false) (k : bef y x = false) : x.a = y.a ∧ x.u = y.u := by rw [bef_false] at *; omega
def OkC (l : List Cr) : Prop := (∀ x ∈ l, fitC x = true) ∧ l.Pairwise (fun x y => bef x y = true)
instance (l : List Cr) : Decidable (OkC l) := inferInstanceAs (Decidable (_ ∧ _))
def okC (l : List Cr) : Bool := decide (OkC l)
theorem ok_iff {l : List Cr} : okC l = true ↔ OkC l := by unfold okC; simp
theorem ok_no {l : List Cr} (h : ¬ OkC l) : okC l = false := by unfold okC; simpa using h
section
variable {l : List Cr} {k : Nat} {x p : Cr}
theorem ok_badfit (hx : l[k]? = some x) (h : fitC x = false) : okC l = false := ok_no fun ho => by
  have := ho.1 x (List.mem_of_getElem? hx); rw [h] at this; cases this
theorem ok_badbef (hp : l[k]? = some p) (hx : l[k + 1]? = some x) (h : bef p x = false) : okC l = false := ok_no fun ho => by
  obtain ⟨hi, rfl⟩ := List.getElem?_eq_some_iff.1 hp
  obtain ⟨hj, rfl⟩ := List.getElem?_eq_some_iff.1 hx
  have := List.pairwise_iff_getElem.1 ho.2 k (k + 1) hi hj (by omega)
  rw [h] at this; cases this
theorem take_next (hx : l[k]? = some x) : l.take (k + 1) = l.take k ++ [x] := by rw [List.take_add_one, hx]; rfl
theorem ok_zero : okC (l.take 0) = true := ok_iff.2 ⟨by simp, by simp⟩
theorem ok_first (hx : l[0]? = some x) (h : fitC x = true) : okC (l.take 1) = true := by
  rw [take_next hx]; exact ok_iff.2 ⟨by simpa using h, by simp⟩
theorem ok_next (ho : okC (l.take (k + 1)) = true) (hp : l[k]? = some p) (hx : l[k + 1]? = some x) (h : fitC x = true) (hb : bef p x = true) : okC (l.take (k + 1 + 1)) = true := by
  have h0 := ok_iff.1 ho
  rw [take_next hx]
  refine ok_iff.2 ⟨fun y hy => ?_, List.pairwise_append.2 ⟨h0.2, by simp, fun y hy z hz => ?_⟩⟩
  · rcases List.mem_append.1 hy with hy | hy
    · exact h0.1 y hy
    · rw [List.mem_singleton.1 hy]; exact h
  · rw [List.mem_singleton.1 hz]
    have hw := h0.2
    rw [take_next hp] at hy hw
    rcases List.mem_append.1 hy with hy | hy
    · exact bef_trans ((List.pairwise_append.1 hw).2.2 y hy p (by simp)) hb
    · rw [List.mem_singleton.1 hy]; exact hb
theorem ok_all (ho : okC (l.take k) = true) (h : l.length ≤ k) : okC l = true := by rwa [List.take_of_length_le h] at ho
theorem mono_of (hl : OkC l) {i j : Nat} {x y : Cr} (hij : i < j) (hx : l[i]? = some x) (hy : l[j]? = some y) : bef x y = true := by
  obtain ⟨hi, rfl⟩ := List.getElem?_eq_some_iff.1 hx
  obtain ⟨hj, rfl⟩ := List.getElem?_eq_some_iff.1 hy
  exact List.pairwise_iff_getElem.1 hl.2 i j hi hj hij
end
def chkC (l : List Cr) : Int := if okC l then 0 else 390
/-- Earning: the error, and the list. -/
def met (l : List Cr) (c : Cr) : Option Cr := match l.dropWhile (bef · c) with | [] => none | x :: _ => if bef c x then none else some x
def sumC (c x : Cr) : Cr := ⟨c.a, x.m + c.m, c.u⟩
def earnE (l : List Cr) (c : Cr) : Int := if okC l && fitC c then (match met l c with | none => 0 | some x => if fitC (sumC c x) then 0 else 390) else 390
def earnL (l : List Cr) (c : Cr) : List Cr := if earnE l c = 0 then (match met l c with | none => insL (bef · c) l c | some x => l.takeWhile (bef · c) ++ sumC c x :: (l.dropWhile (bef · c)).drop 1) else []
/-- What an airline has. -/
def hasC (al now : Int) (c : Cr) : Bool := decide (c.a = al) && decide (now < c.u)
def balL : List Cr → Int → Int → Int
  | [], _, _ => 0
  | c :: l, al, now => (if hasC al now c then c.m else 0) + balL l al now
/-- Spending. -/
def spendX : List Cr → Int → Int → Int → List Cr
  | [], _, _, _ => []
  | c :: l, al, mi, now => if hasC al now c then ⟨c.a, c.m - min mi c.m, c.u⟩ :: spendX l al (mi - min mi c.m) now else c :: spendX l al mi now
def spendE (l : List Cr) (al mi now : Int) : Int := if okC l && decide (0 ≤ mi) && decide (mi ≤ balL l al now) then 0 else 390
def spendL (l : List Cr) (al mi now : Int) : List Cr := if spendE l al mi now = 0 then (spendX l al mi now).filter (fun c => !decide (c.m = 0)) else []
def fewC (l : List Cr) : Bool := l.all (fun c => decide (-1099511627776 ≤ c.m) && decide (c.m ≤ 1099511627776)) && decide (l.length ≤ 40)
def keepC (now : Int) (l : List Cr) : List Cr := l.filter (fun c => decide (now < c.u))
def goneC (now : Int) (l : List Cr) : List Cr := l.filter (fun c => !decide (now < c.u))
end Go.Proofs.Ytafglcalimcdcaa
