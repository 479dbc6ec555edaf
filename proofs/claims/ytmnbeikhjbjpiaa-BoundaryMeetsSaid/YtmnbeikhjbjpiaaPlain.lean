/- Boundaries and agreements in plain Lean. No program in sight. -/
import Derived.Test.YtmnbeikhjbjpiaaRd
import Derived.Test.YtmnbeikhjbjpiaaSrt
set_option linter.unusedSimpArgs false
set_option linter.unusedVariables false
namespace Go.Proofs.Ytmnbeikhjbjpiaa
open Go.RowKit
structure Ag where
  no : Int
  f : Int
  t : Int
  m : Int
  r : Int
deriving DecidableEq
structure Bd where
  own : Int
  ot : Int
  ag : SliceOf Ag
  op : SliceOf Ag
def cen (a b : Int) : Bool := (decide (0 ≤ a) && decide (a ≤ 3) && (decide (0 ≤ b) && decide (b ≤ 3))) && decide (a ≠ b)
def fits (own ot : Int) (a : Ag) : Bool := (decide (a.f = own ∧ a.t = ot) || decide (a.f = ot ∧ a.t = own)) && (decide (1 ≤ a.no) && decide (a.no ≤ 1048576) && (decide (0 ≤ a.m) && decide (a.m ≤ 1439)) && (decide (0 ≤ a.r) && decide (a.r ≤ 60)))
/-- Who offers a number. -/
def offd (no a b : Int) : Bool := decide (no.tmod 2 = 1) == decide (a < b)
def step (own ot : Int) (x : Option Ag) (y : Ag) : Bool := match x with | some x => fits own ot y && decide (x.no < y.no) | none => fits own ot y
def okGo (own ot : Int) : Option Ag → List Ag → Bool
  | _, [] => true
  | p, x :: r => step own ot p x && okGo own ot (some x) r
abbrev okL (own ot : Int) (l : List Ag) : Bool := okGo own ot none l
def prevL (l : List Ag) (k : Nat) : Option Ag := if k = 0 then none else l[k - 1]?
def numd (l : List Ag) (no : Int) : Option Ag := l.find? fun x => x.no == no
def both (ag op : List Ag) : Bool := op.any fun a => (numd ag a.no).isSome
def chkB (own ot : Int) (ag op : List Ag) : Bool := cen own ot && okL own ot ag && okL own ot op && !both ag op
def putL (l : List Ag) (a : Ag) : List Ag := insL (fun x => decide (x.no < a.no)) l a
def great (n : Int) (l : List Ag) : Int := l.foldl (fun n a => max n a.no) n
def newNo (own ot : Int) (ag op : List Ag) : Int := let n := great (great 0 ag) op + 1; if offd n own ot then n else n + 1
def delL (l : List Ag) (no : Int) : List Ag := l.filter fun x => !(x.no == no)
theorem okGo_snoc (own ot : Int) (x : Ag) : ∀ (p : Option Ag) (l : List Ag), okGo own ot p (l ++ [x]) = (okGo own ot p l && step own ot (match l.getLast? with | some y => some y | none => p) x)
  | p, [] => by simp [okGo]
  | p, y :: r => by
    rw [List.cons_append, okGo, okGo_snoc own ot x (some y) r, okGo]
    have : (match r.getLast? with | some z => some z | none => some y) = (match (y :: r).getLast? with | some z => some z | none => p) := by
      rw [List.getLast?_cons]; cases r.getLast? <;> rfl
    rw [this, Bool.and_assoc]
theorem okGo_take {own ot : Int} {l : List Ag} {k : Nat} {x : Ag} (hx : l[k]? = some x) : okL own ot (l.take (k + 1)) = (okL own ot (l.take k) && step own ot (prevL l k) x) := by
  rw [okL, List.take_add_one, hx, Option.toList_some, okGo_snoc]
  congr 2
  unfold prevL
  by_cases h : k = 0
  · subst h; simp
  · rw [if_neg h]
    have hk : k < l.length := (List.getElem?_eq_some_iff.1 hx).1
    have h1 : (l.take k).getLast? = l[k - 1]? := by
      rw [List.getLast?_eq_getElem?, List.length_take, Nat.min_eq_left (by omega), List.getElem?_take, if_pos (by omega)]
    rw [h1]
    cases l[k - 1]? <;> rfl
theorem okGo_pre {own ot : Int} : ∀ (a : List Ag) (p : Option Ag) (b : List Ag), okGo own ot p a = false → okGo own ot p (a ++ b) = false := by
  intro a
  induction a with
  | nil => intro p b h; cases h
  | cons y a ih =>
    intro p b h
    rw [okGo, Bool.and_eq_false_iff] at h
    rw [List.cons_append, okGo, Bool.and_eq_false_iff]
    rcases h with h | h
    · exact .inl h
    · exact .inr (ih _ _ h)
theorem okGo_no {own ot : Int} {l : List Ag} {k : Nat} {x : Ag} (hx : l[k]? = some x) (h : step own ot (prevL l k) x = false) : okL own ot l = false := by
  have h1 := okGo_take (own := own) (ot := ot) hx
  rw [h, Bool.and_false] at h1
  rw [← List.take_append_drop (k + 1) l]
  exact okGo_pre _ _ _ h1
theorem okGo_iff {own ot : Int} : ∀ (l : List Ag) (p : Option Ag), okGo own ot p l = true ↔ (∀ x ∈ l, fits own ot x = true) ∧ l.Pairwise (fun x y => x.no < y.no) ∧ ∀ y, p = some y → ∀ x ∈ l, y.no < x.no
  | [], p => by simp [okGo]
  | x :: r, p => by
    rw [okGo, Bool.and_eq_true, okGo_iff r (some x), List.pairwise_cons]
    have hs : step own ot p x = true ↔ fits own ot x = true ∧ ∀ y, p = some y → y.no < x.no := by
      unfold step
      cases p with
      | none => simp
      | some y => simp
    rw [hs]
    constructor
    · rintro ⟨⟨h1, h2⟩, h3, h4, h5⟩
      refine ⟨fun z hz => ?_, ⟨fun z hz => h5 x rfl z hz, h4⟩, fun y hy z hz => ?_⟩
      · rcases List.mem_cons.1 hz with rfl | hz
        · exact h1
        · exact h3 z hz
      · rcases List.mem_cons.1 hz with rfl | hz
        · exact h2 y hy
        · exact Int.lt_trans (h2 y hy) (h5 x rfl z hz)
    · rintro ⟨h1, ⟨h2, h3⟩, h4⟩
      exact ⟨⟨h1 x List.mem_cons_self, fun y hy => h4 y hy x List.mem_cons_self⟩, fun z hz => h1 z (List.mem_cons_of_mem _ hz), h3, fun y hy z hz => by cases hy; exact h2 z hz⟩
theorem okL_iff {own ot : Int} {l : List Ag} : okL own ot l = true ↔ (∀ x ∈ l, fits own ot x = true) ∧ l.Pairwise (fun x y => x.no < y.no) := by
  rw [okL, okGo_iff]; simp
theorem fits_no {own ot : Int} {a : Ag} (h : fits own ot a = true) : 1 ≤ a.no ∧ a.no ≤ 1048576 := by
  unfold fits at h
  simp only [Bool.and_eq_true, decide_eq_true_eq] at h
  omega
theorem fits_iff {own ot : Int} {a : Ag} : fits own ot a = true ↔ (a.f = own ∧ a.t = ot ∨ a.f = ot ∧ a.t = own) ∧ 1 ≤ a.no ∧ a.no ≤ 1048576 ∧ 0 ≤ a.m ∧ a.m ≤ 1439 ∧ 0 ≤ a.r ∧ a.r ≤ 60 := by
  unfold fits
  simp only [Bool.and_eq_true, Bool.or_eq_true, decide_eq_true_eq]
  omega
theorem numd_some {l : List Ag} {no : Int} {x : Ag} (h : numd l no = some x) : x ∈ l ∧ x.no = no := ⟨List.mem_of_find?_eq_some h, by have := List.find?_some h; simpa using this⟩
theorem numd_none {l : List Ag} {no : Int} (h : numd l no = none) : ∀ x ∈ l, x.no ≠ no := fun x hx e => by
  have := List.find?_eq_none.1 h x hx
  simp [e] at this
theorem both_iff {ag op : List Ag} : both ag op = true ↔ ∃ a ∈ op, ∃ x ∈ ag, x.no = a.no := by
  unfold both numd
  simp only [List.any_eq_true, List.find?_isSome, beq_iff_eq]
theorem chkB_iff {own ot : Int} {ag op : List Ag} : chkB own ot ag op = true ↔ cen own ot = true ∧ ((∀ x ∈ ag, fits own ot x = true) ∧ ag.Pairwise (fun x y => x.no < y.no)) ∧ ((∀ x ∈ op, fits own ot x = true) ∧ op.Pairwise (fun x y => x.no < y.no)) ∧ ∀ a ∈ op, ∀ x ∈ ag, x.no ≠ a.no := by
  unfold chkB
  simp only [Bool.and_eq_true, okL_iff, Bool.not_eq_true', ← Bool.not_eq_true, both_iff, and_assoc]
  constructor
  · rintro ⟨h1, h2, h3, h4, h5, h6⟩
    exact ⟨h1, h2, h3, h4, h5, fun a ha x hx e => h6 ⟨a, ha, x, hx, e⟩⟩
  · rintro ⟨h1, h2, h3, h4, h5, h6⟩
    exact ⟨h1, h2, h3, h4, h5, fun ⟨a, ha, x, hx, e⟩ => h6 a ha x hx e⟩
/-- In a sorted list a number is that of one element. -/
theorem no_inj {l : List Ag} (hl : l.Pairwise (fun x y => x.no < y.no)) {x y : Ag} (hx : x ∈ l) (hy : y ∈ l) (h : x.no = y.no) : x = y := by
  induction l with
  | nil => cases hx
  | cons z r ih =>
    have hz := List.pairwise_cons.1 hl
    rcases List.mem_cons.1 hx with e1 | hx'
    · rcases List.mem_cons.1 hy with e2 | hy'
      · rw [e1, e2]
      · subst e1; have := hz.1 y hy'; omega
    · rcases List.mem_cons.1 hy with e2 | hy'
      · subst e2; have := hz.1 x hx'; omega
      · exact ih hz.2 hx' hy'
theorem numd_mem {l : List Ag} (hl : l.Pairwise (fun x y => x.no < y.no)) {x : Ag} (hx : x ∈ l) : numd l x.no = some x := by
  cases h : numd l x.no with
  | none => exact absurd rfl (numd_none h x hx)
  | some y =>
    obtain ⟨h1, h2⟩ := numd_some h
    rw [no_inj hl h1 hx h2]
theorem put_pw {l : List Ag} (hl : l.Pairwise (fun x y => x.no < y.no)) {a : Ag} (ha : ∀ x ∈ l, x.no ≠ a.no) : (putL l a).Pairwise (fun x y => x.no < y.no) :=
  ins_pw hl (fun x _ h => by simpa using h) (fun x hx h => by have := ha x hx; simp at h; omega) (fun x y h1 h2 => Int.lt_trans h1 h2)
theorem mem_put {l : List Ag} {a x : Ag} : x ∈ putL l a ↔ x = a ∨ x ∈ l := mem_ins
theorem mem_del {l : List Ag} {no : Int} {x : Ag} : x ∈ delL l no ↔ x ∈ l ∧ x.no ≠ no := by
  unfold delL; simp [List.mem_filter]
theorem great_le {n : Int} : ∀ (l : List Ag) (n : Int), n ≤ great n l
  | [], n => Int.le_refl _
  | x :: r, n => by
    have := great_le (n := n) r (max n x.no)
    unfold great at this ⊢
    simp only [List.foldl_cons]; omega
theorem great_mem : ∀ (l : List Ag) (n : Int), ∀ x ∈ l, x.no ≤ great n l
  | y :: r, n, x, hx => by
    have h1 := great_le (n := n) r (max n y.no)
    have h2 := great_mem r (max n y.no)
    unfold great at h1 h2 ⊢
    simp only [List.foldl_cons]
    rcases List.mem_cons.1 hx with rfl | hx
    · omega
    · exact h2 x hx
theorem great_bound {k : Int} : ∀ (l : List Ag) (n : Int), n ≤ k → (∀ x ∈ l, x.no ≤ k) → great n l ≤ k
  | [], n, hn, _ => hn
  | y :: r, n, hn, h => by
    have := great_bound (k := k) r (max n y.no) (by have := h y List.mem_cons_self; omega) (fun x hx => h x (List.mem_cons_of_mem _ hx))
    unfold great at this ⊢
    simp only [List.foldl_cons]; exact this
theorem great_take {l : List Ag} {k : Nat} {x : Ag} {n : Int} (hx : l[k]? = some x) : great n (l.take (k + 1)) = max (great n (l.take k)) x.no := by
  unfold great
  rw [List.take_add_one, hx]; simp
theorem offd_not {no a b : Int} (h : a ≠ b) : offd no b a = !offd no a b := by
  unfold offd
  rcases Int.lt_or_lt_of_ne h with h | h
  · have : ¬ b < a := by omega
    simp [h, this]
  · have : ¬ a < b := by omega
    simp [h, this]
theorem newNo_gt {own ot : Int} {ag op : List Ag} : (∀ x ∈ ag, x.no < newNo own ot ag op) ∧ (∀ x ∈ op, x.no < newNo own ot ag op) ∧ 1 ≤ newNo own ot ag op := by
  have h0 := great_le (n := 0) ag 0
  have h1 := great_le (n := 0) op (great 0 ag)
  have h2 := great_mem ag 0
  have h3 := great_mem op (great 0 ag)
  have h4 : great (great 0 ag) op + 1 ≤ newNo own ot ag op := by unfold newNo; simp only; split <;> omega
  exact ⟨fun x hx => by have := h2 x hx; omega, fun x hx => by have := h3 x hx; omega, by omega⟩
theorem tmod_two {n : Int} (h : 0 ≤ n) : n.tmod 2 = n % 2 := Int.tmod_eq_emod_of_nonneg h
theorem offd_succ {n a b : Int} (h : 0 ≤ n) : offd (n + 1) a b = !offd n a b := by
  unfold offd
  rw [tmod_two h, tmod_two (by omega)]
  rcases (show n % 2 = 0 ∨ n % 2 = 1 by omega) with e | e
  · have : (n + 1) % 2 = 1 := by omega
    simp [e, this]
  · have : (n + 1) % 2 = 0 := by omega
    simp [e, this]
theorem newNo_ours {own ot : Int} {ag op : List Ag} : offd (newNo own ot ag op) own ot = true := by
  have h0 := great_le (n := 0) ag 0
  have h1 := great_le (n := 0) op (great 0 ag)
  unfold newNo
  simp only
  split
  · assumption
  · rename_i h
    rw [offd_succ (by omega)]; simpa using h
end Go.Proofs.Ytmnbeikhjbjpiaa
