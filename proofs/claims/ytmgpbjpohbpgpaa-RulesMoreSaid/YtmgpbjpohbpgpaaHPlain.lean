set_option linter.unusedSimpArgs false
set_option linter.unusedVariables false
/- Sets of minutes in plain Lean: spans, the normal list. No program in sight. -/
namespace Go.Proofs.Ytmgpbjpohbpgpaa
structure Sp where
  f : Int
  t : Int
deriving DecidableEq
def inS (s : Sp) (m : Int) : Bool := decide (s.f ≤ m) && decide (m < s.t)
def inL (l : List Sp) (m : Int) : Bool := l.any (fun s => inS s m)
def badS (s : Sp) : Bool := decide (s.f < 0) || decide (s.t ≤ s.f) || decide (1440 < s.t)
def chkE (l : List Sp) : Int := if l.any badS then 50 else 0
def has (l : List Sp) (m : Int) : Bool := decide (0 ≤ m) && decide (m < 1440) && inL l m
def stp (out : List Sp) (m : Nat) : List Sp :=
  match out.getLast? with
  | some s => if s.t = m then out.dropLast ++ [⟨s.f, m + 1⟩] else out ++ [⟨m, m + 1⟩]
  | none => [⟨m, m + 1⟩]
def runs (f : Nat → Bool) : Nat → List Sp
  | 0 => []
  | m + 1 => if f m then stp (runs f m) m else runs f m
def nrm (f : Nat → Bool) : List Sp := runs f 1440
def Norm : Int → List Sp → Prop
  | _, [] => True
  | lo, s :: r => lo ≤ s.f ∧ s.f < s.t ∧ s.t ≤ 1440 ∧ Norm (s.t + 1) r
def un (a b : List Sp) (m : Nat) : Bool := inL a m || inL b m
def me (a b : List Sp) (m : Nat) : Bool := inL a m && inL b m
def mi (a b : List Sp) (m : Nat) : Bool := inL a m && !inL b m
def cov (l : List Sp) (s : Sp) : Bool := if s.t ≤ s.f then true else decide (0 ≤ s.f) && decide (s.t ≤ 1440) && decide ((nrm (mi [s] l)).length = 0)

theorem stp_nil (m : Nat) : stp [] m = [⟨m, m + 1⟩] := rfl
theorem stp_snoc (l : List Sp) (s : Sp) (m : Nat) : stp (l ++ [s]) m = if s.t = m then l ++ [⟨s.f, m + 1⟩] else l ++ [s] ++ [⟨m, m + 1⟩] := by
  simp [stp]
theorem nil_or_snoc (l : List Sp) : l = [] ∨ ∃ (r : List Sp) (s : Sp), l = r ++ [s] := by
  rcases List.eq_nil_or_concat l with h | ⟨r, s, h⟩
  · exact .inl h
  · exact .inr ⟨r, s, by simpa using h⟩
theorem runs_no {f : Nat → Bool} {m : Nat} (h : f m = false) : runs f (m + 1) = runs f m := by simp [runs, h]
theorem runs_yes {f : Nat → Bool} {m : Nat} (h : f m = true) : runs f (m + 1) = stp (runs f m) m := by simp [runs, h]
theorem runs_congr {f g : Nat → Bool} : ∀ m, (∀ k < m, f k = g k) → runs f m = runs g m
  | 0, _ => rfl
  | m + 1, h => by
    have ih := runs_congr m (fun k hk => h k (by omega))
    simp only [runs, ih, h m (by omega)]
theorem nrm_congr {f g : Nat → Bool} (h : ∀ k < 1440, f k = g k) : nrm f = nrm g := runs_congr _ h

def endOf (lo : Int) (l : List Sp) : Int := match l.getLast? with | some s => s.t + 1 | none => lo
theorem endOf_cons (lo : Int) (s : Sp) (r : List Sp) : endOf lo (s :: r) = endOf (s.t + 1) r := by
  rcases nil_or_snoc r with rfl | ⟨r', u, rfl⟩
  · rfl
  · simp [endOf, List.getLast?_cons]
theorem norm_snoc : ∀ (l : List Sp) (lo : Int) (s : Sp), Norm lo (l ++ [s]) ↔ Norm lo l ∧ endOf lo l ≤ s.f ∧ s.f < s.t ∧ s.t ≤ 1440
  | [], lo, s => by simp [Norm, endOf]
  | u :: r, lo, s => by
    simp only [List.cons_append, Norm, norm_snoc r, endOf_cons]
    constructor
    · rintro ⟨a, b, c, d, e⟩; exact ⟨⟨a, b, c, d⟩, e⟩
    · rintro ⟨⟨a, b, c, d⟩, e⟩; exact ⟨a, b, c, d, e⟩
theorem inL_snoc (l : List Sp) (s : Sp) (m : Int) : inL (l ++ [s]) m = (inL l m || inS s m) := by simp [inL]
/-- What the list of runs up to m is: normal, ends by m, has exactly the minutes of f below m. -/
theorem runs_spec (f : Nat → Bool) : ∀ m, m ≤ 1440 → Norm 0 (runs f m) ∧ endOf 0 (runs f m) ≤ m + 1 ∧ ∀ k : Int, inL (runs f m) k = (decide (0 ≤ k) && decide (k < m) && f k.toNat)
  | 0, _ => ⟨trivial, by simp [runs, endOf], fun k => by
      simp only [runs, inL, List.any_nil]
      by_cases h : 0 ≤ k
      · simp [show ¬ k < 0 by omega]
      · simp [h]⟩
  | m + 1, hm => by
    obtain ⟨h1, h2, h3⟩ := runs_spec f m (by omega)
    have key : ∀ k : Int, (decide (0 ≤ k) && decide (k < ((m + 1 : Nat) : Int)) && f k.toNat) = ((decide (0 ≤ k) && decide (k < m) && f k.toNat) || (decide (k = m) && f m)) := by
      intro k
      by_cases hk : k = m
      · subst hk; simp; omega
      · by_cases h0 : 0 ≤ k <;> by_cases hl : k < m
        · simp [hk, h0, hl, show k < (m : Int) + 1 by omega]
        · simp [hk, h0, hl, show ¬ k < (m : Int) + 1 by omega]
        · simp [hk, h0]
        · simp [hk, h0]
    cases hf : f m
    · rw [runs_no hf]
      refine ⟨h1, by omega, fun k => ?_⟩
      rw [h3, key, hf]; simp
    · rw [runs_yes hf]
      rcases nil_or_snoc (runs f m) with e | ⟨r, s, e⟩
      · rw [e] at h1 h2 h3 ⊢
        rw [stp_nil]
        refine ⟨⟨by simp, by simp; omega, by simp; omega, trivial⟩, by simp [endOf], fun k => ?_⟩
        rw [key, ← h3, hf]
        simp [inL, inS]
        by_cases hk : k = m
        · simp [hk]; omega
        · simp [hk]; omega
      · rw [e] at h1 h2 h3 ⊢
        obtain ⟨g1, g2, g3, g4⟩ := (norm_snoc r 0 s).1 h1
        have g5 : s.t ≤ m := by simp [endOf] at h2; omega
        rw [stp_snoc]
        split
        · rename_i hst
          refine ⟨(norm_snoc _ _ _).2 ⟨g1, g2, by simp; omega, by simp; omega⟩, by simp [endOf], fun k => ?_⟩
          rw [key, ← h3, hf, inL_snoc, inL_snoc]
          simp only [inS, Bool.and_true, Bool.or_assoc]
          congr 1
          by_cases hk : k = m
          · simp [hk]; omega
          · simp [hk]
            by_cases a : s.f ≤ k <;> simp [a]; omega
        · rename_i hst
          refine ⟨(norm_snoc _ _ _).2 ⟨h1, by simp [endOf]; omega, by simp; omega, by simp; omega⟩, by simp [endOf], fun k => ?_⟩
          rw [key, ← h3, hf, inL_snoc (r ++ [s])]
          congr 1
          simp only [inS, Bool.and_true]
          by_cases hk : k = m
          · simp [hk]; omega
          · simp [hk]; omega
theorem nrm_norm (f : Nat → Bool) : Norm 0 (nrm f) := (runs_spec f 1440 (Nat.le_refl _)).1
theorem nrm_in (f : Nat → Bool) (k : Nat) (hk : k < 1440) : inL (nrm f) k = f k := by
  have := (runs_spec f 1440 (Nat.le_refl _)).2.2 k
  unfold nrm; rw [this]; simp; intro _; omega
theorem nrm_has (f : Nat → Bool) (k : Int) : has (nrm f) k = (decide (0 ≤ k) && decide (k < 1440) && f k.toNat) := by
  have := (runs_spec f 1440 (Nat.le_refl _)).2.2 k
  unfold has nrm; rw [this]
  cases decide (0 ≤ k) <;> cases h : decide (k < 1440) <;> simp_all
end Go.Proofs.Ytmgpbjpohbpgpaa
