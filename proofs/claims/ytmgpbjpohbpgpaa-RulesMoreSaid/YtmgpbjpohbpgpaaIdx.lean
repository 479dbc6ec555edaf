set_option linter.unusedSimpArgs false
set_option linter.unusedVariables false
/- The first place at which a test says yes. No program in sight. -/
namespace Go.Proofs.Ytmgpbjpohbpgpaa
def idxGo {α : Type} (p : α → Bool) : Nat → List α → Int
  | _, [] => -1
  | k, x :: xs => if p x then k else idxGo p (k + 1) xs
theorem drop_at {α : Type} {l : List α} {k : Nat} {x : α} (h : l[k]? = some x) : l.drop k = x :: l.drop (k + 1) := by
  obtain ⟨hk, rfl⟩ := List.getElem?_eq_some_iff.1 h
  exact List.drop_eq_getElem_cons hk
theorem idxGo_cases {α : Type} (p : α → Bool) : ∀ (k : Nat) (l : List α), (idxGo p k l = -1 ∧ ∀ x ∈ l, p x = false) ∨ ∃ (i : Nat) (x : α), idxGo p k l = (k + i : Nat) ∧ l[i]? = some x ∧ p x = true ∧ ∀ j < i, ∀ y, l[j]? = some y → p y = false
  | k, [] => .inl ⟨rfl, by simp⟩
  | k, x :: xs => by
    unfold idxGo
    cases h : p x
    · rcases idxGo_cases p (k + 1) xs with ⟨h1, h2⟩ | ⟨i, y, h1, h2, h3, h4⟩
      · left; simp [h1, h]; exact h2
      · right
        refine ⟨i + 1, y, ?_, by simpa using h2, h3, ?_⟩
        · simp [h1]; omega
        · intro j hj z hz
          cases j with
          | zero => simp at hz; subst hz; exact h
          | succ j => exact h4 j (by omega) z (by simpa using hz)
    · right; exact ⟨0, x, by simp, rfl, h, by intro j hj; omega⟩
theorem idx_step {α : Type} {p : α → Bool} {l : List α} {k : Nat} {x : α} (hx : l[k]? = some x) (hp : p x = false) (h : idxGo p 0 l = idxGo p k (l.drop k)) : idxGo p 0 l = idxGo p (k + 1) (l.drop (k + 1)) := by
  rw [h, drop_at hx]; simp [idxGo, hp]
theorem idx_hit {α : Type} {p : α → Bool} {l : List α} {k : Nat} {x : α} (hx : l[k]? = some x) (hp : p x = true) (h : idxGo p 0 l = idxGo p k (l.drop k)) : idxGo p 0 l = k := by
  rw [h, drop_at hx]; simp [idxGo, hp]
theorem idx_end {α : Type} {p : α → Bool} {l : List α} {k : Nat} (hk : l.length ≤ k) (h : idxGo p 0 l = idxGo p k (l.drop k)) : idxGo p 0 l = -1 := by
  rw [h, List.drop_eq_nil_of_le hk]; rfl
theorem idx_any {α : Type} (p : α → Bool) (l : List α) : decide (0 ≤ idxGo p 0 l) = l.any p := by
  rcases idxGo_cases p 0 l with ⟨h1, h2⟩ | ⟨i, x, h1, h2, h3, _⟩
  · rw [h1]
    have : l.any p = false := by rw [List.any_eq_false]; intro x hx; simp [h2 x hx]
    rw [this]; rfl
  · rw [h1]
    have : l.any p = true := List.any_eq_true.2 ⟨x, List.mem_of_getElem? h2, h3⟩
    rw [this]; exact decide_eq_true (by omega)
theorem idx_lo {α : Type} (p : α → Bool) (l : List α) : -1 ≤ idxGo p 0 l ∧ idxGo p 0 l < l.length := by
  rcases idxGo_cases p 0 l with ⟨h1, h2⟩ | ⟨i, x, h1, h2, h3, _⟩
  · rw [h1]; omega
  · rw [h1]; have := (List.getElem?_eq_some_iff.1 h2).1; omega
end Go.Proofs.Ytmgpbjpohbpgpaa
