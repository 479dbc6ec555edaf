/- Sums of legs, in plain Lean. No program in sight. -/
import Derived.Test.YtlnfjdbdgcafbaaG
namespace Go.Proofs.Ytlnfjdbdgcafbaa
theorem fold_add (l : List Bd) : ∀ a : Bd, l.foldl addB a = addB a (sumB l) := by
  induction l with
  | nil => intro a; simp [sumB, addB]
  | cons x xs ih =>
    intro a
    simp only [sumB, List.foldl_cons]
    rw [ih, ih]
    simp only [addB, Bd.mk.injEq]
    omega
theorem sumB_cons (x : Bd) (l : List Bd) : sumB (x :: l) = addB x (sumB l) := by
  simp only [sumB, List.foldl_cons]
  rw [fold_add]
  simp only [addB, sumB, Bd.mk.injEq]
  omega
theorem each_hold {k : Kd} {n : Nat} {hold : Int} : ∀ (l : List Lg) (s : Nat), l ≠ [] → s + l.length = n → sumB (eachGo k n hold s l) = addB (sumB (eachGo k n 0 s l)) ⟨hold, hold⟩
  | [], _, h, _ => absurd rfl h
  | [x], s, _, h => by
    simp at h
    simp only [eachGo, sumB_cons]
    rw [eachB_last h, eachB_last h]
    simp [addB, sumB]
  | x :: y :: r, s, _, h => by
    have ih := each_hold (k := k) (n := n) (hold := hold) (y :: r) (s + 1) (by simp) (by simp at h ⊢; omega)
    have hne : ¬ s + 1 = n := by simp at h; omega
    have e1 : ∀ h', sumB (eachGo k n h' s (x :: y :: r)) = addB (bnd k x.len) (sumB (eachGo k n h' (s + 1) (y :: r))) := by
      intro h'
      rw [eachGo, sumB_cons, eachB_other hne]
    rw [e1, e1, ih]
    simp only [addB, Bd.mk.injEq]
    omega
theorem asked0 {k : Kd} {l : List Lg} {hold : Int} (h : asked k l hold = 0) : asked k l 0 = 0 := by
  unfold asked at h ⊢
  split at h
  · rename_i hv
    rw [if_pos hv]
    split at h
    · rename_i h2
      simp only [Bool.and_eq_true] at h2
      rw [if_pos]
      simp only [Bool.and_eq_true]
      refine ⟨?_, h2.2⟩
      have h3 := h2.1
      simp only [wit, Bool.and_eq_true, decide_eq_true_eq, and_true] at h3 ⊢
      exact ⟨h3.1, by omega, by omega⟩
    · cases h
  · cases h
theorem total_hold {k : Kd} {l : List Lg} {hold : Int} (h : asked k l hold = 0) : total k l hold = (addB (sumB (each k l 0)) ⟨hold, hold⟩, 0) ∧ total k l 0 = (sumB (each k l 0), 0) := by
  obtain ⟨_, h1, _⟩ := asked_ok h
  have h0 := asked0 h
  constructor
  · unfold total; rw [if_pos h]
    have := each_hold (k := k) (n := l.length) (hold := hold) l 0 (by intro e; rw [e] at h1; simp at h1) (by simp)
    unfold each at *
    rw [this]
  · unfold total; rw [if_pos h0]
theorem legs_total_err {k : Kd} {l : List Lg} {hold : Int} : (legs k l hold).2 = (total k l hold).2 ∧ ((legs k l hold).2 ≠ 0 → (legs k l hold).1 = [] ∧ (total k l hold).1 = ⟨0, 0⟩) := by
  unfold legs total
  by_cases h : asked k l hold = 0
  · simp [h]
  · simp [h]
theorem legs_ok {k : Kd} {l : List Lg} {hold : Int} {bs : List Bd} (h : legs k l hold = (bs, 0)) : asked k l hold = 0 ∧ bs = each k l hold := by
  unfold legs at h
  split at h
  · rename_i hz; cases h; exact ⟨hz, rfl⟩
  · rename_i hz; injection h with _ h2; exact absurd h2 hz
theorem sum_take {l : List Bd} {q : Nat} {x : Bd} (h : l[q]? = some x) : sumB (l.take (q + 1)) = addB (sumB (l.take q)) x := by
  rw [List.take_add_one, h]
  simp [sumB]
end Go.Proofs.Ytlnfjdbdgcafbaa
