/- A list that is cut at a place: what stands ahead fulfils p, what stands behind does not; an element laid between. No program in sight. -/
import Derived.WalkKit
set_option linter.unusedSimpArgs false
set_option linter.unusedVariables false
namespace Go.Proofs.Ytafglcalimcdcaa
section
variable {α : Type} {p : α → Bool} {l : List α} {k : Nat} {a : α}
/-- Number k is where p ends. -/
def CutAt (p : α → Bool) (l : List α) (k : Nat) : Prop := k ≤ l.length ∧ (∀ q x, q < k → l[q]? = some x → p x = true) ∧ ∀ q x, k ≤ q → l[q]? = some x → p x = false
theorem cut_while : ∀ (l : List α) (k : Nat), CutAt p l k → l.take k = l.takeWhile p ∧ l.drop k = l.dropWhile p
  | [], k, _ => by simp
  | x :: r, 0, h => by
    have := h.2.2 0 x (Nat.le_refl _) rfl
    simp [List.takeWhile, List.dropWhile, this]
  | x :: r, k + 1, h => by
    have h0 := h.2.1 0 x (by omega) rfl
    have ih := cut_while r k ⟨by have := h.1; simp at this; omega, fun q y hq hy => h.2.1 (q + 1) y (by omega) (by simpa using hy), fun q y hq hy => h.2.2 (q + 1) y (by omega) (by simpa using hy)⟩
    simp [List.takeWhile, List.dropWhile, h0, ih.1, ih.2]
def insL (p : α → Bool) (l : List α) (a : α) : List α := l.takeWhile p ++ a :: l.dropWhile p
theorem ins_cut (h : CutAt p l k) (a : α) : l.take k ++ a :: l.drop k = insL p l a := by
  unfold insL; rw [(cut_while l k h).1, (cut_while l k h).2]
theorem mem_ins {x : α} : x ∈ insL p l a ↔ x = a ∨ x ∈ l := by
  unfold insL
  conv => rhs; rw [← List.takeWhile_append_dropWhile (p := p) (l := l)]
  simp only [List.mem_append, List.mem_cons]
  constructor
  · rintro (h | h | h)
    · exact .inr (.inl h)
    · exact .inl h
    · exact .inr (.inr h)
  · rintro (h | h | h)
    · exact .inr (.inl h)
    · exact .inl h
    · exact .inr (.inr h)
theorem ins_len : (insL p l a).length = l.length + 1 := by
  unfold insL
  have := congrArg List.length (List.takeWhile_append_dropWhile (p := p) (l := l))
  simp only [List.length_append, List.length_cons] at this ⊢
  omega
theorem ins_pw {R : α → α → Prop} (hl : l.Pairwise R) (h1 : ∀ x ∈ l, p x = true → R x a) (h2 : ∀ x ∈ l, p x = false → R a x) (ht : ∀ x y, R a x → R x y → R a y) : (insL p l a).Pairwise R := by
  unfold insL
  have hs := hl
  rw [← List.takeWhile_append_dropWhile (p := p) (l := l), List.pairwise_append] at hs
  rw [List.pairwise_append]
  have hm : ∀ x ∈ l.dropWhile p, x ∈ l := fun x hx => (List.dropWhile_sublist p).mem hx
  have ha : ∀ x ∈ l.dropWhile p, R a x := by
    have hd := hs.2.1
    have hz : ∀ x, (l.dropWhile p).head? = some x → p x = false := fun x hx => by
      have := List.head?_dropWhile_not p l
      rw [hx] at this
      simpa using this
    revert hd hz hm
    cases l.dropWhile p with
    | nil => intro _ _ _ x hx; cases hx
    | cons y r =>
      intro hm hd hz x hx
      have hy := h2 y (hm y List.mem_cons_self) (hz y rfl)
      rcases List.mem_cons.1 hx with rfl | hx
      · exact hy
      · exact ht y x hy ((List.pairwise_cons.1 hd).1 x hx)
  refine ⟨hs.1, List.pairwise_cons.2 ⟨ha, hs.2.1⟩, fun x hx y hy => ?_⟩
  rcases List.mem_cons.1 hy with rfl | hy
  · exact h1 x ((List.takeWhile_sublist p).mem hx) (List.all_eq_true.1 List.all_takeWhile x hx)
  · exact hs.2.2 x hx y hy
theorem filter_pw {R : α → α → Prop} (hl : l.Pairwise R) (f : α → Bool) : (l.filter f).Pairwise R := hl.sublist List.filter_sublist
/-- Two sorted lists with the same elements are one. -/
theorem pw_ext {R : α → α → Prop} (hi : ∀ x, ¬ R x x) (ht : ∀ x y z, R x y → R y z → R x z) : ∀ (l m : List α), l.Pairwise R → m.Pairwise R → (∀ x, x ∈ l ↔ x ∈ m) → l = m
  | [], [], _, _, _ => rfl
  | [], y :: m, _, _, h => by have := (h y).2 List.mem_cons_self; cases this
  | x :: l, [], _, _, h => by have := (h x).1 List.mem_cons_self; cases this
  | x :: l, y :: m, hl, hm, h => by
    have hl' := List.pairwise_cons.1 hl
    have hm' := List.pairwise_cons.1 hm
    have hxy : x = y := by
      rcases List.mem_cons.1 ((h x).1 List.mem_cons_self) with e | e
      · exact e
      · rcases List.mem_cons.1 ((h y).2 List.mem_cons_self) with e' | e'
        · exact e'.symm
        · exact absurd (ht _ _ _ (hm'.1 x e) (hl'.1 y e')) (hi y)
    subst hxy
    congr 1
    refine pw_ext hi ht l m hl'.2 hm'.2 fun z => ⟨fun hz => ?_, fun hz => ?_⟩
    · rcases List.mem_cons.1 ((h z).1 (List.mem_cons_of_mem _ hz)) with e | e
      · subst e; exact absurd (hl'.1 z hz) (hi z)
      · exact e
    · rcases List.mem_cons.1 ((h z).2 (List.mem_cons_of_mem _ hz)) with e | e
      · subst e; exact absurd (hm'.1 z hz) (hi z)
      · exact e
end
end Go.Proofs.Ytafglcalimcdcaa
