/- A cell of a row of the call's own is written. No program in sight. -/
import Derived.Test.YtmgpbjpohbpgpaaApp
import Derived.Laws.Rows
set_option linter.unusedSimpArgs false
set_option linter.unusedVariables false
namespace Go.Proofs.Ytmgpbjpohbpgpaa
open Go.RowKit
theorem flat_set {α : Type} {enc : α → List Value} {sz : Nat} (hs : ∀ x, (enc x).length = sz) : ∀ (l : List α) (k r : Nat) (x y : α) (v : Value), l[k]? = some x → r < sz → enc y = (enc x).set r v → (l.set k y).flatMap enc = (l.flatMap enc).set (k * sz + r) v
  | [], k, r, x, y, v, h, _, _ => by simp at h
  | z :: zs, 0, r, x, y, v, h, hr, hy => by
    simp at h; subst h
    simp only [List.set_cons_zero, List.flatMap_cons, Nat.zero_mul, Nat.zero_add]
    rw [List.set_append_left _ _ (by rw [hs]; exact hr), hy]
  | z :: zs, k + 1, r, x, y, v, h, hr, hy => by
    have ih := flat_set hs zs k r x y v (by simpa using h) hr hy
    simp only [List.set_cons_succ, List.flatMap_cons, ih]
    rw [List.set_append_right _ _ (by rw [hs, Nat.add_mul]; omega), hs, show (k + 1) * sz + r - sz = k * sz + r by rw [Nat.add_mul]; omega]
theorem Own.set_ {α : Type} {w : World} {base : Nat} {e : TypeId} {enc : α → List Value} {sz : Nat} {g n c : Nat} {l : List α} (hs : ∀ x, (enc x).length = sz) (h : Own w base e enc sz (.slice (some ⟨g, 0, none⟩) n c) l) {k r : Nat} {x y : α} {v : Value} (hx : l[k]? = some x) (hr : r < sz) (hy : enc y = (enc x).set r v) :
    Own (w.setCell ⟨g, k * sz + r, none⟩ v) base e enc sz (.slice (some ⟨g, 0, none⟩) n c) (l.set k y) := by
  obtain ⟨h1, h2⟩ := h
  have hfs := flat_set hs l k r x y v hx hr hy
  refine ⟨by rw [hfs, List.length_set, List.length_set]; exact h1, ?_⟩
  rcases h2 with ⟨h2, _⟩ | ⟨g', cap, cur, hv, hb, hg, r1, r2, r3, r4⟩
  · cases h2
  · injection hv with e1 e2 e3
    injection e1 with e1
    injection e1 with e1 _ _
    subst e1 e2 e3
    refine .inr ⟨g, c, cur.setIfInBounds (k * sz + r) v, by rw [List.length_set], hb, heap_setCell_same w g (k * sz + r) cur e v hg, by rw [List.length_set]; exact r1, r2, by simpa using r3, ?_⟩
    rw [hfs, List.length_set, Array.toList_setIfInBounds, List.take_set, r4]
theorem Own.frozen {α : Type} {w : World} {base : Nat} {e : TypeId} {enc : α → List Value} {sz : Nat} {g n c : Nat} {l : List α} (h : Own w base e enc sz (.slice (some ⟨g, 0, none⟩) n c) l) (i : Nat) : w.frozen? ⟨g, i, none⟩ = false := by
  rcases h.2 with ⟨h2, _⟩ | ⟨g', cap, cur, hv, hb, hg, _⟩
  · cases h2
  · injection hv with e1 e2 e3
    injection e1 with e1
    injection e1 with e1 _ _
    subst e1
    simp [World.frozen?, hg]
end Go.Proofs.Ytmgpbjpohbpgpaa
