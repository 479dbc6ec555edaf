/- Words for memory: a slice that reads as a list of records of a fixed number of cells. No program in sight. -/
import Derived.Below
import Derived.Laws.OwnMore
import Derived.Deep.Draws
set_option linter.unusedSimpArgs false
set_option linter.unusedVariables false
namespace Go.Proofs.Ytmgpbjpohbpgpaa
open Go.RowKit

/-- The slice at A holds the list l, each element as the cells 'enc x', sz of them. -/
def Slc {α : Type} (w : World) (enc : α → List Value) (sz : Nat) (A : Option Addr) (l : List α) : Prop :=
  ∀ i x, l[i]? = some x → ∃ b o, A = some ⟨b, o, none⟩ ∧ b < w.heap.size ∧ ∀ j v, (enc x)[j]? = some v → w.cell? ⟨b, o + i * sz + j, none⟩ = some v

section
variable {α : Type} {w w' : World} {enc : α → List Value} {sz : Nat} {A : Option Addr} {l : List α}
theorem Slc.nil : Slc w enc sz A [] := fun i x h => by simp at h
theorem Slc.below {B : Nat} (h : Slc w enc sz A l) (hB : w.heap.size ≤ B) (hb : Below B w w') : Slc w' enc sz A l := fun i x hx => by
  obtain ⟨b, o, e, hlt, hc⟩ := h i x hx
  exact ⟨b, o, e, Nat.lt_of_lt_of_le hlt hb.size, fun j v hj => (hb.cell (p := ⟨b, o + i * sz + j, none⟩) (by show b < B; omega)).trans (hc j v hj)⟩
theorem Slc.ext (h : Slc w enc sz A l) (hb : Below w.heap.size w w') : Slc w' enc sz A l := h.below (Nat.le_refl _) hb
theorem Slc.alloc (h : Slc w enc sz A l) (o : Obj) : Slc (w.alloc o) enc sz A l := h.ext ((Below.refl _ _).alloc (Nat.le_refl _) _)
theorem Slc.at_ (h : Slc w enc sz A l) {k : Nat} (hk : k < l.length) : ∃ x b o, l[k]? = some x ∧ A = some ⟨b, o, none⟩ ∧ b < w.heap.size ∧ ∀ j v, (enc x)[j]? = some v → w.cell? ⟨b, o + k * sz + j, none⟩ = some v := by
  obtain ⟨b, o, e, hlt, hc⟩ := h k l[k] (List.getElem?_eq_getElem hk)
  exact ⟨l[k], b, o, List.getElem?_eq_getElem hk, e, hlt, hc⟩
end
section
variable {α : Type} {enc : α → List Value} {sz : Nat}
theorem flat_len (hs : ∀ x, (enc x).length = sz) (l : List α) : (l.flatMap enc).length = l.length * sz := by
  induction l with
  | nil => simp
  | cons x xs ih => simp [ih, hs, Nat.add_mul]; omega
theorem flat_get (hs : ∀ x, (enc x).length = sz) : ∀ (l : List α) (j : Nat) (u : Value), (l.flatMap enc)[j]? = some u → ∃ i x r, l[i]? = some x ∧ (enc x)[r]? = some u ∧ j = i * sz + r
  | [], j, u, h => by simp at h
  | x :: xs, j, u, h => by
    rw [List.flatMap_cons, List.getElem?_append] at h
    split at h
    · exact ⟨0, x, j, rfl, h, by simp⟩
    · rename_i hj
      obtain ⟨i, y, r, hi, hr, e⟩ := flat_get hs xs _ u h
      rw [hs] at e hj
      exact ⟨i + 1, y, r, by simpa using hi, hr, by rw [Nat.add_mul]; omega⟩
theorem flat_put (hs : ∀ x, (enc x).length = sz) : ∀ (l : List α) (i r : Nat) (x : α) (u : Value), l[i]? = some x → (enc x)[r]? = some u → (l.flatMap enc)[i * sz + r]? = some u
  | [], i, r, x, u, h, _ => by simp at h
  | y :: ys, 0, r, x, u, h, hr => by
    simp at h; subst h
    have hlt : r < (enc y).length := (List.getElem?_eq_some_iff.1 hr).1
    rw [List.flatMap_cons, List.getElem?_append, if_pos (by omega)]
    simpa using hr
  | y :: ys, i + 1, r, x, u, h, hr => by
    have ih := flat_put hs ys i r x u (by simpa using h) hr
    rw [List.flatMap_cons, List.getElem?_append, if_neg (by rw [hs, Nat.add_mul]; omega), hs, show (i + 1) * sz + r - sz = i * sz + r by rw [Nat.add_mul]; omega]
    exact ih
theorem Slc.olds {w : World} {A : Option Addr} {l : List α} (h : Slc w enc sz A l) (hs : ∀ x, (enc x).length = sz) :
    ∀ b, A = some b → ∀ j u, (l.flatMap enc)[j]? = some u → w.cell? (b.add j) = some u := by
  rintro b rfl j u hu
  obtain ⟨i, x, r, hi, hr, rfl⟩ := flat_get hs l j u hu
  obtain ⟨b', o', e, _, hc⟩ := h i x hi
  injection e with e
  subst e
  have := hc r u hr
  by_cases hz : i * sz + r = 0
  · rw [hz]
    have h1 : o' + i * sz + r = o' := by omega
    rw [h1] at this
    simpa [Addr.add] using this
  · simp only [Addr.add, hz, if_false]
    rw [show o' + (i * sz + r) = o' + i * sz + r by omega]
    exact this
theorem Slc.none_len {w : World} {A : Option Addr} {l : List α} (h : Slc w enc sz A l) (hA : A = none) : l.length = 0 := by
  cases l with
  | nil => simp
  | cons x xs => obtain ⟨b, o, e, _⟩ := h 0 x rfl; rw [hA] at e; cases e
theorem Slc.of_own {w : World} {base : Nat} {e : TypeId} {A : Option Addr} {n c : Nat} {l : List α} (hs : ∀ x, (enc x).length = sz) (hz : 0 < sz) (h : w.ownsRow base e sz (.slice A n c) n (l.flatMap enc)) : Slc w enc sz A l := by
  intro i x hx
  have hil : i < l.length := (List.getElem?_eq_some_iff.1 hx).1
  rcases h.2 with ⟨hv, rfl⟩ | ⟨g, cap, cur, hv, hb, hg, r⟩
  · have := h.1
    rw [flat_len hs] at this
    rcases Nat.eq_zero_or_pos l.length with h0 | h0
    · omega
    · have := Nat.mul_pos h0 hz
      omega
  · injection hv with hA hn hc
    subst hA
    refine ⟨g, 0, rfl, (Array.getElem?_eq_some_iff.1 hg).1, fun j v hj => ?_⟩
    have h1 := h.cells (g := g) rfl (i * sz + j) v (flat_put hs l i j x v hx hj)
    by_cases hz : i * sz + j = 0
    · rw [hz] at h1
      rw [show 0 + i * sz + j = 0 by omega]
      simpa [Addr.add] using h1
    · simp only [Addr.add, hz, if_false] at h1
      rw [show 0 + i * sz + j = 0 + (i * sz + j) by omega]
      exact h1
end
theorem Slc.drew_ {α : Type} {w : World} {enc : α → List Value} {sz : Nat} {A : Option Addr} {l : List α} (h : Slc w enc sz A l) : Slc w.drew enc sz A l := h
theorem cells_new (w : World) (cs : List Value) (e : TypeId) : ∀ j u, cs[j]? = some u → (w.alloc (.cells cs.toArray e)).cell? ((⟨w.heap.size, 0, none⟩ : Addr).add j) = some u := by
  intro j u hu
  have hadd : (⟨w.heap.size, 0, none⟩ : Addr).add j = ⟨w.heap.size, j, none⟩ := by unfold Addr.add; split <;> simp_all
  rw [hadd, cell_of_row _ w.heap.size j cs.toArray e (0, 0) (heap_alloc_new w _)]
  simpa using hu
theorem place_inj {sz i j k r : Nat} (hj : j < sz) (hr : r < sz) (h : i * sz + j = k * sz + r) : i = k ∧ j = r := by
  rcases Nat.lt_trichotomy i k with hl | he | hg
  · have : (i + 1) * sz ≤ k * sz := Nat.mul_le_mul_right sz hl
    rw [Nat.add_mul] at this; omega
  · subst he; omega
  · have : (k + 1) * sz ≤ i * sz := Nat.mul_le_mul_right sz hg
    rw [Nat.add_mul] at this; omega
theorem Slc.set_ {α : Type} {w : World} {enc : α → List Value} {sz : Nat} {g o : Nat} {l : List α} (hs : ∀ x, (enc x).length = sz) (h : Slc w enc sz (some ⟨g, o, none⟩) l) {k r : Nat} {x y : α} {v : Value} (hx : l[k]? = some x) (hr : r < sz) (hy : enc y = (enc x).set r v) :
    Slc (w.setCell ⟨g, o + k * sz + r, none⟩ v) enc sz (some ⟨g, o, none⟩) (l.set k y) := by
  have hk : k < l.length := (List.getElem?_eq_some_iff.1 hx).1
  intro i z hz
  rw [List.getElem?_set] at hz
  obtain ⟨b0, o0, e0, hb0, hcx⟩ := h k x hx
  injection e0 with e0; injection e0 with e1 e2; subst e1 e2
  have hsz : g < (w.setCell ⟨g, o + k * sz + r, none⟩ v).heap.size := by simpa [World.setCell] using hb0
  refine ⟨g, o, rfl, hsz, fun j u hu => ?_⟩
  have hjl : j < sz := by rw [← hs z]; exact (List.getElem?_eq_some_iff.1 hu).1
  split at hz
  · rename_i hik
    subst hik
    obtain rfl : y = z := by simpa using hz
    rw [hy, List.getElem?_set] at hu
    split at hu
    · rename_i hrj
      subst hrj
      rw [if_pos (by rw [hs]; exact hr)] at hu
      obtain rfl : v = u := by simpa using hu
      have hold : (w.cell? ⟨g, o + k * sz + r, none⟩).isSome = true := by
        rw [hcx r _ (List.getElem?_eq_getElem (by rw [hs]; exact hr))]; rfl
      exact World.cell?_setCell_same' _ _ _ hold
    · rename_i hrj
      rw [World.cell?_setCell_other _ _ _ _ (by intro e; injection e with _ e; omega)]
      exact hcx j u hu
  · rename_i hik
    obtain ⟨b0, o0, e0, _, hcz⟩ := h i z hz
    injection e0 with e0; injection e0 with e1 e2; subst e1 e2
    rw [World.cell?_setCell_other _ _ _ _ (by
      intro e; injection e with _ e
      have := place_inj (i := i) (j := j) (k := k) (r := r) hjl hr (by omega)
      exact hik this.1.symm)]
    exact hcz j u hu
theorem ext_refl (w : World) : Below w.heap.size w w := Below.refl _ _
theorem ext_trans {a b c : World} (h : Below a.heap.size a b) (k : Below b.heap.size b c) : Below a.heap.size a c := h.trans (k.mono h.size)
theorem ext_alloc {a b : World} (h : Below a.heap.size a b) (o : Obj) : Below a.heap.size a (b.alloc o) := h.alloc h.size o
theorem ext_drew {a b : World} (h : Below a.heap.size a b) : Below a.heap.size a b.drew := h.drew
theorem ext_drewN {a b : World} (h : Below a.heap.size a b) (n : Nat) : Below a.heap.size a (b.drewN n) := ⟨h.os, h.tape, h.output, h.size, h.block⟩
end Go.Proofs.Ytmgpbjpohbpgpaa
namespace Go.Proofs.Ytmgpbjpohbpgpaa
open Go.RowKit
theorem Slc.drewE {α : Type} {w wr : World} {enc : α → List Value} {sz : Nat} {A : Option Addr} {l : List α} (h : Slc w enc sz A l) (hd : ∃ n, wr = w.drewN n) : Slc wr enc sz A l := by
  obtain ⟨n, rfl⟩ := hd; exact h
theorem drewE {w wr : World} (hd : ∃ n, wr = w.drewN n) (m : Nat) : ∃ n, wr.drewN m = w.drewN n := by
  obtain ⟨n, rfl⟩ := hd; exact ⟨n + m, by rw [World.drewN_drewN]⟩
end Go.Proofs.Ytmgpbjpohbpgpaa
