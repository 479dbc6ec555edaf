/- Words for memory: a slice that reads as a list of records of a fixed number of cells. No program in sight. -/
import Derived.Below
import Derived.Laws.OwnMore
import Derived.Deep.Draws
import Derived.Maps.AppendAt
import Derived.Deep.RegionLaw
import Derived.ArgAppend
import Derived.WalkKit
set_option linter.unusedSimpArgs false
set_option linter.unusedVariables false
namespace Go.Proofs.YtjiojpoiocdnmaaGreat
open Go.RowKit

/-- The slice at A holds the list l, each element as the cells 'enc x', sz of them. -/
def Slc {α : Type} (w : World) (enc : α → List Value) (sz : Nat) (A : Option Addr) (l : List α) : Prop :=
  ∀ i x, l[i]? = some x → ∃ b o, A = some ⟨b, o, none⟩ ∧ b < w.heap.size ∧ ∀ j v, (enc x)[j]? = some v → w.cell? ⟨b, o + i * sz + j, none⟩ = some v

section
variable {α : Type} {w w' : World} {enc : α → List Value} {sz : Nat} {A : Option Addr} {l : List α}
theorem Slc.nil : Slc w enc sz A [] := fun i x h => by simp at h
theorem Slc.below {B : Nat} (h : Slc w enc sz A l) (hB : w.heap.size ≤ B) (hb : Below B w w') : Slc w' enc sz A l := fun i x hx => by
  obtain ⟨b, o, e, hlt, hc⟩ := h i x hx
  exact ⟨b, o, e, Nat.lt_of_lt_of_le hlt hb.size, fun j v hj => (hb.cell (p := ⟨b, o + i * sz + j, none⟩) (by show b < B; omega)).trans (hc j v hj)⟩
theorem Slc.ext (h : Slc w enc sz A l) (hb : Below w.heap.size w w') : Slc w' enc sz A l := h.below (Nat.le_refl _) hb
theorem Slc.alloc (h : Slc w enc sz A l) (o : Obj) : Slc (w.alloc o) enc sz A l := h.ext ((Below.refl _ _).alloc (Nat.le_refl _) _)
theorem Slc.at_ (h : Slc w enc sz A l) {k : Nat} (hk : k < l.length) : ∃ x b o, l[k]? = some x ∧ A = some ⟨b, o, none⟩ ∧ b < w.heap.size ∧ ∀ j v, (enc x)[j]? = some v → w.cell? ⟨b, o + k * sz + j, none⟩ = some v := by
  obtain ⟨b, o, e, hlt, hc⟩ := h k l[k] (List.getElem?_eq_getElem hk)
  exact ⟨l[k], b, o, List.getElem?_eq_getElem hk, e, hlt, hc⟩
end
section
variable {α : Type} {enc : α → List Value} {sz : Nat}
theorem flat_len (hs : ∀ x, (enc x).length = sz) (l : List α) : (l.flatMap enc).length = l.length * sz := by
  induction l with
  | nil => simp
  | cons x xs ih => simp [ih, hs, Nat.add_mul]; omega
theorem flat_get (hs : ∀ x, (enc x).length = sz) : ∀ (l : List α) (j : Nat) (u : Value), (l.flatMap enc)[j]? = some u → ∃ i x r, l[i]? = some x ∧ (enc x)[r]? = some u ∧ j = i * sz + r
  | [], j, u, h => by simp at h
  | x :: xs, j, u, h => by
    rw [List.flatMap_cons, List.getElem?_append] at h
    split at h
    · exact ⟨0, x, j, rfl, h, by simp⟩
    · rename_i hj
      obtain ⟨i, y, r, hi, hr, e⟩ := flat_get hs xs _ u h
      rw [hs] at e hj
      exact ⟨i + 1, y, r, by simpa using hi, hr, by rw [Nat.add_mul]; omega⟩
theorem flat_put (hs : ∀ x, (enc x).length = sz) : ∀ (l : List α) (i r : Nat) (x : α) (u : Value), l[i]? = some x → (enc x)[r]? = some u → (l.flatMap enc)[i * sz + r]? = some u
  | [], i, r, x, u, h, _ => by simp at h
  | y :: ys, 0, r, x, u, h, hr => by
    simp at h; subst h
    have hlt : r < (enc y).length := (List.getElem?_eq_some_iff.1 hr).1
    rw [List.flatMap_cons, List.getElem?_append, if_pos (by omega)]
    simpa using hr
  | y :: ys, i + 1, r, x, u, h, hr => by
    have ih := flat_put hs ys i r x u (by simpa using h) hr
    rw [List.flatMap_cons, List.getElem?_append, if_neg (by rw [hs, Nat.add_mul]; omega), hs, show (i + 1) * sz + r - sz = i * sz + r by rw [Nat.add_mul]; omega]
    exact ih
theorem Slc.olds {w : World} {A : Option Addr} {l : List α} (h : Slc w enc sz A l) (hs : ∀ x, (enc x).length = sz) :
    ∀ b, A = some b → ∀ j u, (l.flatMap enc)[j]? = some u → w.cell? (b.add j) = some u := by
  rintro b rfl j u hu
  obtain ⟨i, x, r, hi, hr, rfl⟩ := flat_get hs l j u hu
  obtain ⟨b', o', e, _, hc⟩ := h i x hi
  injection e with e
  subst e
  have := hc r u hr
  by_cases hz : i * sz + r = 0
  · rw [hz]
    have h1 : o' + i * sz + r = o' := by omega
    rw [h1] at this
    simpa [Addr.add] using this
  · simp only [Addr.add, hz, if_false]
    rw [show o' + (i * sz + r) = o' + i * sz + r by omega]
    exact this
theorem Slc.none_len {w : World} {A : Option Addr} {l : List α} (h : Slc w enc sz A l) (hA : A = none) : l.length = 0 := by
  cases l with
  | nil => simp
  | cons x xs => obtain ⟨b, o, e, _⟩ := h 0 x rfl; rw [hA] at e; cases e
theorem Slc.of_own {w : World} {base : Nat} {e : TypeId} {A : Option Addr} {n c : Nat} {l : List α} (hs : ∀ x, (enc x).length = sz) (hz : 0 < sz) (h : w.ownsRow base e sz (.slice A n c) n (l.flatMap enc)) : Slc w enc sz A l := by
  intro i x hx
  have hil : i < l.length := (List.getElem?_eq_some_iff.1 hx).1
  rcases h.2 with ⟨hv, rfl⟩ | ⟨g, cap, cur, hv, hb, hg, r⟩
  · have := h.1
    rw [flat_len hs] at this
    rcases Nat.eq_zero_or_pos l.length with h0 | h0
    · omega
    · have := Nat.mul_pos h0 hz
      omega
  · injection hv with hA hn hc
    subst hA
    refine ⟨g, 0, rfl, (Array.getElem?_eq_some_iff.1 hg).1, fun j v hj => ?_⟩
    have h1 := h.cells (g := g) rfl (i * sz + j) v (flat_put hs l i j x v hx hj)
    by_cases hz : i * sz + j = 0
    · rw [hz] at h1
      rw [show 0 + i * sz + j = 0 by omega]
      simpa [Addr.add] using h1
    · simp only [Addr.add, hz, if_false] at h1
      rw [show 0 + i * sz + j = 0 + (i * sz + j) by omega]
      exact h1
end
theorem Slc.drew_ {α : Type} {w : World} {enc : α → List Value} {sz : Nat} {A : Option Addr} {l : List α} (h : Slc w enc sz A l) : Slc w.drew enc sz A l := h
theorem cells_new (w : World) (cs : List Value) (e : TypeId) : ∀ j u, cs[j]? = some u → (w.alloc (.cells cs.toArray e)).cell? ((⟨w.heap.size, 0, none⟩ : Addr).add j) = some u := by
  intro j u hu
  have hadd : (⟨w.heap.size, 0, none⟩ : Addr).add j = ⟨w.heap.size, j, none⟩ := by unfold Addr.add; split <;> simp_all
  rw [hadd, cell_of_row _ w.heap.size j cs.toArray e (0, 0) (heap_alloc_new w _)]
  simpa using hu
theorem place_inj {sz i j k r : Nat} (hj : j < sz) (hr : r < sz) (h : i * sz + j = k * sz + r) : i = k ∧ j = r := by
  rcases Nat.lt_trichotomy i k with hl | he | hg
  · have : (i + 1) * sz ≤ k * sz := Nat.mul_le_mul_right sz hl
    rw [Nat.add_mul] at this; omega
  · subst he; omega
  · have : (k + 1) * sz ≤ i * sz := Nat.mul_le_mul_right sz hg
    rw [Nat.add_mul] at this; omega
theorem Slc.set_ {α : Type} {w : World} {enc : α → List Value} {sz : Nat} {g o : Nat} {l : List α} (hs : ∀ x, (enc x).length = sz) (h : Slc w enc sz (some ⟨g, o, none⟩) l) {k r : Nat} {x y : α} {v : Value} (hx : l[k]? = some x) (hr : r < sz) (hy : enc y = (enc x).set r v) :
    Slc (w.setCell ⟨g, o + k * sz + r, none⟩ v) enc sz (some ⟨g, o, none⟩) (l.set k y) := by
  have hk : k < l.length := (List.getElem?_eq_some_iff.1 hx).1
  intro i z hz
  rw [List.getElem?_set] at hz
  obtain ⟨b0, o0, e0, hb0, hcx⟩ := h k x hx
  injection e0 with e0; injection e0 with e1 e2; subst e1 e2
  have hsz : g < (w.setCell ⟨g, o + k * sz + r, none⟩ v).heap.size := by simpa [World.setCell] using hb0
  refine ⟨g, o, rfl, hsz, fun j u hu => ?_⟩
  have hjl : j < sz := by rw [← hs z]; exact (List.getElem?_eq_some_iff.1 hu).1
  split at hz
  · rename_i hik
    subst hik
    obtain rfl : y = z := by simpa using hz
    rw [hy, List.getElem?_set] at hu
    split at hu
    · rename_i hrj
      subst hrj
      rw [if_pos (by rw [hs]; exact hr)] at hu
      obtain rfl : v = u := by simpa using hu
      have hold : (w.cell? ⟨g, o + k * sz + r, none⟩).isSome = true := by
        rw [hcx r _ (List.getElem?_eq_getElem (by rw [hs]; exact hr))]; rfl
      exact World.cell?_setCell_same' _ _ _ hold
    · rename_i hrj
      rw [World.cell?_setCell_other _ _ _ _ (by intro e; injection e with _ e; omega)]
      exact hcx j u hu
  · rename_i hik
    obtain ⟨b0, o0, e0, _, hcz⟩ := h i z hz
    injection e0 with e0; injection e0 with e1 e2; subst e1 e2
    rw [World.cell?_setCell_other _ _ _ _ (by
      intro e; injection e with _ e
      have := place_inj (i := i) (j := j) (k := k) (r := r) hjl hr (by omega)
      exact hik this.1.symm)]
    exact hcz j u hu
theorem ext_refl (w : World) : Below w.heap.size w w := Below.refl _ _
theorem ext_trans {a b c : World} (h : Below a.heap.size a b) (k : Below b.heap.size b c) : Below a.heap.size a c := h.trans (k.mono h.size)
theorem ext_alloc {a b : World} (h : Below a.heap.size a b) (o : Obj) : Below a.heap.size a (b.alloc o) := h.alloc h.size o
theorem ext_drew {a b : World} (h : Below a.heap.size a b) : Below a.heap.size a b.drew := h.drew
theorem ext_drewN {a b : World} (h : Below a.heap.size a b) (n : Nat) : Below a.heap.size a (b.drewN n) := ⟨h.os, h.tape, h.output, h.size, h.block⟩
end Go.Proofs.YtjiojpoiocdnmaaGreat
namespace Go.Proofs.YtjiojpoiocdnmaaGreat
open Go.RowKit
end Go.Proofs.YtjiojpoiocdnmaaGreat
/- append, in words of lists: rows of the call's own; slices that came in. No program in sight. -/
set_option linter.unusedSimpArgs false
set_option linter.unusedVariables false
namespace Go.Proofs.YtjiojpoiocdnmaaGreat
open Go.RowKit

/-- What is known of the slice type t of elements of type e, each encoded by enc in sz cells and taking b bytes. -/
structure EInfo {α : Type} (P : Program) (t e : TypeId) (enc : α → List Value) (sz b : Nat) : Prop where
  ht : P.underlying t = some (.slice e)
  hi : ∃ i z, P.info? e = some i ∧ i.zero = some z ∧ i.size = sz ∧ i.bytes = b ∧ z.cells.size = sz
  hz : 0 < sz
  hl : ∀ x, (enc x).length = sz
  h1 : ∀ x, ∀ u ∈ enc x, u.oneCell' = true

theorem flat_ones {α : Type} {enc : α → List Value} (h : ∀ x, ∀ u ∈ enc x, u.oneCell' = true) (l : List α) : ∀ u ∈ l.flatMap enc, u.oneCell' = true := by
  intro u hu
  obtain ⟨x, _, hx⟩ := List.mem_flatMap.1 hu
  exact h x u hx

/-- v is a slice in memory of the call's own (from block base on) that holds the list l. -/
def Own {α : Type} (w : World) (base : Nat) (e : TypeId) (enc : α → List Value) (sz : Nat) (v : Value) (l : List α) : Prop := w.ownsRow base e sz v l.length (l.flatMap enc)

section
variable {α : Type} {w w' : World} {base : Nat} {e : TypeId} {enc : α → List Value} {sz : Nat} {v : Value} {l : List α}
theorem Own.nil (w : World) (base : Nat) (e : TypeId) (enc : α → List Value) (sz : Nat) : Own w base e enc sz (.slice none 0 0) ([] : List α) := World.ownsRow_nil w _ e sz
theorem Own.made (w : World) (base : Nat) (e : TypeId) (enc : α → List Value) (sz : Nat) (hb : base ≤ w.heap.size) : Own (w.alloc (.cells #[] e)) base e enc sz (.slice (some ⟨w.heap.size, 0, none⟩) 0 0) ([] : List α) :=
  World.ownsRow_made w #[] 0 hb (by decide) (by simp)
theorem Own.form (h : Own w base e enc sz v l) : ∃ A c, v = .slice A l.length c ∧ l.length ≤ c ∧ (A = none → l = []) ∧ ∀ b o s, A = some ⟨b, o, s⟩ → base ≤ b ∧ o = 0 ∧ s = none ∧ b < w.heap.size ∧ ∃ cur, w.heap[b]? = some (.cells cur e (0, 0)) := by
  rcases h.2 with ⟨hv, h0⟩ | ⟨g, cap, cur, hv, hb, hg, hc, _⟩
  · have hl := List.eq_nil_of_length_eq_zero h0
    subst hl
    exact ⟨none, 0, hv, Nat.le_refl _, fun _ => rfl, fun b o s h => by cases h⟩
  · exact ⟨some ⟨g, 0, none⟩, cap, hv, hc, (fun h => by cases h), fun b o s h => by cases h; exact ⟨hb, rfl, rfl, (Array.getElem?_eq_some_iff.1 hg).1, cur, hg⟩⟩
theorem Own.some_ (h : Own w base e enc sz v l) (hn : 0 < l.length) : ∃ g c cur, v = .slice (some ⟨g, 0, none⟩) l.length c ∧ l.length ≤ c ∧ base ≤ g ∧ g < w.heap.size ∧ w.heap[g]? = some (.cells cur e (0, 0)) := by
  rcases h.2 with ⟨hv, h0⟩ | ⟨g, cap, cur, hv, hb, hg, hc, _⟩
  · omega
  · exact ⟨g, cap, cur, hv, hc, hb, (Array.getElem?_eq_some_iff.1 hg).1, hg⟩
theorem Own.slc {A : Option Addr} {n c : Nat} (hs : ∀ x, (enc x).length = sz) (hz : 0 < sz) (h : Own w base e enc sz (.slice A n c) l) : Slc w enc sz A l := by
  have hn : n = l.length := by
    rcases h.2 with ⟨hv, h0⟩ | ⟨g, cap, cur, hv, _⟩
    · injection hv with h1 h2 h3; omega
    · injection hv with h1 h2 h3
  subst hn
  exact Slc.of_own hs hz h
theorem Own.block (h : Own w base e enc sz v l) (hb : ∀ k, v.ownBlock = some k → w'.heap[k]? = w.heap[k]?) : Own w' base e enc sz v l := by
  obtain ⟨h1, h2⟩ := h
  refine ⟨h1, ?_⟩
  rcases h2 with h2 | ⟨g, cap, cur, hv, hbb, hg, r⟩
  · exact .inl h2
  · exact .inr ⟨g, cap, cur, hv, hbb, (hb g (by rw [hv]; rfl)).trans hg, r⟩
theorem Own.lt (h : Own w base e enc sz v l) : ∀ k, v.ownBlock = some k → k < w.heap.size ∧ base ≤ k := by
  intro k hk
  rcases h.2 with ⟨hv, _⟩ | ⟨g, cap, cur, hv, hbb, hg, r⟩
  · rw [hv] at hk; cases hk
  · rw [hv] at hk; cases hk; exact ⟨(Array.getElem?_eq_some_iff.1 hg).1, hbb⟩
theorem Own.ext (h : Own w base e enc sz v l) (hb : Below w.heap.size w w') : Own w' base e enc sz v l :=
  h.block (fun k hk => hb.block k (h.lt k hk).1)
theorem Own.alloc (h : Own w base e enc sz v l) (o : Obj) : Own (w.alloc o) base e enc sz v l := h.ext ((Below.refl _ _).alloc (Nat.le_refl _) _)
theorem Own.low {base' : Nat} (h : Own w base e enc sz v l) (hb : base' ≤ base) : Own w base' e enc sz v l := by
  obtain ⟨h1, h2⟩ := h
  refine ⟨h1, ?_⟩
  rcases h2 with h2 | ⟨g, cap, cur, hv, hbb, r⟩
  · exact .inl h2
  · exact .inr ⟨g, cap, cur, hv, Nat.le_trans hb hbb, r⟩
theorem Own.append {P : Program} {t : TypeId} {b : Nat} (I : EInfo P t e enc sz b) (ty : TypeId) (h : Own w base e enc sz v l) {B : Option Addr} {ys : List α} {m : Nat} (hm : m = ys.length) (c : Nat) (hs : Slc w enc sz B ys) (hby : (l.length + ys.length) * b ≤ 140737488355328) (hml : l.length + ys.length ≤ maxLen) (hbase : base ≤ w.heap.size) :
    ∃ v' w', (Builtin.append_ #[t, t] ty #[v, .slice B m c]).run P w = .ok v' w' ∧ Own w' base e enc sz v' (l ++ ys) ∧ w.grownBy w' v.ownBlock ∧ (v'.ownBlock = v.ownBlock ∨ v'.ownBlock = some w.heap.size) := by
  obtain ⟨i, z, hi, hz, hsz, hbb, hzz⟩ := I.hi
  subst hm
  cases B with
  | none =>
    have h0 : ys = [] := List.eq_nil_of_length_eq_zero (hs.none_len rfl)
    subst h0
    obtain ⟨A, c', rfl, hc, _⟩ := h.form
    refine ⟨_, w, ?_, by simpa using h, ⟨rfl, rfl, rfl, Nat.le_refl _, fun _ _ _ => rfl⟩, .inl rfl⟩
    cases A <;> simp [Builtin.append_, run_underlying I.ht, sizeOf, typeInfo, hi, Builtin.lenOf, Builtin.firstCells, hc, storeCells]
  | some a =>
    obtain ⟨v', w', h1, h2, h3, _, h5⟩ := run_append_own_at (P := P) w base t ty e i z sz b I.ht hi hz hsz hbb hzz I.hz v l.length (l.flatMap enc) h a ys.length c (ys.flatMap enc) (flat_len I.hl ys) (hs.olds I.hl a rfl) (flat_ones I.h1 ys) hml hby hbase
    refine ⟨v', w', h1, ?_, h3, h5⟩
    show w'.ownsRow base e sz v' (l ++ ys).length ((l ++ ys).flatMap enc)
    rw [List.length_append, List.flatMap_append]
    exact h2
/-- append to a slice that is full (or clipped): a new row. -/
theorem Slc.append_full {P : Program} {t : TypeId} {b : Nat} (I : EInfo P t e enc sz b) (ty : TypeId) {A : Option Addr} {n cp : Nat} (hn : n = l.length) (h : Slc w enc sz A l) (hA : A = none → cp = 0) {B : Option Addr} {ys : List α} {m : Nat} (hm : m = ys.length) (c : Nat) (hs : Slc w enc sz B ys) (hfull : cp < l.length + ys.length) (hpos : 0 < ys.length) (hby : (l.length + ys.length) * b ≤ 140737488355328) (hml : l.length + ys.length ≤ maxLen) :
    ∃ v' w', (Builtin.append_ #[t, t] ty #[.slice A n cp, .slice B m c]).run P w = .ok v' w' ∧ Own w' w.heap.size e enc sz v' (l ++ ys) ∧ w.grownBy w' none := by
  obtain ⟨i, z, hi, hz, hsz, hbb, hzz⟩ := I.hi
  subst hm hn
  cases B with
  | none => have := hs.none_len rfl; omega
  | some bd =>
    cases A with
    | none =>
      have hl0 : l = [] := List.eq_nil_of_length_eq_zero (h.none_len rfl)
      obtain rfl := hA rfl
      subst hl0
      obtain ⟨v', w', h1, h2, h3, _⟩ := (Own.nil w w.heap.size e enc sz).append I ty (hm := rfl) c hs hby hml (Nat.le_refl _)
      exact ⟨v', w', h1, h2, h3⟩
    | some a =>
      obtain ⟨v', w', h1, h2, h3⟩ := run_append_arg_grows (P := P) w t ty e i z sz b I.ht hi hz hsz hbb hzz I.hz a l.length cp (l.flatMap enc) (flat_len I.hl l) (h.olds I.hl a rfl) bd ys.length c (ys.flatMap enc) (flat_len I.hl ys) (hs.olds I.hl bd rfl) hfull hml hby
      refine ⟨v', w', h1, ?_, h3⟩
      show w'.ownsRow w.heap.size e sz v' (l ++ ys).length ((l ++ ys).flatMap enc)
      rw [List.length_append, List.flatMap_append]
      exact h2
end
theorem slc_lit {α : Type} {enc : α → List Value} {sz : Nat} (w : World) (l : List α) (cs : Array Value) (e : TypeId) (hs : ∀ x, (enc x).length = sz) (hcs : cs = (l.flatMap enc).toArray) : Slc (w.alloc (.cells cs e)) enc sz (some ⟨w.heap.size, 0, none⟩) l := by
  subst hcs
  intro i x hx
  refine ⟨w.heap.size, 0, rfl, by simp, fun j v hj => ?_⟩
  have := cells_new w (l.flatMap enc) e (i * sz + j) v (flat_put hs l i j x v hx hj)
  rw [show (⟨w.heap.size, 0, none⟩ : Addr).add (i * sz + j) = ⟨w.heap.size, 0 + i * sz + j, none⟩ by unfold Addr.add; split <;> simp_all] at this
  exact this
theorem Own.madeH {α : Type} (w : World) (base : Nat) (e : TypeId) (enc : α → List Value) (sz : Nat) (hb : base ≤ w.heap.size) (H : Nat) (hH : w.heap.size = H) : Own (w.alloc (.cells #[] e)) base e enc sz (.slice (some ⟨H, 0, none⟩) 0 0) ([] : List α) := by
  subst hH; exact Own.made w base e enc sz hb
theorem slc_litH {α : Type} {enc : α → List Value} {sz : Nat} (w : World) (l : List α) (cs : Array Value) (e : TypeId) (hs : ∀ x, (enc x).length = sz) (hcs : cs = (l.flatMap enc).toArray) (H : Nat) (hH : w.heap.size = H) : Slc (w.alloc (.cells cs e)) enc sz (some ⟨H, 0, none⟩) l := by
  subst hH; exact slc_lit w l cs e hs hcs
theorem Own.drew_ {α : Type} {w : World} {base : Nat} {e : TypeId} {enc : α → List Value} {sz : Nat} {v : Value} {l : List α} (h : Own w base e enc sz v l) : Own w.drew base e enc sz v l := h
theorem far {w w' : World} {row : Option Nat} (hg : w.grownBy w' row) (b : Nat) (hlt : b < w.heap.size) (hne : some b ≠ row) (o : Nat) (v : Option Value) (hv : w.cell? ⟨b, o, none⟩ = v) : w'.cell? ⟨b, o, none⟩ = v :=
  (World.cell?_of_block (hg.block b hlt hne)).trans hv
theorem Slc.grown {α : Type} {w w' : World} {enc : α → List Value} {sz : Nat} {A : Option Addr} {l : List α} {row : Option Nat} (h : Slc w enc sz A l) (hg : w.grownBy w' row) (hne : ∀ b o s, A = some ⟨b, o, s⟩ → some b ≠ row) : Slc w' enc sz A l := fun i x hx => by
  obtain ⟨b, o, e, hlt, hc⟩ := h i x hx
  exact ⟨b, o, e, Nat.lt_of_lt_of_le hlt hg.size, fun j v hj => (World.cell?_of_block (w := w) (a := ⟨b, o + i * sz + j, none⟩) (hg.block b hlt (hne b o none e))).trans (hc j v hj)⟩
/-- append in a plain region, its run known. -/
theorem wpList_append_run {P : Program} {w : World} {ops : Array Oper} {rest : List Oper} {o : Oper} {a : Act} {Q : Exit → Act → World → Prop}
    (hg : o.guard = none) (s x : Operand) (t : TypeId) (hop : o.op = Op.call { callee := Callee.builtin Builtin.append, args := #[s, x], argTypes := #[t, t] }) (u v : Value) (hs : a.eval s = u) (hx : a.eval x = v)
    {v' : Value} {w' : World} (hrun : (Builtin.append_ #[t, t] o.type #[u, v]).run P w = .ok v' w') (h : wpList P ops Q rest (a.put o.dst v') w') : wpList P ops Q (o :: rest) a w := by
  refine wpList_plain hg fun K hK' => ?_
  unfold Oper.wp
  simp [execOp, hop, resolve, invoke, builtin, hs, hx, hrun, Result.andThen]
  exact hK' _ _ h
end Go.Proofs.YtjiojpoiocdnmaaGreat
/- append to a clipped slice, whatever is appended; a slice's head and tail; a whole block. No program in sight. -/
set_option linter.unusedSimpArgs false
set_option linter.unusedVariables false
namespace Go.Proofs.YtjiojpoiocdnmaaGreat
open Go.RowKit
section
variable {α : Type} {w w' : World} {base : Nat} {e : TypeId} {enc : α → List Value} {sz : Nat} {v : Value} {l : List α}
theorem Own.cap (h : Own w base e enc sz v l) : ∃ A c, v = .slice A l.length c ∧ l.length ≤ c ∧ c ≤ maxLen ∧ (A = none → c = 0) := by
  rcases h.2 with ⟨hv, h0⟩ | ⟨g, cap, cur, hv, hb, hg, hc, hm, _⟩
  · exact ⟨none, 0, by rw [hv, h0], by omega, by simp, fun _ => rfl⟩
  · exact ⟨_, cap, hv, hc, hm, fun h => by cases h⟩
theorem ext_grown {w0 w w' : World} {row : Option Nat} (hE : Below w0.heap.size w0 w) (hg : w.grownBy w' row) (hr : ∀ r, row = some r → w0.heap.size ≤ r) : Below w0.heap.size w0 w' :=
  ⟨hg.os.trans hE.os, hg.tape.trans hE.tape, hg.output.trans hE.output, Nat.le_trans hE.size hg.size, fun k hk => (hg.block k (Nat.lt_of_lt_of_le hk hE.size) (fun e => by have := hr k e.symm; omega)).trans (hE.block k hk)⟩
theorem Own.append_to {w0 : World} {P : Program} {t : TypeId} {b : Nat} (I : EInfo P t e enc sz b) (ty : TypeId) (h : Own w w0.heap.size e enc sz v l) (hE : Below w0.heap.size w0 w) {B : Option Addr} {ys : List α} {m : Nat} (hm : m = ys.length) (c : Nat) (hs : Slc w enc sz B ys)
    (hby : (l.length + ys.length) * b ≤ 140737488355328) (hml : l.length + ys.length ≤ maxLen) :
    ∃ v' w', (Builtin.append_ #[t, t] ty #[v, .slice B m c]).run P w = .ok v' w' ∧ ∃ A c, v' = .slice A (l ++ ys).length c ∧ Own w' w0.heap.size e enc sz (.slice A (l ++ ys).length c) (l ++ ys) ∧ Below w0.heap.size w0 w' ∧ w.grownBy w' v.ownBlock ∧ (l ++ ys).length ≤ c ∧ c ≤ maxLen := by
  obtain ⟨v', w', h1, h2, h3, _⟩ := h.append I ty hm c hs hby hml hE.size
  obtain ⟨A, c', rfl, k1, k2, _⟩ := h2.cap
  exact ⟨_, w', h1, A, c', rfl, h2, ext_grown hE h3 (fun r e => (h.lt r e).2), h3, k1, k2⟩
/-- A row that does not lie in block b (an empty one lies nowhere). -/
def rowOff (A : Option Addr) (l : List α) (b : Nat) : Prop := l ≠ [] → ∀ c o s, A = some ⟨c, o, s⟩ → c ≠ b
theorem Slc.rowOff {A : Option Addr} (h : Slc w enc sz A l) {b : Nat} (hb : w.heap.size ≤ b) : Go.Proofs.YtjiojpoiocdnmaaGreat.rowOff A l b := by
  intro hl c o s e hc
  cases l with
  | nil => exact hl rfl
  | cons x xs =>
    obtain ⟨b', o', e', hlt, _⟩ := h 0 x rfl
    rw [e'] at e; cases e; omega
/-- A store elsewhere. -/
theorem Slc.far {A : Option Addr} (h : Slc w enc sz A l) {p : Addr} {v : Value} (hp : Go.Proofs.YtjiojpoiocdnmaaGreat.rowOff A l p.block) : Slc (w.setCell p v) enc sz A l := fun i x hx => by
  obtain ⟨b, o, rfl, hlt, hc⟩ := h i x hx
  refine ⟨b, o, rfl, by simpa [World.setCell] using hlt, fun j u hj => ?_⟩
  rw [World.cell?_setCell_other _ _ _ _ (by intro e; exact hp (by intro h0; rw [h0] at hx; simp at hx) b o none rfl (by rw [e]))]
  exact hc j u hj
theorem Slc.take {A : Option Addr} (h : Slc w enc sz A l) (k : Nat) : Slc w enc sz A (l.take k) := fun i x hx => by
  rw [List.getElem?_take] at hx
  split at hx
  · exact h i x hx
  · cases hx
theorem Slc.drop {A : Option Addr} (h : Slc w enc sz A l) (k : Nat) : Slc w enc sz (A.map (·.add (k * sz))) (l.drop k) := fun i x hx => by
  rw [List.getElem?_drop] at hx
  obtain ⟨b, o, rfl, hlt, hc⟩ := h (k + i) x hx
  refine ⟨b, o + k * sz, ?_, hlt, fun j v hj => ?_⟩
  · simp only [Option.map_some, Option.some.injEq]
    unfold Addr.add
    split
    · rename_i h0; simp [h0]
    · rfl
  · have := hc j v hj
    rw [Nat.add_mul] at this
    rw [show o + k * sz + i * sz + j = o + (k * sz + i * sz) + j by omega]
    exact this
end
/-- A block known whole. -/
structure Blk (w : World) (b : Nat) (cs : List Value) : Prop where
  lt : b < w.heap.size
  c : ∀ j v, cs[j]? = some v → w.cell? ⟨b, j, none⟩ = some v
  f : ∀ j, w.frozen? ⟨b, j, none⟩ = false
theorem Blk.ext {w w' : World} {b : Nat} {cs : List Value} (h : Blk w b cs) (hb : Below w.heap.size w w') : Blk w' b cs :=
  ⟨Nat.lt_of_lt_of_le h.lt hb.size, fun j v hj => (hb.cell (p := ⟨b, j, none⟩) h.lt).trans (h.c j v hj), fun j => (hb.frozen (p := ⟨b, j, none⟩) h.lt).trans (h.f j)⟩
theorem Blk.new (w : World) (cs : List Value) (t : TypeId) : Blk (w.alloc (.cells cs.toArray t)) w.heap.size cs :=
  ⟨by simp, fun j v hj => by rw [cell_of_row _ w.heap.size j cs.toArray t (0, 0) (heap_alloc_new w _)]; simpa using hj, fun j => by simp⟩
theorem Blk.newH (w : World) (cs : List Value) (t : TypeId) (H : Nat) (hH : w.heap.size = H) : Blk (w.alloc (.cells cs.toArray t)) H cs := by
  subst hH; exact Blk.new w cs t
theorem Blk.alloc {w : World} {b : Nat} {cs : List Value} (h : Blk w b cs) (o : Obj) : Blk (w.alloc o) b cs := h.ext (ext_alloc (ext_refl w) o)
theorem Blk.drew {w : World} {b : Nat} {cs : List Value} (h : Blk w b cs) : Blk w.drew b cs := h.ext (ext_drew (ext_refl w))
theorem Blk.set {w : World} {b : Nat} {cs : List Value} (h : Blk w b cs) {j : Nat} (hj : j < cs.length) (v : Value) : Blk (w.setCell ⟨b, j, none⟩ v) b (cs.set j v) := by
  refine ⟨by simpa [World.setCell] using h.lt, fun i u hu => ?_, fun i => by simpa using h.f i⟩
  rw [List.getElem?_set] at hu
  split at hu
  · rename_i e
    subst e
    try rw [if_pos hj] at hu
    cases hu
    exact World.cell?_setCell_same' _ _ _ (by rw [h.c j _ (List.getElem?_eq_getElem hj)]; rfl)
  · rename_i e
    rw [World.cell?_setCell_other _ _ _ _ (by intro e'; injection e' with _ e'; exact e e')]
    exact h.c i u hu
theorem Blk.other {w : World} {b : Nat} {cs : List Value} (h : Blk w b cs) {p : Addr} (v : Value) (hp : p.block ≠ b) : Blk (w.setCell p v) b cs :=
  ⟨by simpa [World.setCell] using h.lt, fun i u hu => by
    rw [World.cell?_setCell_other _ _ _ _ (by intro e'; exact hp (by rw [e']))]
    exact h.c i u hu, fun i => by simpa using h.f i⟩
theorem below_set {B : Nat} {a b : World} (h : Below B a b) (p : Addr) (v : Value) (hp : B ≤ p.block) : Below B a (b.setCell p v) := h.setCell (p := p) hp v
/-- Stores into blocks that lie behind the old ones. -/
theorem ext_set {a b : World} (h : Below a.heap.size a b) (p : Addr) (v : Value) (hp : a.heap.size ≤ p.block) : Below a.heap.size a (b.setCell p v) := h.setCell (p := p) hp v
end Go.Proofs.YtjiojpoiocdnmaaGreat
