/- append to a clipped slice, whatever is appended; a slice's head and tail; a whole block. No program in sight. -/
import Derived.Test.YtjiojpoiocdnmaaGreatU1
set_option linter.unusedSimpArgs false
set_option linter.unusedVariables false
namespace Go.Proofs.YtjiojpoiocdnmaaGreat
open Go.RowKit
section
variable {α : Type} {w w' : World} {base : Nat} {e : TypeId} {enc : α → List Value} {sz : Nat} {v : Value} {l : List α}
theorem Own.cap (h : Own w base e enc sz v l) : ∃ A c, v = .slice A l.length c ∧ l.length ≤ c ∧ c ≤ maxLen ∧ (A = none → c = 0) := by
  rcases h.2 with ⟨hv, h0⟩ | ⟨g, cap, cur, hv, hb, hg, hc, hm, _⟩
  · exact ⟨none, 0, by rw [hv, h0], by omega, by simp, fun _ => rfl⟩
  · exact ⟨_, cap, hv, hc, hm, fun h => by cases h⟩
theorem ext_grown {w0 w w' : World} {row : Option Nat} (hE : Below w0.heap.size w0 w) (hg : w.grownBy w' row) (hr : ∀ r, row = some r → w0.heap.size ≤ r) : Below w0.heap.size w0 w' :=
  ⟨hg.os.trans hE.os, hg.tape.trans hE.tape, hg.output.trans hE.output, Nat.le_trans hE.size hg.size, fun k hk => (hg.block k (Nat.lt_of_lt_of_le hk hE.size) (fun e => by have := hr k e.symm; omega)).trans (hE.block k hk)⟩
theorem Own.append_to {w0 : World} {P : Program} {t : TypeId} {b : Nat} (I : EInfo P t e enc sz b) (ty : TypeId) (h : Own w w0.heap.size e enc sz v l) (hE : Below w0.heap.size w0 w) {B : Option Addr} {ys : List α} {m : Nat} (hm : m = ys.length) (c : Nat) (hs : Slc w enc sz B ys)
    (hby : (l.length + ys.length) * b ≤ 140737488355328) (hml : l.length + ys.length ≤ maxLen) :
    ∃ v' w', (Builtin.append_ #[t, t] ty #[v, .slice B m c]).run P w = .ok v' w' ∧ ∃ A c, v' = .slice A (l ++ ys).length c ∧ Own w' w0.heap.size e enc sz (.slice A (l ++ ys).length c) (l ++ ys) ∧ Below w0.heap.size w0 w' ∧ w.grownBy w' v.ownBlock ∧ (l ++ ys).length ≤ c ∧ c ≤ maxLen := by
  obtain ⟨v', w', h1, h2, h3, _⟩ := h.append I ty hm c hs hby hml hE.size
  obtain ⟨A, c', rfl, k1, k2, _⟩ := h2.cap
  exact ⟨_, w', h1, A, c', rfl, h2, ext_grown hE h3 (fun r e => (h.lt r e).2), h3, k1, k2⟩
/-- A row that does not lie in block b (an empty one lies nowhere). -/
def rowOff (A : Option Addr) (l : List α) (b : Nat) : Prop := l ≠ [] → ∀ c o s, A = some ⟨c, o, s⟩ → c ≠ b
theorem Slc.rowOff {A : Option Addr} (h : Slc w enc sz A l) {b : Nat} (hb : w.heap.size ≤ b) : Go.Proofs.YtjiojpoiocdnmaaGreat.rowOff A l b := by
  intro hl c o s e hc
  cases l with
  | nil => exact hl rfl
  | cons x xs =>
    obtain ⟨b', o', e', hlt, _⟩ := h 0 x rfl
    rw [e'] at e; cases e; omega
/-- A store elsewhere. -/
theorem Slc.far {A : Option Addr} (h : Slc w enc sz A l) {p : Addr} {v : Value} (hp : Go.Proofs.YtjiojpoiocdnmaaGreat.rowOff A l p.block) : Slc (w.setCell p v) enc sz A l := fun i x hx => by
  obtain ⟨b, o, rfl, hlt, hc⟩ := h i x hx
  refine ⟨b, o, rfl, by simpa [World.setCell] using hlt, fun j u hj => ?_⟩
  rw [World.cell?_setCell_other _ _ _ _ (by intro e; exact hp (by intro h0; rw [h0] at hx; simp at hx) b o none rfl (by rw [e]))]
  exact hc j u hj
theorem Slc.take {A : Option Addr} (h : Slc w enc sz A l) (k : Nat) : Slc w enc sz A (l.take k) := fun i x hx => by
  rw [List.getElem?_take] at hx
  split at hx
  · exact h i x hx
  · cases hx
theorem Slc.drop {A : Option Addr} (h : Slc w enc sz A l) (k : Nat) : Slc w enc sz (A.map (·.add (k * sz))) (l.drop k) := fun i x hx => by
  rw [List.getElem?_drop] at hx
  obtain ⟨b, o, rfl, hlt, hc⟩ := h (k + i) x hx
  refine ⟨b, o + k * sz, ?_, hlt, fun j v hj => ?_⟩
  · simp only [Option.map_some, Option.some.injEq]
    unfold Addr.add
    split
    · rename_i h0; simp [h0]
    · rfl
  · have := hc j v hj
    rw [Nat.add_mul] at this
    rw [show o + k * sz + i * sz + j = o + (k * sz + i * sz) + j by omega]
    exact this
end
/-- A block known whole. -/
structure Blk (w : World) (b : Nat) (cs : List Value) : Prop where
  lt : b < w.heap.size
  c : ∀ j v, cs[j]? = some v → w.cell? ⟨b, j, none⟩ = some v
  f : ∀ j, w.frozen? ⟨b, j, none⟩ = false
theorem Blk.ext {w w' : World} {b : Nat} {cs : List Value} (h : Blk w b cs) (hb : Below w.heap.size w w') : Blk w' b cs :=
  ⟨Nat.lt_of_lt_of_le h.lt hb.size, fun j v hj => (hb.cell (p := ⟨b, j, none⟩) h.lt).trans (h.c j v hj), fun j => (hb.frozen (p := ⟨b, j, none⟩) h.lt).trans (h.f j)⟩
theorem Blk.new (w : World) (cs : List Value) (t : TypeId) : Blk (w.alloc (.cells cs.toArray t)) w.heap.size cs :=
  ⟨by simp, fun j v hj => by rw [cell_of_row _ w.heap.size j cs.toArray t (0, 0) (heap_alloc_new w _)]; simpa using hj, fun j => by simp⟩
theorem Blk.newH (w : World) (cs : List Value) (t : TypeId) (H : Nat) (hH : w.heap.size = H) : Blk (w.alloc (.cells cs.toArray t)) H cs := by
  subst hH; exact Blk.new w cs t
theorem Blk.alloc {w : World} {b : Nat} {cs : List Value} (h : Blk w b cs) (o : Obj) : Blk (w.alloc o) b cs := h.ext (ext_alloc (ext_refl w) o)
theorem Blk.drew {w : World} {b : Nat} {cs : List Value} (h : Blk w b cs) : Blk w.drew b cs := h.ext (ext_drew (ext_refl w))
theorem Blk.set {w : World} {b : Nat} {cs : List Value} (h : Blk w b cs) {j : Nat} (hj : j < cs.length) (v : Value) : Blk (w.setCell ⟨b, j, none⟩ v) b (cs.set j v) := by
  refine ⟨by simpa [World.setCell] using h.lt, fun i u hu => ?_, fun i => by simpa using h.f i⟩
  rw [List.getElem?_set] at hu
  split at hu
  · rename_i e
    subst e
    try rw [if_pos hj] at hu
    cases hu
    exact World.cell?_setCell_same' _ _ _ (by rw [h.c j _ (List.getElem?_eq_getElem hj)]; rfl)
  · rename_i e
    rw [World.cell?_setCell_other _ _ _ _ (by intro e'; injection e' with _ e'; exact e e')]
    exact h.c i u hu
theorem Blk.other {w : World} {b : Nat} {cs : List Value} (h : Blk w b cs) {p : Addr} (v : Value) (hp : p.block ≠ b) : Blk (w.setCell p v) b cs :=
  ⟨by simpa [World.setCell] using h.lt, fun i u hu => by
    rw [World.cell?_setCell_other _ _ _ _ (by intro e'; exact hp (by rw [e']))]
    exact h.c i u hu, fun i => by simpa using h.f i⟩
theorem below_set {B : Nat} {a b : World} (h : Below B a b) (p : Addr) (v : Value) (hp : B ≤ p.block) : Below B a (b.setCell p v) := h.setCell (p := p) hp v
/-- Stores into blocks that lie behind the old ones. -/
theorem ext_set {a b : World} (h : Below a.heap.size a b) (p : Addr) (v : Value) (hp : a.heap.size ≤ p.block) : Below a.heap.size a (b.setCell p v) := h.setCell (p := p) hp v
end Go.Proofs.YtjiojpoiocdnmaaGreat
/- A struct of four or five cells stored. No program in sight. -/
set_option linter.unusedSimpArgs false
set_option linter.unusedVariables false
namespace Go.Proofs.YtjiojpoiocdnmaaGreat
open Go.RowKit
def set4 (w : World) (b : Nat) (v0 v1 v2 v3 : Value) : World := (((w.setCell ⟨b, 0, none⟩ v0).setCell ⟨b, 1, none⟩ v1).setCell ⟨b, 2, none⟩ v2).setCell ⟨b, 3, none⟩ v3
theorem Blk.put4 {w : World} {b : Nat} {a0 a1 a2 a3 : Value} (h : Blk w b [a0, a1, a2, a3]) (v0 v1 v2 v3 : Value) : Blk (set4 w b v0 v1 v2 v3) b [v0, v1, v2, v3] :=
  (((h.set (j := 0) (by simp) v0).set (j := 1) (by simp) v1).set (j := 2) (by simp) v2).set (j := 3) (by simp) v3
theorem ext_set4 {a b : World} (h : Below a.heap.size a b) (c : Nat) (v0 v1 v2 v3 : Value) (hc : a.heap.size ≤ c) : Below a.heap.size a (set4 b c v0 v1 v2 v3) :=
  below_set (below_set (below_set (below_set h ⟨c, 0, none⟩ v0 hc) ⟨c, 1, none⟩ v1 hc) ⟨c, 2, none⟩ v2 hc) ⟨c, 3, none⟩ v3 hc
theorem Blk.keepB {w w' : World} {b : Nat} {cs : List Value} (h : Blk w b cs) (hb : w'.heap[b]? = w.heap[b]?) : Blk w' b cs :=
  ⟨by have := h.lt; have h1 : w'.heap[b]? = some w.heap[b] := hb.trans (Array.getElem?_eq_getElem this); exact (Array.getElem?_eq_some_iff.1 h1).1,
    fun j v hj => (World.cell?_of_block (w := w) (a := ⟨b, j, none⟩) hb).trans (h.c j v hj), fun j => (World.frozen?_of_block (w := w) (a := ⟨b, j, none⟩) hb).trans (h.f j)⟩
/-- append to a row of the call's own, what comes out named. -/
theorem Own.append_k {α : Type} {w w0 : World} {enc : α → List Value} {sz : Nat} {e : TypeId} {v : Value} {l : List α} {P : Program} {t : TypeId} {b : Nat} (I : EInfo P t e enc sz b) (ty : TypeId) (h : Own w w0.heap.size e enc sz v l) (hE : Below w0.heap.size w0 w) {B : Option Addr} {ys : List α} {m : Nat} (hm : m = ys.length) (c : Nat) (hs : Slc w enc sz B ys)
    (r : List α) (hr : l ++ ys = r) (k : Nat) (hk : r.length = k) (hby : k * b ≤ 140737488355328) (hml : k ≤ maxLen) :
    ∃ v' w', (Builtin.append_ #[t, t] ty #[v, .slice B m c]).run P w = .ok v' w' ∧ ∃ A c, v' = .slice A k c ∧ Own w' w0.heap.size e enc sz (.slice A k c) r ∧ Below w0.heap.size w0 w' ∧ w.grownBy w' v.ownBlock ∧ k ≤ c ∧ c ≤ maxLen := by
  subst hr hk
  exact h.append_to I ty hE hm c hs (by rw [← List.length_append]; exact hby) (by rw [← List.length_append]; exact hml)
end Go.Proofs.YtjiojpoiocdnmaaGreat
