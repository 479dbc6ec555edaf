/- A struct of four or five cells stored. No program in sight. -/
import Derived.Test.YtmgpbjpohbpgpaaApp2
set_option linter.unusedSimpArgs false
set_option linter.unusedVariables false
namespace Go.Proofs.Ytmgpbjpohbpgpaa
open Go.RowKit
def set1 (w : World) (b : Nat) (v0 : Value) : World := w.setCell ⟨b, 0, none⟩ v0
def set4 (w : World) (b : Nat) (v0 v1 v2 v3 : Value) : World := (((w.setCell ⟨b, 0, none⟩ v0).setCell ⟨b, 1, none⟩ v1).setCell ⟨b, 2, none⟩ v2).setCell ⟨b, 3, none⟩ v3
def set5 (w : World) (b : Nat) (v0 v1 v2 v3 v4 : Value) : World := ((((w.setCell ⟨b, 0, none⟩ v0).setCell ⟨b, 1, none⟩ v1).setCell ⟨b, 2, none⟩ v2).setCell ⟨b, 3, none⟩ v3).setCell ⟨b, 4, none⟩ v4
theorem Blk.put4 {w : World} {b : Nat} {a0 a1 a2 a3 : Value} (h : Blk w b [a0, a1, a2, a3]) (v0 v1 v2 v3 : Value) : Blk (set4 w b v0 v1 v2 v3) b [v0, v1, v2, v3] :=
  (((h.set (j := 0) (by simp) v0).set (j := 1) (by simp) v1).set (j := 2) (by simp) v2).set (j := 3) (by simp) v3
theorem Blk.put5 {w : World} {b : Nat} {a0 a1 a2 a3 a4 : Value} (h : Blk w b [a0, a1, a2, a3, a4]) (v0 v1 v2 v3 v4 : Value) : Blk (set5 w b v0 v1 v2 v3 v4) b [v0, v1, v2, v3, v4] :=
  ((((h.set (j := 0) (by simp) v0).set (j := 1) (by simp) v1).set (j := 2) (by simp) v2).set (j := 3) (by simp) v3).set (j := 4) (by simp) v4
theorem Blk.off4 {w : World} {b c : Nat} {cs : List Value} (h : Blk w b cs) (v0 v1 v2 v3 : Value) (hc : c ≠ b) : Blk (set4 w c v0 v1 v2 v3) b cs :=
  (((h.other (p := ⟨c, 0, none⟩) v0 hc).other (p := ⟨c, 1, none⟩) v1 hc).other (p := ⟨c, 2, none⟩) v2 hc).other (p := ⟨c, 3, none⟩) v3 hc
theorem Blk.off5 {w : World} {b c : Nat} {cs : List Value} (h : Blk w b cs) (v0 v1 v2 v3 v4 : Value) (hc : c ≠ b) : Blk (set5 w c v0 v1 v2 v3 v4) b cs :=
  ((((h.other (p := ⟨c, 0, none⟩) v0 hc).other (p := ⟨c, 1, none⟩) v1 hc).other (p := ⟨c, 2, none⟩) v2 hc).other (p := ⟨c, 3, none⟩) v3 hc).other (p := ⟨c, 4, none⟩) v4 hc
theorem ext_set4 {a b : World} (h : Below a.heap.size a b) (c : Nat) (v0 v1 v2 v3 : Value) (hc : a.heap.size ≤ c) : Below a.heap.size a (set4 b c v0 v1 v2 v3) :=
  below_set (below_set (below_set (below_set h ⟨c, 0, none⟩ v0 hc) ⟨c, 1, none⟩ v1 hc) ⟨c, 2, none⟩ v2 hc) ⟨c, 3, none⟩ v3 hc
theorem ext_set5 {a b : World} (h : Below a.heap.size a b) (c : Nat) (v0 v1 v2 v3 v4 : Value) (hc : a.heap.size ≤ c) : Below a.heap.size a (set5 b c v0 v1 v2 v3 v4) :=
  below_set (below_set (below_set (below_set (below_set h ⟨c, 0, none⟩ v0 hc) ⟨c, 1, none⟩ v1 hc) ⟨c, 2, none⟩ v2 hc) ⟨c, 3, none⟩ v3 hc) ⟨c, 4, none⟩ v4 hc
theorem set4_size (w : World) (b : Nat) (v0 v1 v2 v3 : Value) : (set4 w b v0 v1 v2 v3).heap.size = w.heap.size := by simp [set4]
theorem set5_size (w : World) (b : Nat) (v0 v1 v2 v3 v4 : Value) : (set5 w b v0 v1 v2 v3 v4).heap.size = w.heap.size := by simp [set5]
theorem Slc.far4 {α : Type} {w : World} {enc : α → List Value} {sz : Nat} {l : List α} {A : Option Addr} (h : Slc w enc sz A l) {b : Nat} (v0 v1 v2 v3 : Value) (hp : Go.Proofs.Ytmgpbjpohbpgpaa.rowOff A l b) : Slc (set4 w b v0 v1 v2 v3) enc sz A l :=
  (((h.far (p := ⟨b, 0, none⟩) hp).far (p := ⟨b, 1, none⟩) hp).far (p := ⟨b, 2, none⟩) hp).far (p := ⟨b, 3, none⟩) hp
theorem Slc.far5 {α : Type} {w : World} {enc : α → List Value} {sz : Nat} {l : List α} {A : Option Addr} (h : Slc w enc sz A l) {b : Nat} (v0 v1 v2 v3 v4 : Value) (hp : Go.Proofs.Ytmgpbjpohbpgpaa.rowOff A l b) : Slc (set5 w b v0 v1 v2 v3 v4) enc sz A l :=
  ((((h.far (p := ⟨b, 0, none⟩) hp).far (p := ⟨b, 1, none⟩) hp).far (p := ⟨b, 2, none⟩) hp).far (p := ⟨b, 3, none⟩) hp).far (p := ⟨b, 4, none⟩) hp
theorem Blk.keepB {w w' : World} {b : Nat} {cs : List Value} (h : Blk w b cs) (hb : w'.heap[b]? = w.heap[b]?) : Blk w' b cs :=
  ⟨by have := h.lt; have h1 : w'.heap[b]? = some w.heap[b] := hb.trans (Array.getElem?_eq_getElem this); exact (Array.getElem?_eq_some_iff.1 h1).1,
    fun j v hj => (World.cell?_of_block (w := w) (a := ⟨b, j, none⟩) hb).trans (h.c j v hj), fun j => (World.frozen?_of_block (w := w) (a := ⟨b, j, none⟩) hb).trans (h.f j)⟩
/-- A row elsewhere, while another one grows. -/
theorem Slc.grown2 {α : Type} {w w' : World} {enc : α → List Value} {sz : Nat} {A : Option Addr} {l : List α} {row : Option Nat} (h : Slc w enc sz A l) (hg : w.grownBy w' row) (hr : ∀ r, row = some r → Go.Proofs.Ytmgpbjpohbpgpaa.rowOff A l r) : Slc w' enc sz A l := fun i x hx => by
  obtain ⟨b, o, rfl, hlt, hc⟩ := h i x hx
  refine ⟨b, o, rfl, Nat.lt_of_lt_of_le hlt hg.size, fun j v hj => (World.cell?_of_block (w := w) (a := ⟨b, o + i * sz + j, none⟩) (hg.block b hlt (fun e => ?_))).trans (hc j v hj)⟩
  exact hr b e.symm (by intro h0; rw [h0] at hx; simp at hx) b o none rfl rfl
/-- append to a row of the call's own, what comes out named. -/
theorem Own.append_k {α : Type} {w w0 : World} {enc : α → List Value} {sz : Nat} {e : TypeId} {v : Value} {l : List α} {P : Program} {t : TypeId} {b : Nat} (I : EInfo P t e enc sz b) (ty : TypeId) (h : Own w w0.heap.size e enc sz v l) (hE : Below w0.heap.size w0 w) {B : Option Addr} {ys : List α} {m : Nat} (hm : m = ys.length) (c : Nat) (hs : Slc w enc sz B ys)
    (r : List α) (hr : l ++ ys = r) (k : Nat) (hk : r.length = k) (hby : k * b ≤ 140737488355328) (hml : k ≤ maxLen) :
    ∃ v' w', (Builtin.append_ #[t, t] ty #[v, .slice B m c]).run P w = .ok v' w' ∧ ∃ A c, v' = .slice A k c ∧ Own w' w0.heap.size e enc sz (.slice A k c) r ∧ Below w0.heap.size w0 w' ∧ w.grownBy w' v.ownBlock ∧ k ≤ c ∧ c ≤ maxLen := by
  subst hr hk
  exact h.append_to I ty hE hm c hs (by rw [← List.length_append]; exact hby) (by rw [← List.length_append]; exact hml)
end Go.Proofs.Ytmgpbjpohbpgpaa
