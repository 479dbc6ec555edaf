/- Words for a range over a function: what a round keeps; what abides the loop's own book-keeping. No program in sight. -/
import Derived.Test.YtilocjliplmmpaaGreatLB
import Derived.RangeFuncNested
import Derived.RangeFuncBound
import Derived.RangeFuncCalls
import Derived.RangeFuncLeaves
import Derived.RangeFuncBox
import Derived.RangeFuncWrites
import Derived.Shelf.Abstract
import Derived.Shelf.RegionOpen
import Derived.WalkKit
import Derived.OwnWalkIn
import Derived.TacticsInMore
import Derived.LoopNIn
import Derived.LoopIn
set_option linter.unusedSimpArgs false
set_option linter.unusedVariables false
namespace Go.Proofs.YtilocjliplmmpaaGreat
open Go.RowKit Go.Shelf

/-- Below B, but for the blocks in ex, the world is as it was. -/
def Kx (B : Nat) (ex : Nat → Prop) (W W' : World) : Prop := ∀ k, k < B → ¬ ex k → W'.heap[k]? = W.heap[k]?
section
variable {B : Nat} {ex : Nat → Prop}
theorem Kx.refl (W : World) : Kx B ex W W := fun _ _ _ => rfl
theorem Kx.t {X Y Z : World} (h : Kx B ex X Y) (k : Kx B ex Y Z) : Kx B ex X Z := fun i hi hn => (k i hi hn).trans (h i hi hn)
theorem Kx.b {w : World} (hB : B ≤ w.heap.size) (W : World) (l : Nat) (o o' : Obj) (hl : w.heap.size ≤ l) (h : W.heap[l]? = some o) (_ : o.isCells = false) (_ : o.isWalk = false) : Kx B ex W (W.putObj l o') := by
  intro k hk _
  have hlt := (Array.getElem?_eq_some_iff.1 h).1
  exact (grownBy_putObj' W l o').block k (by omega) (fun e => by cases e; omega)
theorem Kx.grown {W W' : World} {row : Option Nat} (hg : W.grownBy W' row) (hB : B ≤ W.heap.size) (hr : ∀ r, row = some r → B ≤ r ∨ ex r) : Kx B ex W W' := by
  intro k hk hn
  refine hg.block k (by omega) (fun e => ?_)
  rcases hr k e.symm with h | h
  · omega
  · exact hn h
theorem Kx.below {n : Nat} {W W' : World} (h : Below n W W') (hB : B ≤ n) : Kx B ex W W' := fun k hk _ => h.block k (by omega)
theorem Kx.set {W : World} (p : Addr) (v : Value) (hr : B ≤ p.block ∨ ex p.block) : Kx B ex W (W.setCell p v) := by
  intro k hk hn
  exact Below.heap_setCell W p v k (by
    intro e
    rcases hr with h | h
    · omega
    · rw [← e] at h; exact hn h)
end
theorem grown_below {w w' : World} (h : Below w.heap.size w w') : w.grownBy w' none := ⟨h.os, h.tape, h.output, h.size, fun k hk _ => h.block k hk⟩
theorem below_grown {w w' : World} (h : w.grownBy w' none) : Below w.heap.size w w' := ⟨h.os, h.tape, h.output, h.size, fun k hk => h.block k hk (by simp)⟩
/-- A turn of a block that is no cells leaves a slice as it was. -/
theorem Slc.turn {α : Type} {w w' : World} {enc : α → List Value} {sz : Nat} {A : Option Addr} {l : List α} {row : Option Nat} (hs : ∀ x, (enc x).length = sz) (hz : 0 < sz) (h : Slc w enc sz A l) (hg : w.grownBy w' row) (hr : ∀ r, row = some r → ∃ o : Obj, w.heap[r]? = some o ∧ o.isCells = false) : Slc w' enc sz A l := fun i x hx => by
  obtain ⟨b, o, e, hlt, hc⟩ := h i x hx
  have hne : some b ≠ row := by
    intro e'
    obtain ⟨ob, h1, h2⟩ := hr b e'.symm
    have h3 := hc 0 _ (List.getElem?_eq_getElem (by rw [hs]; exact hz))
    simp only [World.cell?, h1] at h3
    cases ob <;> simp_all [Obj.isCells]
  exact ⟨b, o, e, Nat.lt_of_lt_of_le hlt hg.size, fun j v hj => (World.cell?_of_block (w := w) (a := ⟨b, o + i * sz + j, none⟩) (hg.block b hlt hne)).trans (hc j v hj)⟩
theorem Own.turn {α : Type} {w w' : World} {base : Nat} {e : TypeId} {enc : α → List Value} {sz : Nat} {v : Value} {l : List α} {row : Option Nat} (h : Own w base e enc sz v l) (hg : w.grownBy w' row) (hr : ∀ r, row = some r → ∃ o : Obj, w.heap[r]? = some o ∧ o.isCells = false) : Own w' base e enc sz v l := by
  obtain ⟨h1, h2⟩ := h
  refine ⟨h1, ?_⟩
  rcases h2 with h2 | ⟨g, cap, cur, hv, hbb, hgb, r⟩
  · exact .inl h2
  · refine .inr ⟨g, cap, cur, hv, hbb, ?_, r⟩
    rw [hg.block g (Array.getElem?_eq_some_iff.1 hgb).1 (fun e' => by obtain ⟨ob, h3, h4⟩ := hr g e'.symm; rw [hgb] at h3; cases h3; cases h4)]
    exact hgb
theorem Boxed.turn {w w' : World} {B : Nat} {t : TypeId} {v : Value} {row : Option Nat} (h : Boxed w B t v) (hg : w.grownBy w' row) (hr : ∀ r, row = some r → ∃ o : Obj, w.heap[r]? = some o ∧ o.isCells = false) : Boxed w' B t v :=
  h.kept hg (fun e' => by obtain ⟨ob, h3, h4⟩ := hr B e'.symm; rw [show w.heap[B]? = _ from h] at h3; cases h3; cases h4)
/-- append inside a fence, its run known. -/
theorem wpListIn_append_run {F : Fence} {n : Nat} {P : Program} {w : World} {ops : Array Oper} {rest : List Oper} {o : Oper} {a : Act} {Q : Exit → Act → World → Prop}
    (hg : o.guard = none) (s x : Operand) (t : TypeId) (hop : o.op = Op.call { callee := Callee.builtin Builtin.append, args := #[s, x], argTypes := #[t, t] }) (u v : Value) (hs : a.eval s = u) (hx : a.eval x = v)
    {v' : Value} {w' : World} (hrun : (Builtin.append_ #[t, t] o.type #[u, v]).run P w = .ok v' w') (h : wpListIn F n P ops Q rest (a.put o.dst v') w') : wpListIn F n P ops Q (o :: rest) a w := by
  refine wpListIn_plain hg fun K hK' => ?_
  unfold Oper.wpIn
  refine ⟨?_, ?_⟩
  · simp [Oper.about, hop, resolve, Target.leads, Sem.run_pure]
  · rw [Oper.semAt_plain F _ _ (by rw [hop]; intro c hc'; cases hc')]
    simp [execOp, hop, resolve, invoke, builtin, hs, hx, hrun, Result.andThen]
    exact hK' _ _ h
end Go.Proofs.YtilocjliplmmpaaGreat
