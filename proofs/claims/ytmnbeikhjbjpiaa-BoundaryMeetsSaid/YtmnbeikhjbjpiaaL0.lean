/- What is known of a boundary in memory; what the functions hand back. No program's text. -/
import Derived.Test.YtmnbeikhjbjpiaaB
import Derived.Test.YtmnbeikhjbjpiaaApp3
set_option linter.unusedSimpArgs false
set_option linter.unusedVariables false
namespace Go.Proofs.Ytmnbeikhjbjpiaa
open Go.RowKit
def Bd.bl (b : Bd) : Bl := ⟨b.own, b.ot, b.ag.l, b.op.l⟩
structure BOk (w : World) (b : Bd) : Prop where
  ag : Slc w Ag.cells 5 b.ag.A b.ag.l
  op : Slc w Ag.cells 5 b.op.A b.op.l
  agl : b.ag.l.length ≤ b.ag.c
  agc : b.ag.c ≤ maxLen
  opl : b.op.l.length ≤ b.op.c
  opc : b.op.c ≤ maxLen
theorem BOk.ext {w w' : World} {b : Bd} (h : BOk w b) (hb : Below w.heap.size w w') : BOk w' b := ⟨h.ag.ext hb, h.op.ext hb, h.agl, h.agc, h.opl, h.opc⟩
theorem BOk.alloc {w : World} {b : Bd} (h : BOk w b) (o : Obj) : BOk (w.alloc o) b := h.ext (ext_alloc (ext_refl w) o)
def Bd.off (b : Bd) (c : Nat) : Prop := rowOff b.ag.A b.ag.l c ∧ rowOff b.op.A b.op.l c
theorem BOk.off {w : World} {b : Bd} (h : BOk w b) {c : Nat} (hc : w.heap.size ≤ c) : b.off c := ⟨h.ag.rowOff hc, h.op.rowOff hc⟩
theorem BOk.set {w : World} {b : Bd} (h : BOk w b) {p : Addr} (v : Value) (ho : b.off p.block) : BOk (w.setCell p v) b := ⟨h.ag.far ho.1, h.op.far ho.2, h.agl, h.agc, h.opl, h.opc⟩
theorem BOk.set4 {w : World} {b : Bd} (h : BOk w b) {c : Nat} (v0 v1 v2 v3 : Value) (ho : b.off c) : BOk (Go.Proofs.Ytmnbeikhjbjpiaa.set4 w c v0 v1 v2 v3) b := ⟨h.ag.far4 _ _ _ _ ho.1, h.op.far4 _ _ _ _ ho.2, h.agl, h.agc, h.opl, h.opc⟩
theorem BOk.set5 {w : World} {b : Bd} (h : BOk w b) {c : Nat} (v0 v1 v2 v3 v4 : Value) (ho : b.off c) : BOk (Go.Proofs.Ytmnbeikhjbjpiaa.set5 w c v0 v1 v2 v3 v4) b := ⟨h.ag.far5 _ _ _ _ _ ho.1, h.op.far5 _ _ _ _ _ ho.2, h.agl, h.agc, h.opl, h.opc⟩
def zeroBd : Bd := ⟨0, 0, ⟨none, 0, []⟩, ⟨none, 0, []⟩⟩
theorem rowOff_nil {α : Type} {A : Option Addr} (c : Nat) : rowOff A ([] : List α) c := fun h => absurd rfl h
theorem BOk.lists {w : World} {own ot : Int} : BOk w ⟨own, ot, ⟨none, 0, []⟩, ⟨none, 0, []⟩⟩ := ⟨Slc.nil, Slc.nil, by simp, by simp, by simp, by simp⟩
theorem BOk.zero (w : World) : BOk w zeroBd := BOk.lists
theorem off_lists {own ot : Int} (c : Nat) : Bd.off ⟨own, ot, ⟨none, 0, []⟩, ⟨none, 0, []⟩⟩ c := ⟨rowOff_nil c, rowOff_nil c⟩
/-- A boundary and an error; its rows lie in new blocks, or where F lets them. -/
def BdR (w : World) (F : Nat → Prop) (x : Bl) (err : Int) (e : Ending) (w' : World) : Prop :=
  ∃ m : Bd, e = .returned (.tuple #[m.v, .int .i64 err]) ∧ m.bl = x ∧ BOk w' m ∧ Below w.heap.size w w' ∧ ∀ b, b < w.heap.size → F b → m.off b
/-- .. and an agreement. -/
def BaR (w : World) (F : Nat → Prop) (x : Bl) (a : Ag) (err : Int) (e : Ending) (w' : World) : Prop :=
  ∃ m : Bd, e = .returned (.tuple #[m.v, a.v, .int .i64 err]) ∧ m.bl = x ∧ BOk w' m ∧ Below w.heap.size w w' ∧ ∀ b, b < w.heap.size → F b → m.off b
theorem BdR.zero {w w' : World} {F : Nat → Prop} {x : Bl} {err r : Int} {e : Ending} (hr : r = err) (hx : r ≠ 0 → x = zeroB) (h0 : err ≠ 0) (he : e = .returned (.tuple #[.agg #[.int .i64 0, .int .i64 0, .slice none 0 0, .slice none 0 0], .int .i64 err])) (hb : Below w.heap.size w w') : BdR w F x r e w' := by
  subst hr
  obtain rfl := hx h0
  exact ⟨zeroBd, he, rfl, BOk.zero w', hb, fun b _ _ => off_lists b⟩
theorem BaR.zero {w w' : World} {F : Nat → Prop} {x : Bl} {a : Ag} {err r : Int} {e : Ending} (hr : r = err) (hx : r ≠ 0 → x = zeroB ∧ a = zeroA) (h0 : err ≠ 0) (he : e = .returned (.tuple #[.agg #[.int .i64 0, .int .i64 0, .slice none 0 0, .slice none 0 0], .agg #[.int .i64 0, .int .i64 0, .int .i64 0, .int .i64 0, .int .i64 0], .int .i64 err])) (hb : Below w.heap.size w w') : BaR w F x a r e w' := by
  subst hr
  obtain ⟨rfl, rfl⟩ := hx h0
  exact ⟨zeroBd, he, rfl, BOk.zero w', hb, fun b _ _ => off_lists b⟩
theorem bl_eq_iff (a b : Bd) : a.bl = b.bl ↔ a.own = b.own ∧ a.ot = b.ot ∧ a.ag.l = b.ag.l ∧ a.op.l = b.op.l := by
  unfold Bd.bl; rw [Bl.mk.injEq]
theorem maxLen_of {n c : Nat} (h1 : n ≤ c) (h2 : c ≤ maxLen) : n ≤ maxLen := Nat.le_trans h1 h2
/-- Of a valid list the length is bounded. -/
theorem pw_len : ∀ (l : List Ag) (lo : Int), l.Pairwise (fun x y => x.no < y.no) → (∀ x ∈ l, lo ≤ x.no ∧ x.no ≤ 1048576) → lo ≤ 1048577 → (l.length : Int) ≤ 1048577 - lo
  | [], lo, _, _, h => by simp; omega
  | x :: r, lo, hl, hb, h => by
    have hx := hb x List.mem_cons_self
    have hc := List.pairwise_cons.1 hl
    have := pw_len r (x.no + 1) hc.2 (fun y hy => ⟨by have := hc.1 y hy; omega, (hb y (List.mem_cons_of_mem _ hy)).2⟩) (by omega)
    simp only [List.length_cons]; omega
theorem okL_len {own ot : Int} {l : List Ag} (h : okL own ot l = true) : l.length ≤ 1048576 := by
  obtain ⟨h1, h2⟩ := okL_iff.1 h
  have := pw_len l 1 h2 (fun x hx => fits_no (h1 x hx)) (by omega)
  omega
end Go.Proofs.Ytmnbeikhjbjpiaa
