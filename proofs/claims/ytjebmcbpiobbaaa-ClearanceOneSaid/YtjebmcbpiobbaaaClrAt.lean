import Derived.Test.YtjebmcbpiobbaaaC
import Derived.Test.YtjebmcbpiobbaaaApp
namespace Go.Proofs.Ytjebmcbpiobbaaa
open Go.RowKit
/-- The nine cells of a clearance that lies in a block of its own. -/
def ClrAt (w : World) (b : Nat) (x : Clr) : Prop := ∀ j v, x.cells[j]? = some v → w.cell? ⟨b, j, none⟩ = some v
theorem ClrAt.new (w w' : World) (x : Clr) (h : Below (w.alloc (.cells x.cells.toArray 31)).heap.size (w.alloc (.cells x.cells.toArray 31)) w') : ClrAt w' w.heap.size x := by
  intro j v hv
  rw [h.cell (by simp)]
  have := cells_new w x.cells 31 j v hv
  rwa [show (⟨w.heap.size, 0, none⟩ : Addr).add j = ⟨w.heap.size, j, none⟩ by unfold Addr.add; split <;> simp_all] at this
theorem ClrAt.ext {w w' : World} {b : Nat} {x : Clr} (h : ClrAt w b x) (hlt : b < w.heap.size) (hb : Below w.heap.size w w') : ClrAt w' b x := fun j v hv => (hb.cell (p := ⟨b, j, none⟩) hlt).trans (h j v hv)
theorem ClrAt.all {w : World} {b : Nat} {x : Clr} (h : ClrAt w b x) : w.cell? ⟨b, 0, none⟩ = some (.int .i64 x.no) ∧ w.cell? ⟨b, 1, none⟩ = some (.int .i64 x.fl) ∧ w.cell? ⟨b, 2, none⟩ = some (.int .i64 x.iss) ∧ w.cell? ⟨b, 3, none⟩ = some (.int .i64 x.o.d) ∧ w.cell? ⟨b, 4, none⟩ = some (.int .i64 x.o.y) ∧ w.cell? ⟨b, 5, none⟩ = some (.int .i64 x.o.h) ∧ w.cell? ⟨b, 6, none⟩ = some (.bool x.o.c) ∧ w.cell? ⟨b, 7, none⟩ = some (.bool x.rd) ∧ w.cell? ⟨b, 8, none⟩ = some (.bool x.wd) :=
  ⟨h 0 _ rfl, h 1 _ rfl, h 2 _ rfl, h 3 _ rfl, h 4 _ rfl, h 5 _ rfl, h 6 _ rfl, h 7 _ rfl, h 8 _ rfl⟩
theorem clrAt_alloc (w : World) (x : Clr) : ClrAt (w.alloc (.cells #[.int .i64 x.no, .int .i64 x.fl, .int .i64 x.iss, .int .i64 x.o.d, .int .i64 x.o.y, .int .i64 x.o.h, .bool x.o.c, .bool x.rd, .bool x.wd] 31)) w.heap.size x := ClrAt.new w _ x (Below.refl _ _)
theorem ClrAt.new' (w w' : World) (x : Clr) {r d : Bool} (h : Below (w.alloc (.cells #[.int .i64 x.no, .int .i64 x.fl, .int .i64 x.iss, .int .i64 x.o.d, .int .i64 x.o.y, .int .i64 x.o.h, .bool x.o.c, .bool r, .bool d] 31)).heap.size (w.alloc (.cells #[.int .i64 x.no, .int .i64 x.fl, .int .i64 x.iss, .int .i64 x.o.d, .int .i64 x.o.y, .int .i64 x.o.h, .bool x.o.c, .bool r, .bool d] 31)) w') (hr : x.rd = r) (hd : x.wd = d) : ClrAt w' w.heap.size x := by
  subst hr hd; exact ClrAt.new w w' x h
theorem ClrAt.grown {w w' : World} {b : Nat} {x : Clr} {row : Option Nat} (h : ClrAt w b x) (hg : w.grownBy w' row) (hlt : b < w.heap.size) (hne : some b ≠ row) : ClrAt w' b x := fun j v hv => far hg b hlt hne j _ (h j v hv)
end Go.Proofs.Ytjebmcbpiobbaaa
