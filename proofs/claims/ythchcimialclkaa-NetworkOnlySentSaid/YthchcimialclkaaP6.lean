/- NetworkOnlySent: words for the loop's round. -/
import Derived.Test.YthchcimialclkaaQ4
import Derived.Test.YthchcimialclkaaN
set_option linter.unusedSimpArgs false
set_option linter.unusedVariables false
namespace Go.Proofs.Ythchcimialclkaa
open Go.RowKit
/-- A drawn region, what it leaves told once for all orders. -/
theorem rg_via {P : Program} {ops : Array Oper} {Q : Exit → Act → World → Prop} {S : World → Prop} {id : Nat} {a : Act} {w : World} (PF : Act → Act → World → Prop) (k : Nat) (hm : P.follows .mixedOrders = true) (hQ : Calm Q) (hS : S w.drew)
    (hP : ∀ a' w', PF a a' w' → Q .normal a' w')
    (h : ∀ Q' : Exit → Act → World → Prop, Calm Q' → (∀ a' w', PF a a' w' → Q' .normal a' w') → S w.drew → WT P .any ops Q' k S ops.size (Array.replicate ops.size false) a w.drew) : (Code.region id ops true).wp P Q a w :=
  wp_region_any hm (WT.any _ _ _ _ (h Q hQ hP hS))
/-- A net that lies off block B and off the row v. -/
structure Ys (wr : World) (B : Nat) (y : Nt) (v : Value) : Prop where
  ok : NOk wr y
  off : y.off B
  sep : ∀ b, v.ownBlock = some b → y.off b
/-- The packets that were sent: a row of the call's own, their data off block B and off the row. -/
structure Sn (wr : World) (B : Nat) (R : List Pk) (v : Value) : Prop where
  own : Own wr (B + 1) 28 Pk.cells 3 v R
  d : ∀ p ∈ R, PkOk wr p ∧ p.off B ∧ ∀ b, v.ownBlock = some b → p.off b
theorem PkOk.ext {w w' : World} {p : Pk} (h : PkOk w p) (hb : Below w.heap.size w w') : PkOk w' p := ⟨h.1.ext hb, h.2⟩
theorem PkOk.far {w : World} {p : Pk} (h : PkOk w p) {a : Addr} (v : Value) (ho : p.off a.block) : PkOk (w.setCell a v) p := ⟨h.1.far ho, h.2⟩
theorem PkOk.off {w : World} {p : Pk} (h : PkOk w p) {b : Nat} (hb : w.heap.size ≤ b) : p.off b := h.1.rowOff hb
theorem Ys.ext {w w' : World} {B : Nat} {y : Nt} {v : Value} (h : Ys w B y v) (hb : Below w.heap.size w w') : Ys w' B y v := ⟨h.ok.ext hb, h.off, h.sep⟩
theorem Sn.ext {w w' : World} {B : Nat} {R : List Pk} {v : Value} (h : Sn w B R v) (hb : Below w.heap.size w w') : Sn w' B R v := ⟨h.own.ext hb, fun p hp => ⟨(h.d p hp).1.ext hb, (h.d p hp).2⟩⟩
theorem Ys.put {w : World} {B : Nat} {y : Nt} {v : Value} (h : Ys w B y v) (u x : Value) : Ys (set2 w B u x) B y v :=
  ⟨(h.ok.set (p := ⟨B, 0, none⟩) u h.off).set (p := ⟨B, 1, none⟩) x h.off, h.off, h.sep⟩
theorem Sn.put {w : World} {B : Nat} {R : List Pk} {v : Value} (h : Sn w B R v) (u x : Value) : Sn (set2 w B u x) B R v :=
  ⟨h.own.block (fun k e => by
      have := (h.own.lt k e).2
      exact (Below.heap_setCell _ ⟨B, 1, none⟩ _ k (by simp; omega)).trans (Below.heap_setCell _ ⟨B, 0, none⟩ _ k (by simp; omega))),
    fun p hp => ⟨((h.d p hp).1.far (a := ⟨B, 0, none⟩) u (h.d p hp).2.1).far (a := ⟨B, 1, none⟩) x (h.d p hp).2.1, (h.d p hp).2⟩⟩
theorem PkOk.grown {w w' : World} {p : Pk} {row : Option Nat} (h : PkOk w p) (hg : w.grownBy w' row) (ho : ∀ b, row = some b → p.off b) : PkOk w' p := ⟨h.1.grownOff hg ho, h.2⟩
/-- What append leaves of both. -/
theorem sn_app {w w' : World} {B : Nat} {R : List Pk} {v v' : Value} {y : Nt} {P : Pk} (hS : Sn w B R v) (hY : Ys w B y v) (hP : P ∈ y.q.l) (hO : Own w' (B + 1) 28 Pk.cells 3 v' (R ++ [P])) (hg : w.grownBy w' v.ownBlock) (hat : v'.ownBlock = v.ownBlock ∨ v'.ownBlock = some w.heap.size) :
    Sn w' B (R ++ [P]) v' ∧ Ys w' B y v' := by
  have hPk : PkOk w P := ⟨hY.ok.d P hP, hY.ok.dl P hP⟩
  have key : ∀ p, p ∈ R ++ [P] → PkOk w p ∧ p.off B ∧ ∀ b, v.ownBlock = some b → p.off b := fun p hp => by
    rcases List.mem_append.1 hp with h | h
    · exact hS.d p h
    · rw [List.mem_singleton.1 h]
      exact ⟨hPk, hY.off.2.2 P hP, fun b e => (hY.sep b e).2.2 P hP⟩
  refine ⟨⟨hO, fun p hp => ?_⟩, hY.ok.grown hg hY.sep, hY.off, fun b e => ?_⟩
  · obtain ⟨h1, h2, h3⟩ := key p hp
    refine ⟨h1.grown hg h3, h2, fun b e => ?_⟩
    rcases hat with h | h
    · exact h3 b (by rw [← h]; exact e)
    · rw [h] at e; cases e; exact h1.off (Nat.le_refl _)
  · rcases hat with h | h
    · exact hY.sep b (by rw [← h]; exact e)
    · rw [h] at e; cases e; exact hY.ok.off (Nat.le_refl _)
/-- The round's state. -/
structure Rs (wr : World) (B : Nat) (R : List Pk) (m : Nt) (v : Value) (cuts : Nat) : Prop where
  blk : Blk wr B [.slice m.q.A m.q.l.length m.q.c, .slice m.ap.A m.ap.l.length m.ap.c]
  ys : Ys wr B m v
  sn : Sn wr B R v
  chk : chkE m = 0
  mem : ∀ p ∈ m.q.l, p ∈ R
  cut : m.ap.l ≠ [] → 0 < cuts
/-- Whether one of the first j packets is alike. -/
def metL (b : Bool) (R : List Pk) (p : Pk) (j : Nat) : Bool := b || (R.take j).any fun x => sameP x p
theorem metL_zero (b : Bool) (R : List Pk) (p : Pk) : metL b R p 0 = b := by simp [metL]
theorem metL_step {b : Bool} {R : List Pk} {p : Pk} {j : Nat} {x : Pk} (hx : R[j]? = some x) : metL b R p (j + 1) = (metL b R p j || sameP x p) := by
  unfold metL
  rw [List.take_add_one, hx]
  simp [Bool.or_assoc]
theorem metL_end {b : Bool} {R : List Pk} {p : Pk} {j : Nat} (hj : R.length ≤ j) (h : b = true ∨ p ∈ R) : metL b R p j = true := by
  unfold metL
  rcases h with h | h
  · rw [h]; rfl
  · rw [List.take_of_length_le hj, Bool.or_eq_true]
    exact .inr (List.any_eq_true.2 ⟨p, h, sameP_self p⟩)
theorem sameP_zero : sameP zeroP zeroP = true := sameP_self _
/-- What the round's first region leaves: the links and the packet in blocks of their own. -/
structure Got (wr W : World) (H7 H8 : Nat) (m y : Nt) (p : Pk) : Prop where
  b : Below wr.heap.size wr W
  g7 : wr.heap.size ≤ H7
  g8 : wr.heap.size ≤ H8
  ne : H7 ≠ H8
  x7 : Blk W H7 [.slice none 0 0, .slice none 0 0]
  x8 : Blk W H8 [.int .i64 0, .int .i64 0, .slice none 0 0]
  oy : NOk W y
  op : PkOk W p
  y7 : y.off H7
  y8 : y.off H8
  p7 : p.off H7
  p8 : p.off H8
  off : ∀ b, b < wr.heap.size → m.off b → y.off b ∧ p.off b
/-- The same with the links and the packet stored. -/
structure Laid (wr W : World) (H7 H8 : Nat) (m y : Nt) (p : Pk) : Prop where
  b : Below wr.heap.size wr W
  g7 : wr.heap.size ≤ H7
  g8 : wr.heap.size ≤ H8
  x7 : Blk W H7 [.slice y.q.A y.q.l.length y.q.c, .slice y.ap.A y.ap.l.length y.ap.c]
  x8 : Blk W H8 [.int .i64 p.f, .int .i64 p.t, .slice p.d.A p.d.l.length p.d.c]
  oy : NOk W y
  op : PkOk W p
  off : ∀ b, b < wr.heap.size → m.off b → y.off b ∧ p.off b
theorem Got.laid {wr W : World} {H7 H8 : Nat} {m y : Nt} {p : Pk} (h : Got wr W H7 H8 m y p) : Laid wr (set3 (set2 W H7 (.slice y.q.A y.q.l.length y.q.c) (.slice y.ap.A y.ap.l.length y.ap.c)) H8 (.int .i64 p.f) (.int .i64 p.t) (.slice p.d.A p.d.l.length p.d.c)) H7 H8 m y p := by
  refine ⟨ext_set3 (ext_set2 h.b H7 _ _ h.g7) H8 _ _ _ h.g8, h.g7, h.g8, (h.x7.put2 _ _).off3 _ _ _ (Ne.symm h.ne), (h.x8.off2 _ _ h.ne).put3 _ _ _, ?_, ?_, h.off⟩
  · exact ((((h.oy.set (p := ⟨H7, 0, none⟩) _ h.y7).set (p := ⟨H7, 1, none⟩) _ h.y7).set (p := ⟨H8, 0, none⟩) _ h.y8).set (p := ⟨H8, 1, none⟩) _ h.y8).set (p := ⟨H8, 2, none⟩) _ h.y8
  · exact ((((h.op.far (a := ⟨H7, 0, none⟩) _ h.p7).far (a := ⟨H7, 1, none⟩) _ h.p7).far (a := ⟨H8, 0, none⟩) _ h.p8).far (a := ⟨H8, 1, none⟩) _ h.p8).far (a := ⟨H8, 2, none⟩) _ h.p8
end Go.Proofs.Ythchcimialclkaa
