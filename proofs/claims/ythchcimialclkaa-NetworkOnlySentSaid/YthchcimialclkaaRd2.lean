/- How links and packets that came in read. -/
import Derived.Test.YthchcimialclkaaD
set_option linter.unusedSimpArgs false
set_option linter.unusedVariables false
namespace Go.Proofs.Ythchcimialclkaa
open Go.RowKit Go.ChangeShapes Go.WideShapes Go.Deep
theorem reads53 : Reads Try.prog 53 Lk.cells (fun _ _ => True) := by
  intro H encH w base spare held fuel cs x h
  obtain ⟨xs, n, _, _, hl, hx, hf⟩ := DataW.trod_array Try.underlying53 h
  have hc : cs.length = 2 := hl.trans (by kernel_rfl)
  have hs : Try.prog.cellsOf 3 = 1 := by kernel_rfl
  have e0 := hf 0 (by omega)
  have e1 := hf 1 (by omega)
  rw [List.getElem?_eq_getElem (by omega), hs] at e0 e1
  obtain ⟨a0, e0, _⟩ := reads_int Try.underlying3 _ _ _ _ _ _ _ _ _ e0
  obtain ⟨a1, e1, _⟩ := reads_int Try.underlying3 _ _ _ _ _ _ _ _ _ e1
  match cs, hc with
  | [c0, c1], _ =>
    simp at e0 e1
    exact ⟨⟨a0, a1⟩, by simp [Lk.cells, e0, e1], trivial⟩
theorem reads23 : Reads Try.prog 23 (SliceOf.enc (α := Lk)) (SliceOf.ok Lk.cells 2 (fun _ _ => True)) :=
  reads_slice Try.underlying23 reads53 (by kernel_rfl) (by decide) (fun _ => rfl)
theorem reads5 : Reads Try.prog 5 bc (fun _ n => (Lit.int .u8 n).wf = true) := reads_int Try.underlying5
theorem reads26 : Reads Try.prog 26 (SliceOf.enc (α := Int)) (SliceOf.ok bc 1 (fun _ n => (Lit.int .u8 n).wf = true)) :=
  reads_slice Try.underlying26 reads5 (by kernel_rfl) (by decide) (fun _ => rfl)
def PkOk (w : World) (p : Pk) : Prop := Slc w bc 1 p.d.A p.d.l ∧ p.d.l.length ≤ maxLen
theorem reads28 : Reads Try.prog 28 Pk.cells PkOk := by
  intro H encH w base spare held fuel cs x h
  obtain ⟨xs, n, _, _, hl, hxl, hf⟩ := DataW.trod_struct Try.underlying28 h
  have hc : cs.length = 3 := hl.trans (by kernel_rfl)
  have hx : xs.length = 3 := hxl
  obtain ⟨a0, e0, _⟩ := seg (reads_int Try.underlying3) 0 1 rfl rfl (by kernel_rfl) (hf 0 _ rfl) (by omega)
  obtain ⟨a1, e1, _⟩ := seg (reads_int Try.underlying3) 1 1 rfl rfl (by kernel_rfl) (hf 1 _ rfl) (by omega)
  obtain ⟨a2, e2, q2⟩ := seg reads26 2 1 rfl rfl (by kernel_rfl) (hf 2 _ rfl) (by omega)
  match cs, hc with
  | [c0, c1, c2], _ =>
    simp [SliceOf.enc] at e0 e1 e2
    exact ⟨⟨a0, a1, a2⟩, by simp [Pk.cells, e0, e1, e2], q2.1, Nat.le_trans q2.2.1 q2.2.2.1⟩
theorem reads22 : Reads Try.prog 22 (SliceOf.enc (α := Pk)) (SliceOf.ok Pk.cells 3 PkOk) :=
  reads_slice Try.underlying22 reads28 (by kernel_rfl) (by decide) (fun _ => rfl)
theorem reads25 : Reads Try.prog 25 Nt.cells NOk := by
  intro H encH w base spare held fuel cs x h
  obtain ⟨xs, n, _, _, hl, hxl, hf⟩ := DataW.trod_struct Try.underlying25 h
  have hc : cs.length = 2 := hl.trans (by kernel_rfl)
  have hx : xs.length = 2 := hxl
  obtain ⟨a0, e0, q0⟩ := seg reads22 0 1 rfl rfl (by kernel_rfl) (hf 0 _ rfl) (by omega)
  obtain ⟨a1, e1, q1⟩ := seg reads23 1 1 rfl rfl (by kernel_rfl) (hf 1 _ rfl) (by omega)
  match cs, hc with
  | [c0, c1], _ =>
    simp [SliceOf.enc] at e0 e1
    exact ⟨⟨a0, a1⟩, by simp [Nt.cells, e0, e1], q0.1, q1.1, fun p hp => (q0.2.2.2.2 p hp).1, Nat.le_trans q0.2.1 q0.2.2.1, Nat.le_trans q1.2.1 q1.2.2.1, fun p hp => (q0.2.2.2.2 p hp).2, q0.2.1, q0.2.2.1⟩
/-- Something that happens. -/
structure Mv where
  k : Int
  at_ : Int
  a : Int
  b : Int
  d : Int
def Mv.cells (m : Mv) : List Value := [.int .u8 m.k, .int .u8 m.at_, .int .u8 m.a, .int .u8 m.b, .int .u8 m.d]
def u8 (n : Int) : Prop := (Lit.int .u8 n).wf = true
def Mv.ok (m : Mv) : Prop := u8 m.k ∧ u8 m.at_ ∧ u8 m.a ∧ u8 m.b ∧ u8 m.d
theorem reads49 : Reads Try.prog 49 Mv.cells (fun _ m => m.ok) := by
  intro H encH w base spare held fuel cs x h
  obtain ⟨xs, n, _, _, hl, hxl, hf⟩ := DataW.trod_struct Try.underlying49 h
  have hc : cs.length = 5 := hl.trans (by kernel_rfl)
  have hx : xs.length = 5 := hxl
  obtain ⟨a0, e0, q0⟩ := seg reads5 0 1 rfl rfl (by kernel_rfl) (hf 0 _ rfl) (by omega)
  obtain ⟨a1, e1, q1⟩ := seg reads5 1 1 rfl rfl (by kernel_rfl) (hf 1 _ rfl) (by omega)
  obtain ⟨a2, e2, q2⟩ := seg reads5 2 1 rfl rfl (by kernel_rfl) (hf 2 _ rfl) (by omega)
  obtain ⟨a3, e3, q3⟩ := seg reads5 3 1 rfl rfl (by kernel_rfl) (hf 3 _ rfl) (by omega)
  obtain ⟨a4, e4, q4⟩ := seg reads5 4 1 rfl rfl (by kernel_rfl) (hf 4 _ rfl) (by omega)
  match cs, hc with
  | [c0, c1, c2, c3, c4], _ =>
    simp [bc] at e0 e1 e2 e3 e4
    exact ⟨⟨a0, a1, a2, a3, a4⟩, by simp [Mv.cells, e0, e1, e2, e3, e4], q0, q1, q2, q3, q4⟩
theorem reads45 : Reads Try.prog 45 (SliceOf.enc (α := Mv)) (SliceOf.ok Mv.cells 5 (fun _ m => m.ok)) :=
  reads_slice Try.underlying45 reads49 (by kernel_rfl) (by decide) (fun _ => rfl)
end Go.Proofs.Ythchcimialclkaa
