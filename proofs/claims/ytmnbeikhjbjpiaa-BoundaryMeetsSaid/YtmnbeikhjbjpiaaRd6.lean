/- How steps of a script that came in read. -/
import Derived.Test.YtmnbeikhjbjpiaaRd2
import Derived.Test.YtmnbeikhjbjpiaaT3
set_option linter.unusedSimpArgs false
set_option linter.unusedVariables false
namespace Go.Proofs.Ytmnbeikhjbjpiaa
open Go.RowKit Go.ChangeShapes Go.WideShapes Go.Deep
theorem reads50 : Reads Try.prog 50 Sp.cells (fun _ s => s.ok) := by
  intro H encH w base spare held fuel cs x h
  obtain ⟨xs, n, _, _, hl, hxl, hf⟩ := DataW.trod_struct Try.underlying50 h
  have hc : cs.length = 6 := hl.trans (by kernel_rfl)
  have hx : xs.length = 6 := hxl
  obtain ⟨a0, e0, q0⟩ := seg (reads_int Try.underlying5) 0 1 rfl rfl (by kernel_rfl) (hf 0 _ rfl) (by omega)
  obtain ⟨a1, e1, q1⟩ := seg (reads_int Try.underlying5) 1 1 rfl rfl (by kernel_rfl) (hf 1 _ rfl) (by omega)
  obtain ⟨a2, e2, q2⟩ := seg (reads_int Try.underlying5) 2 1 rfl rfl (by kernel_rfl) (hf 2 _ rfl) (by omega)
  obtain ⟨a3, e3, _⟩ := seg (reads_bool Try.underlying4) 3 1 rfl rfl (by kernel_rfl) (hf 3 _ rfl) (by omega)
  obtain ⟨a4, e4, _⟩ := seg (reads_int Try.underlying3) 4 1 rfl rfl (by kernel_rfl) (hf 4 _ rfl) (by omega)
  obtain ⟨a5, e5, _⟩ := seg (reads_int Try.underlying3) 5 1 rfl rfl (by kernel_rfl) (hf 5 _ rfl) (by omega)
  match cs, hc with
  | [c0, c1, c2, c3, c4, c5], _ =>
    simp at e0 e1 e2 e3 e4 e5
    exact ⟨⟨a0, a1, a2, a3, a4, a5⟩, by simp [Sp.cells, e0, e1, e2, e3, e4, e5], q0, q1, q2⟩
theorem reads43 : Reads Try.prog 43 (SliceOf.enc (α := Sp)) (SliceOf.ok Sp.cells 6 (fun _ s => s.ok)) :=
  reads_slice Try.underlying43 reads50 (by kernel_rfl) (by decide) (fun _ => rfl)
end Go.Proofs.Ytmnbeikhjbjpiaa
