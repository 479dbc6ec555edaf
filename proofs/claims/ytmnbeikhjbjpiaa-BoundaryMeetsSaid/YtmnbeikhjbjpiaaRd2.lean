/- How boundaries and agreements that came in read. -/
import Derived.Test.YtmnbeikhjbjpiaaL0
set_option linter.unusedSimpArgs false
set_option linter.unusedVariables false
namespace Go.Proofs.Ytmnbeikhjbjpiaa
open Go.RowKit Go.ChangeShapes Go.WideShapes Go.Deep
theorem reads26 : Reads Try.prog 26 Ag.cells (fun _ _ => True) := by
  intro H encH w base spare held fuel cs x h
  obtain ⟨xs, n, _, _, hl, hxl, hf⟩ := DataW.trod_struct Try.underlying26 h
  have hc : cs.length = 5 := hl.trans (by kernel_rfl)
  have hx : xs.length = 5 := hxl
  obtain ⟨a0, e0, _⟩ := seg (reads_int Try.underlying3) 0 1 rfl rfl (by kernel_rfl) (hf 0 _ rfl) (by omega)
  obtain ⟨a1, e1, _⟩ := seg (reads_int Try.underlying3) 1 1 rfl rfl (by kernel_rfl) (hf 1 _ rfl) (by omega)
  obtain ⟨a2, e2, _⟩ := seg (reads_int Try.underlying3) 2 1 rfl rfl (by kernel_rfl) (hf 2 _ rfl) (by omega)
  obtain ⟨a3, e3, _⟩ := seg (reads_int Try.underlying3) 3 1 rfl rfl (by kernel_rfl) (hf 3 _ rfl) (by omega)
  obtain ⟨a4, e4, _⟩ := seg (reads_int Try.underlying3) 4 1 rfl rfl (by kernel_rfl) (hf 4 _ rfl) (by omega)
  match cs, hc with
  | [c0, c1, c2, c3, c4], _ =>
    simp at e0 e1 e2 e3 e4
    exact ⟨⟨a0, a1, a2, a3, a4⟩, by simp [Ag.cells, e0, e1, e2, e3, e4], trivial⟩
theorem reads22 : Reads Try.prog 22 (SliceOf.enc (α := Ag)) (SliceOf.ok Ag.cells 5 (fun _ _ => True)) :=
  reads_slice Try.underlying22 reads26 (by kernel_rfl) (by decide) (fun _ => rfl)
theorem reads24 : Reads Try.prog 24 Bd.cells BOk := by
  intro H encH w base spare held fuel cs x h
  obtain ⟨xs, n, _, _, hl, hxl, hf⟩ := DataW.trod_struct Try.underlying24 h
  have hc : cs.length = 4 := hl.trans (by kernel_rfl)
  have hx : xs.length = 4 := hxl
  obtain ⟨a0, e0, _⟩ := seg (reads_int Try.underlying3) 0 1 rfl rfl (by kernel_rfl) (hf 0 _ rfl) (by omega)
  obtain ⟨a1, e1, _⟩ := seg (reads_int Try.underlying3) 1 1 rfl rfl (by kernel_rfl) (hf 1 _ rfl) (by omega)
  obtain ⟨a2, e2, q2⟩ := seg reads22 2 1 rfl rfl (by kernel_rfl) (hf 2 _ rfl) (by omega)
  obtain ⟨a3, e3, q3⟩ := seg reads22 3 1 rfl rfl (by kernel_rfl) (hf 3 _ rfl) (by omega)
  match cs, hc with
  | [c0, c1, c2, c3], _ =>
    simp [SliceOf.enc] at e0 e1 e2 e3
    exact ⟨⟨a0, a1, a2, a3⟩, by simp [Bd.cells, e0, e1, e2, e3], q2.1, q3.1, q2.2.1, q2.2.2.1, q3.2.1, q3.2.2.1⟩
end Go.Proofs.Ytmnbeikhjbjpiaa
