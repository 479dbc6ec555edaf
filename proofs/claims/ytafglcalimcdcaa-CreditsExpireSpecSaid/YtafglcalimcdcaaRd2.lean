/- How credits that came in read. -/
import Derived.Test.YtafglcalimcdcaaA
import Derived.Test.YtafglcalimcdcaaRd
set_option linter.unusedSimpArgs false
set_option linter.unusedVariables false
namespace Go.Proofs.Ytafglcalimcdcaa
open Go.RowKit Go.ChangeShapes Go.WideShapes Go.Deep
theorem reads24 : Reads Try.prog 24 Cr.cells (fun _ _ => True) := by
  intro H encH w base spare held fuel cs x h
  obtain ⟨xs, n, _, _, hl, hxl, hf⟩ := DataW.trod_struct Try.underlying24 h
  have hc : cs.length = 3 := hl.trans (by kernel_rfl)
  have hx : xs.length = 3 := hxl
  obtain ⟨a0, e0, _⟩ := seg (reads_int Try.underlying3) 0 1 rfl rfl (by kernel_rfl) (hf 0 _ rfl) (by omega)
  obtain ⟨a1, e1, _⟩ := seg (reads_int Try.underlying3) 1 1 rfl rfl (by kernel_rfl) (hf 1 _ rfl) (by omega)
  obtain ⟨a2, e2, _⟩ := seg (reads_int Try.underlying3) 2 1 rfl rfl (by kernel_rfl) (hf 2 _ rfl) (by omega)
  match cs, hc with
  | [c0, c1, c2], _ =>
    simp at e0 e1 e2
    exact ⟨⟨a0, a1, a2⟩, by simp [Cr.cells, e0, e1, e2], trivial⟩
theorem reads22 : Reads Try.prog 22 (SliceOf.enc (α := Cr)) (SliceOf.ok Cr.cells 3 (fun _ _ => True)) :=
  reads_slice Try.underlying22 reads24 (by kernel_rfl) (by decide) (fun _ => rfl)
end Go.Proofs.Ytafglcalimcdcaa
