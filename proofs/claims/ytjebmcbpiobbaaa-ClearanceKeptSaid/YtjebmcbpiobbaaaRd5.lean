import Derived.Test.YtjebmcbpiobbaaaRd2
import Derived.Test.YtjebmcbpiobbaaaQh
namespace Go.Proofs.Ytjebmcbpiobbaaa
open Go.RowKit Go.ChangeShapes Go.WideShapes Go.Deep
theorem reads41 : Reads Try.prog 41 Mv.cells (fun _ v => v.wf) := by
  intro H encH w base spare held fuel cs x h
  obtain ⟨xs, n, _, _, hl, hxl, hf⟩ := DataW.trod_struct Try.underlying41 h
  have hc : cs.length = 8 := hl.trans (by kernel_rfl)
  have hx : xs.length = 5 := hxl
  obtain ⟨a0, e0, q0⟩ := seg (reads_int Try.underlying5) 0 1 rfl rfl (by kernel_rfl) (hf 0 _ rfl) (by omega)
  obtain ⟨a1, e1, q1⟩ := seg (reads_int Try.underlying5) 1 1 rfl rfl (by kernel_rfl) (hf 1 _ rfl) (by omega)
  obtain ⟨a2, e2, q2⟩ := seg (reads_int Try.underlying5) 2 1 rfl rfl (by kernel_rfl) (hf 2 _ rfl) (by omega)
  obtain ⟨a3, e3, _⟩ := seg (reads24) 3 4 rfl rfl (by kernel_rfl) (hf 3 _ rfl) (by omega)
  obtain ⟨a4, e4, _⟩ := seg (reads_int Try.underlying3) 7 1 rfl rfl (by kernel_rfl) (hf 4 _ rfl) (by omega)
  have b0 := bounds_u8 q0
  have b1 := bounds_u8 q1
  have b2 := bounds_u8 q2
  match cs, hc with
  | [c0, c1, c2, c3, c4, c5, c6, c7], _ =>
    simp [Opt.cells] at e0 e1 e2 e3 e4
    exact ⟨⟨a0, a1, a2, a3, a4⟩, by simp [Mv.cells, e0, e1, e2, e3, e4], b0.1, b0.2, b1.1, b1.2, b2.1, b2.2⟩
theorem reads39 : Reads Try.prog 39 SliceOf.enc (SliceOf.ok Mv.cells 8 (fun _ v => v.wf)) :=
  reads_slice Try.underlying39 reads41 (by kernel_rfl) (by decide) (fun _ => rfl)
end Go.Proofs.Ytjebmcbpiobbaaa
