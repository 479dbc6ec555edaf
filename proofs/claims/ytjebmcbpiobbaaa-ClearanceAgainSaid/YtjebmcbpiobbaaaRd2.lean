import Derived.Test.YtjebmcbpiobbaaaRd
import Derived.Test.YtjebmcbpiobbaaaC
namespace Go.Proofs.Ytjebmcbpiobbaaa
open Go.RowKit Go.ChangeShapes Go.WideShapes Go.Deep

def Opt.cells (o : Opt) : List Value := [.int .i64 o.d, .int .i64 o.y, .int .i64 o.h, .bool o.c]
theorem fs24 : Try.prog.underlying 24 = some (.struct (Try.prog.fieldsOf 24)) := by rw [fields24, Try.underlying24]
theorem fs31 : Try.prog.underlying 31 = some (.struct (Try.prog.fieldsOf 31)) := by rw [fields31, Try.underlying31]

theorem reads24 : Reads Try.prog 24 Opt.cells (fun _ _ => True) := by
  intro H encH w base spare held fuel cs x h
  obtain ⟨xs, n, _, _, hl, hxl, hf⟩ := DataW.trod_struct Try.underlying24 h
  have hc : cs.length = 4 := hl.trans (by kernel_rfl)
  have hx : xs.length = 4 := hxl
  obtain ⟨a0, e0, _⟩ := seg (reads_int Try.underlying3) 0 1 rfl rfl (by kernel_rfl) (hf 0 _ rfl) (by omega)
  obtain ⟨a1, e1, _⟩ := seg (reads_int Try.underlying3) 1 1 rfl rfl (by kernel_rfl) (hf 1 _ rfl) (by omega)
  obtain ⟨a2, e2, _⟩ := seg (reads_int Try.underlying3) 2 1 rfl rfl (by kernel_rfl) (hf 2 _ rfl) (by omega)
  obtain ⟨a3, e3, _⟩ := seg (reads_bool Try.underlying4) 3 1 rfl rfl (by kernel_rfl) (hf 3 _ rfl) (by omega)
  match cs, hc with
  | [c0, c1, c2, c3], _ =>
    simp at e0 e1 e2 e3
    exact ⟨⟨a0, a1, a2, a3⟩, by simp [Opt.cells, e0, e1, e2, e3], trivial⟩
theorem reads31 : Reads Try.prog 31 Clr.cells (fun _ _ => True) := by
  intro H encH w base spare held fuel cs x h
  obtain ⟨xs, n, _, _, hl, hxl, hf⟩ := DataW.trod_struct Try.underlying31 h
  have hc : cs.length = 9 := hl.trans (by kernel_rfl)
  have hx : xs.length = 6 := hxl
  obtain ⟨a0, e0, _⟩ := seg (reads_int Try.underlying3) 0 1 rfl rfl (by kernel_rfl) (hf 0 _ rfl) (by omega)
  obtain ⟨a1, e1, _⟩ := seg (reads_int Try.underlying3) 1 1 rfl rfl (by kernel_rfl) (hf 1 _ rfl) (by omega)
  obtain ⟨a2, e2, _⟩ := seg (reads_int Try.underlying3) 2 1 rfl rfl (by kernel_rfl) (hf 2 _ rfl) (by omega)
  obtain ⟨a3, e3, _⟩ := seg (reads24) 3 4 rfl rfl (by kernel_rfl) (hf 3 _ rfl) (by omega)
  obtain ⟨a4, e4, _⟩ := seg (reads_bool Try.underlying4) 7 1 rfl rfl (by kernel_rfl) (hf 4 _ rfl) (by omega)
  obtain ⟨a5, e5, _⟩ := seg (reads_bool Try.underlying4) 8 1 rfl rfl (by kernel_rfl) (hf 5 _ rfl) (by omega)
  match cs, hc with
  | [c0, c1, c2, c3, c4, c5, c6, c7, c8], _ =>
    simp [Opt.cells] at e0 e1 e2 e3 e4 e5
    exact ⟨⟨a0, a1, a2, a3, a4, a5⟩, by simp [Clr.cells, e0, e1, e2, e3, e4, e5], trivial⟩
theorem reads22 : Reads Try.prog 22 SliceOf.enc (SliceOf.ok Clr.cells 9 (fun _ _ => True)) :=
  reads_slice Try.underlying22 reads31 (by kernel_rfl) (by decide) (fun _ => rfl)
end Go.Proofs.Ytjebmcbpiobbaaa
