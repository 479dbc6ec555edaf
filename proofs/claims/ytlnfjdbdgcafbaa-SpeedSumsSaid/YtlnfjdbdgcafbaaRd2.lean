import Derived.Test.YtlnfjdbdgcafbaaA
namespace Go.Proofs.Ytlnfjdbdgcafbaa
open Go.RowKit Go.ChangeShapes Go.WideShapes Go.Deep
theorem reads68 : Reads Try.prog 68 Sp.cells (fun _ _ => True) := by
  intro H encH w base spare held fuel cs x h
  obtain ⟨xs, n, _, _, hl, hxl, hf⟩ := DataW.trod_struct Try.underlying68 h
  have hc : cs.length = 2 := hl.trans (by kernel_rfl)
  have hx : xs.length = 2 := hxl
  obtain ⟨a0, e0, _⟩ := seg (reads_int Try.underlying3) 0 1 rfl rfl (by kernel_rfl) (hf 0 _ rfl) (by omega)
  obtain ⟨a1, e1, _⟩ := seg (reads_int Try.underlying3) 1 1 rfl rfl (by kernel_rfl) (hf 1 _ rfl) (by omega)
  match cs, hc with
  | [c0, c1], _ =>
    simp at e0 e1
    exact ⟨⟨a0, a1⟩, by simp [Sp.cells, e0, e1], trivial⟩
theorem reads39 : Reads Try.prog 39 (SliceOf.enc (α := Sp)) (SliceOf.ok Sp.cells 2 (fun _ _ => True)) :=
  reads_slice Try.underlying39 reads68 (by kernel_rfl) (by decide) (fun _ => rfl)
theorem reads22 : Reads Try.prog 22 (SliceOf.enc (α := SliceOf Sp)) (SliceOf.ok SliceOf.enc 1 (SliceOf.ok Sp.cells 2 (fun _ _ => True))) :=
  reads_slice Try.underlying22 reads39 (by kernel_rfl) (by decide) (fun _ => rfl)
theorem reads24 : Reads Try.prog 24 Kd.cells (fun w k => k.ok w ∧ k.cur.l.length ≤ maxLen) := by
  intro H encH w base spare held fuel cs x h
  obtain ⟨xs, n, _, _, hl, hxl, hf⟩ := DataW.trod_struct Try.underlying24 h
  have hc : cs.length = 6 := hl.trans (by kernel_rfl)
  have hx : xs.length = 6 := hxl
  obtain ⟨a0, e0, _⟩ := seg (reads_int Try.underlying3) 0 1 rfl rfl (by kernel_rfl) (hf 0 _ rfl) (by omega)
  obtain ⟨a1, e1, _⟩ := seg (reads_int Try.underlying3) 1 1 rfl rfl (by kernel_rfl) (hf 1 _ rfl) (by omega)
  obtain ⟨a2, e2, _⟩ := seg (reads_int Try.underlying3) 2 1 rfl rfl (by kernel_rfl) (hf 2 _ rfl) (by omega)
  obtain ⟨a3, e3, _⟩ := seg (reads_int Try.underlying3) 3 1 rfl rfl (by kernel_rfl) (hf 3 _ rfl) (by omega)
  obtain ⟨a4, e4, _⟩ := seg (reads_int Try.underlying3) 4 1 rfl rfl (by kernel_rfl) (hf 4 _ rfl) (by omega)
  obtain ⟨a5, e5, q5⟩ := seg reads22 5 1 rfl rfl (by kernel_rfl) (hf 5 _ rfl) (by omega)
  match cs, hc with
  | [c0, c1, c2, c3, c4, c5], _ =>
    simp [SliceOf.enc] at e0 e1 e2 e3 e4 e5
    exact ⟨⟨a0, a1, a2, a3, a4, a5⟩, by simp [Kd.cells, e0, e1, e2, e3, e4, e5], ⟨q5.1, fun s hs => (q5.2.2.2.2 s hs).1⟩, Nat.le_trans q5.2.1 q5.2.2.1⟩
theorem reads41 : Reads Try.prog 41 Lg.cells (fun _ _ => True) := by
  intro H encH w base spare held fuel cs x h
  obtain ⟨xs, n, _, _, hl, hxl, hf⟩ := DataW.trod_struct Try.underlying41 h
  have hc : cs.length = 4 := hl.trans (by kernel_rfl)
  have hx : xs.length = 4 := hxl
  obtain ⟨a0, e0, _⟩ := seg (reads_int Try.underlying3) 0 1 rfl rfl (by kernel_rfl) (hf 0 _ rfl) (by omega)
  obtain ⟨a1, e1, _⟩ := seg (reads_int Try.underlying3) 1 1 rfl rfl (by kernel_rfl) (hf 1 _ rfl) (by omega)
  obtain ⟨a2, e2, _⟩ := seg (reads_int Try.underlying3) 2 1 rfl rfl (by kernel_rfl) (hf 2 _ rfl) (by omega)
  obtain ⟨a3, e3, _⟩ := seg reads39 3 1 rfl rfl (by kernel_rfl) (hf 3 _ rfl) (by omega)
  match cs, hc with
  | [c0, c1, c2, c3], _ =>
    simp [SliceOf.enc] at e0 e1 e2 e3
    exact ⟨⟨a0, a1, a2, a3⟩, by simp [Lg.cells, e0, e1, e2, e3], trivial⟩
theorem reads34 : Reads Try.prog 34 (SliceOf.enc (α := Lg)) (SliceOf.ok Lg.cells 4 (fun _ _ => True)) :=
  reads_slice Try.underlying34 reads41 (by kernel_rfl) (by decide) (fun _ => rfl)
end Go.Proofs.Ytlnfjdbdgcafbaa
