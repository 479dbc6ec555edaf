/- How the arguments of the laws of forecast read. -/
import Derived.Test.YtemdebheinbolaaC
namespace Go.Proofs.Ytemdebheinbolaa
open Go.RowKit Go.ChangeShapes Go.WideShapes Go.Deep
theorem reads45 : Reads Try.prog 45 (fun s : Int × Int => [.int .i64 s.1, .int .i64 s.2]) (fun _ _ => True) := by
  intro H encH w base spare held fuel cs x h
  obtain ⟨xs, n, _, _, hl, hxl, hf⟩ := DataW.trod_struct Try.underlying45 h
  have hc : cs.length = 2 := hl.trans (by kernel_rfl)
  have hx : xs.length = 2 := hxl
  obtain ⟨a0, e0, _⟩ := seg (reads_int Try.underlying3) 0 1 rfl rfl (by kernel_rfl) (hf 0 _ rfl) (by omega)
  obtain ⟨a1, e1, _⟩ := seg (reads_int Try.underlying3) 1 1 rfl rfl (by kernel_rfl) (hf 1 _ rfl) (by omega)
  match cs, hc with
  | [c0, c1], _ =>
    simp at e0 e1
    exact ⟨(a0, a1), by simp [e0, e1], trivial⟩
theorem reads47 : Reads Try.prog 47 Cut.cells (fun _ _ => True) := by
  intro H encH w base spare held fuel cs x h
  obtain ⟨xs, n, _, _, hl, hxl, hf⟩ := DataW.trod_struct Try.underlying47 h
  have hc : cs.length = 5 := hl.trans (by kernel_rfl)
  have hx : xs.length = 4 := hxl
  obtain ⟨a0, e0, _⟩ := seg (reads_bool Try.underlying4) 0 1 rfl rfl (by kernel_rfl) (hf 0 _ rfl) (by omega)
  obtain ⟨a1, e1, _⟩ := seg (reads_int Try.underlying3) 1 1 rfl rfl (by kernel_rfl) (hf 1 _ rfl) (by omega)
  obtain ⟨a2, e2, _⟩ := seg reads45 2 2 rfl rfl (by kernel_rfl) (hf 2 _ rfl) (by omega)
  obtain ⟨a3, e3, _⟩ := seg (reads_int Try.underlying3) 4 1 rfl rfl (by kernel_rfl) (hf 3 _ rfl) (by omega)
  match cs, hc with
  | [c0, c1, c2, c3, c4], _ =>
    simp at e0 e1 e2 e3
    exact ⟨⟨a0, a1, a2.1, a2.2, a3⟩, by simp [Cut.cells, e0, e1, e2, e3], trivial⟩
theorem reads38 : Reads Try.prog 38 (SliceOf.enc (α := Cut)) (SliceOf.ok Cut.cells 5 (fun _ _ => True)) :=
  reads_slice Try.underlying38 reads47 (by kernel_rfl) (by decide) (fun _ => rfl)
theorem reads40 : Reads Try.prog 40 Nd.cells (fun W n => SliceOf.ok Cut.cells 5 (fun _ _ => True) W n.cuts) := by
  intro H encH w base spare held fuel cs x h
  obtain ⟨xs, n, _, _, hl, hxl, hf⟩ := DataW.trod_struct Try.underlying40 h
  have hc : cs.length = 3 := hl.trans (by kernel_rfl)
  have hx : xs.length = 3 := hxl
  obtain ⟨a0, e0, _⟩ := seg (reads_int Try.underlying3) 0 1 rfl rfl (by kernel_rfl) (hf 0 _ rfl) (by omega)
  obtain ⟨a1, e1, _⟩ := seg (reads_int Try.underlying3) 1 1 rfl rfl (by kernel_rfl) (hf 1 _ rfl) (by omega)
  obtain ⟨a2, e2, q2⟩ := seg reads38 2 1 rfl rfl (by kernel_rfl) (hf 2 _ rfl) (by omega)
  match cs, hc with
  | [c0, c1, c2], _ =>
    simp [SliceOf.enc] at e0 e1 e2
    exact ⟨⟨a0, a1, a2⟩, by simp [Nd.cells, e0, e1, e2], q2⟩
abbrev OkT (W : World) (s : SliceOf Nd) : Prop := SliceOf.ok Nd.cells 3 (fun W n => SliceOf.ok Cut.cells 5 (fun _ _ => True) W n.cuts) W s
theorem reads22 : Reads Try.prog 22 (SliceOf.enc (α := Nd)) OkT :=
  reads_slice Try.underlying22 reads40 (by kernel_rfl) (by decide) (fun _ => rfl)
abbrev OkI (W : World) (s : SliceOf Int) : Prop := SliceOf.ok ic 1 (fun _ n => (Lit.int .i64 n).wf = true) W s
theorem reads25 : Reads Try.prog 25 (SliceOf.enc (α := Int)) OkI :=
  reads_slice Try.underlying25 (reads_int Try.underlying3) (by kernel_rfl) (by decide) (fun _ => rfl)
theorem OkT.t {W : World} {s : SliceOf Nd} (h : OkT W s) : TOk W s.A s.l :=
  ⟨h.1, fun n hn => (h.2.2.2.2 n hn).1, Nat.le_trans h.2.1 h.2.2.1, fun n hn => Nat.le_trans (h.2.2.2.2 n hn).2.1 (h.2.2.2.2 n hn).2.2.1⟩
theorem OkI.len {W : World} {s : SliceOf Int} (h : OkI W s) : s.l.length ≤ maxLen := Nat.le_trans h.2.1 h.2.2.1
end Go.Proofs.Ytemdebheinbolaa
