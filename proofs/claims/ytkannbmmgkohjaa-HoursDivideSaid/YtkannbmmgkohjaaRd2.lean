/- How the arguments of the laws of hours read; the laws in the form in which the rows take them. -/
import Derived.Test.YtkannbmmgkohjaaQ3
import Derived.Test.YtkannbmmgkohjaaQ6
import Derived.Test.YtkannbmmgkohjaaRd
namespace Go.Proofs.Ytkannbmmgkohjaa
open Go.RowKit Go.ChangeShapes Go.WideShapes Go.Deep
theorem reads31 : Reads Try.prog 31 Sp.cells (fun _ _ => True) := by
  intro H encH w base spare held fuel cs x h
  obtain ⟨xs, n, _, _, hl, hxl, hf⟩ := DataW.trod_struct Try.underlying31 h
  have hc : cs.length = 2 := hl.trans (by kernel_rfl)
  have hx : xs.length = 2 := hxl
  obtain ⟨a0, e0, _⟩ := seg (reads_int Try.underlying3) 0 1 rfl rfl (by kernel_rfl) (hf 0 _ rfl) (by omega)
  obtain ⟨a1, e1, _⟩ := seg (reads_int Try.underlying3) 1 1 rfl rfl (by kernel_rfl) (hf 1 _ rfl) (by omega)
  match cs, hc with
  | [c0, c1], _ =>
    simp at e0 e1
    exact ⟨⟨a0, a1⟩, by simp [Sp.cells, e0, e1], trivial⟩
theorem reads22 : Reads Try.prog 22 (SliceOf.enc (α := Sp)) (SliceOf.ok Sp.cells 2 (fun _ _ => True)) :=
  reads_slice Try.underlying22 reads31 (by kernel_rfl) (by decide) (fun _ => rfl)
abbrev OkS (W : World) (s : SliceOf Sp) : Prop := SliceOf.ok Sp.cells 2 (fun _ _ => True) W s
theorem OkS.len {W : World} {s : SliceOf Sp} (h : OkS W s) : s.l.length ≤ maxLen := Nat.le_trans h.2.1 h.2.2.1
theorem u16_bds {x : Int} (h : (Lit.int .u16 x).wf = true) : 0 ≤ x ∧ x ≤ 65535 := by
  simp [Lit.wf, IntKind.min, IntKind.max, IntKind.signed, IntKind.bits] at h
  omega
theorem walk3 (s : SliceOf Sp) (W : World) (h : OkS W s) : Calls Try.prog 3 #[.slice s.A s.l.length s.c] W fun e W' => e = .returned (.bool true) ∧ Below W.heap.size W W' := law3 s.A s.c s.l W h.1 h.len
theorem walk4 (s t : SliceOf Sp) (W : World) (h : OkS W s) (k : OkS W t) : Calls Try.prog 4 #[.slice s.A s.l.length s.c, .slice t.A t.l.length t.c] W fun e W' => e = .returned (.bool true) ∧ Below W.heap.size W W' := law4 s.A s.c s.l t.A t.c t.l W h.1 h.len k.1 k.len
theorem walk5 (s : SliceOf Sp) (m : Int) (x : Sp) (W : World) (h : OkS W s) (_ : True) : Calls Try.prog 5 #[.slice s.A s.l.length s.c, .int .i64 m, .agg x.cells.toArray] W fun e W' => e = .returned (.bool true) ∧ Below W.heap.size W W' := law5 s.A s.c s.l m x W h.1 h.len
theorem walk6 (s t : SliceOf Sp) (m : Int) (W : World) (h : OkS W s) (k : OkS W t) : Calls Try.prog 6 #[.slice s.A s.l.length s.c, .slice t.A t.l.length t.c, .int .i64 m] W fun e W' => e = .returned (.bool true) ∧ Below W.heap.size W W' := law6 s.A s.c s.l t.A t.c t.l m W h.1 h.len k.1 k.len
theorem walk7 (s t u : SliceOf Sp) (W : World) (h : OkS W s) (k : OkS W t) (j : OkS W u) : Calls Try.prog 7 #[.slice s.A s.l.length s.c, .slice t.A t.l.length t.c, .slice u.A u.l.length u.c] W fun e W' => e = .returned (.bool true) ∧ Below W.heap.size W W' := law7 s.A s.c s.l t.A t.c t.l u.A u.c u.l W h.1 h.len k.1 k.len j.1 j.len
theorem walk8 (s t : SliceOf Sp) (W : World) (h : OkS W s) (k : OkS W t) : Calls Try.prog 8 #[.slice s.A s.l.length s.c, .slice t.A t.l.length t.c] W fun e W' => e = .returned (.bool true) ∧ Below W.heap.size W W' := law8 s.A s.c s.l t.A t.c t.l W h.1 h.len k.1 k.len
theorem walk9 (s : SliceOf Sp) (a b c : Int) (W : World) (h : OkS W s) (ka : (Lit.int .u16 a).wf = true) (kb : (Lit.int .u16 b).wf = true) (kc : (Lit.int .u16 c).wf = true) : Calls Try.prog 9 #[.slice s.A s.l.length s.c, .int .u16 a, .int .u16 b, .int .u16 c] W fun e W' => e = .returned (.bool true) ∧ Below W.heap.size W W' :=
  law9 s.A s.c s.l a b c W h.1 h.len (u16_bds ka).1 (u16_bds ka).2 (u16_bds kb).1 (u16_bds kb).2 (u16_bds kc).1 (u16_bds kc).2
end Go.Proofs.Ytkannbmmgkohjaa
