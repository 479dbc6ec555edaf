/- How airspaces and rules that came in read. -/
import Derived.Test.YtmgpbjpohbpgpaaProg
import Derived.Test.YtmgpbjpohbpgpaaPlain
import Derived.Test.YtmgpbjpohbpgpaaRd
import Derived.ChangeArms
set_option linter.unusedSimpArgs false
set_option linter.unusedVariables false
namespace Go.Proofs.Ytmgpbjpohbpgpaa
open Go.RowKit Go.ChangeShapes Go.WideShapes Go.Deep
def Ru.cells (r : Ru) : List Value := [.int .i64 r.k, .string r.sc, .string r.sa, .int .i64 r.cl, .int .i64 r.ap, .int .i64 r.n, .int .i64 r.f, .int .i64 r.t]
abbrev Ru.v (r : Ru) : Value := .agg #[.int .i64 r.k, .string r.sc, .string r.sa, .int .i64 r.cl, .int .i64 r.ap, .int .i64 r.n, .int .i64 r.f, .int .i64 r.t]
/-- Two numbers in order. -/
def spc (p : Int × Int) : List Value := [.int .i64 p.1, .int .i64 p.2]
theorem reads_head {P : Program} {t e : TypeId} (ht : P.underlying t = some (.slice e)) : Reads P t (fun s : SH => [.slice s.A s.n s.c]) (fun _ s => s.n ≤ s.c ∧ s.c ≤ maxLen) := by
  intro H encH w base spare held fuel cs x h
  rcases open_slice ht h with ⟨h0, _⟩ | ⟨a, len, cap, m, n, D, Pl, hcs, hb, hl, hm, hmm, hx, hi⟩
  · exact ⟨⟨none, 0, 0⟩, h0, Nat.le_refl _, Nat.zero_le _⟩
  · exact ⟨⟨some a, len, cap⟩, hcs, by omega, by omega⟩
theorem reads_string {P : Program} {t : TypeId} (ht : P.underlying t = some .string) : Reads P t (fun s : ByteArray => [.string s]) (fun _ _ => True) := by
  intro H encH w base spare held fuel cs x h
  obtain ⟨s, h1, _⟩ := DataW.trod_string ht h
  exact ⟨s, h1, trivial⟩
set_option maxRecDepth 100000 in
theorem reads40 : Reads Try.prog 40 spc (fun _ _ => True) := by
  intro H encH w base spare held fuel cs x h
  obtain ⟨xs, n, _, _, hl, hxl, hf⟩ := DataW.trod_struct Try.underlying40 h
  have hc : cs.length = 2 := hl.trans (by kernel_rfl)
  have hx : xs.length = 2 := hxl
  obtain ⟨a0, e0, _⟩ := seg (reads_int Try.underlying3) 0 1 rfl rfl (by kernel_rfl) (hf 0 _ rfl) (by omega)
  obtain ⟨a1, e1, _⟩ := seg (reads_int Try.underlying3) 1 1 rfl rfl (by kernel_rfl) (hf 1 _ rfl) (by omega)
  match cs, hc with
  | [c0, c1], _ =>
    simp at e0 e1
    exact ⟨⟨a0, a1⟩, by simp [spc, e0, e1], trivial⟩
set_option maxRecDepth 100000 in
theorem reads42 : Reads Try.prog 42 Ru.cells (fun _ _ => True) := by
  intro H encH w base spare held fuel cs x h
  obtain ⟨xs, n, _, _, hl, hxl, hf⟩ := DataW.trod_struct Try.underlying42 h
  have hc : cs.length = 8 := hl.trans (by kernel_rfl)
  have hx : xs.length = 7 := hxl
  obtain ⟨a0, e0, _⟩ := seg (reads_int Try.underlying3) 0 1 rfl rfl (by kernel_rfl) (hf 0 _ rfl) (by omega)
  obtain ⟨a1, e1, _⟩ := seg (reads_string Try.underlying9) 1 1 rfl rfl (by kernel_rfl) (hf 1 _ rfl) (by omega)
  obtain ⟨a2, e2, _⟩ := seg (reads_string Try.underlying9) 2 1 rfl rfl (by kernel_rfl) (hf 2 _ rfl) (by omega)
  obtain ⟨a3, e3, _⟩ := seg (reads_int Try.underlying3) 3 1 rfl rfl (by kernel_rfl) (hf 3 _ rfl) (by omega)
  obtain ⟨a4, e4, _⟩ := seg (reads_int Try.underlying3) 4 1 rfl rfl (by kernel_rfl) (hf 4 _ rfl) (by omega)
  obtain ⟨a5, e5, _⟩ := seg (reads_int Try.underlying3) 5 1 rfl rfl (by kernel_rfl) (hf 5 _ rfl) (by omega)
  obtain ⟨a6, e6, _⟩ := seg reads40 6 2 rfl rfl (by kernel_rfl) (hf 6 _ rfl) (by omega)
  match cs, hc with
  | [c0, c1, c2, c3, c4, c5, c6, c7], _ =>
    simp [spc] at e0 e1 e2 e3 e4 e5 e6
    exact ⟨⟨a0, a1, a2, a3, a4, a5, a6.1, a6.2⟩, by simp [Ru.cells, e0, e1, e2, e3, e4, e5, e6.1, e6.2], trivial⟩
theorem reads29 : Reads Try.prog 29 (SliceOf.enc (α := Ru)) (SliceOf.ok Ru.cells 8 (fun _ _ => True)) :=
  reads_slice Try.underlying29 reads42 (by kernel_rfl) (by decide) (fun _ => rfl)
/-- An airspace: of most of its parts the place alone is kept. -/
structure As where
  s0 : SH
  s1 : SH
  s2 : SH
  s3 : SH
  s4 : SH
  aps : SH
  cls : SH
  rs : SliceOf Ru
def As.cells (a : As) : List Value := [.slice a.s0.A a.s0.n a.s0.c, .slice a.s1.A a.s1.n a.s1.c, .slice a.s2.A a.s2.n a.s2.c, .slice a.s3.A a.s3.n a.s3.c, .slice a.s4.A a.s4.n a.s4.c, .slice a.aps.A a.aps.n a.aps.c, .slice a.cls.A a.cls.n a.cls.c, .slice a.rs.A a.rs.l.length a.rs.c]
abbrev As.v (a : As) : Value := .agg #[.slice a.s0.A a.s0.n a.s0.c, .slice a.s1.A a.s1.n a.s1.c, .slice a.s2.A a.s2.n a.s2.c, .slice a.s3.A a.s3.n a.s3.c, .slice a.s4.A a.s4.n a.s4.c, .slice a.aps.A a.aps.n a.aps.c, .slice a.cls.A a.cls.n a.cls.c, .slice a.rs.A a.rs.l.length a.rs.c]
/-- What is known of an airspace in memory. -/
structure AOk (w : World) (a : As) : Prop where
  aps : a.aps.n ≤ maxLen
  cls : a.cls.n ≤ maxLen
  rs : Slc w Ru.cells 8 a.rs.A a.rs.l
  rl : a.rs.l.length ≤ a.rs.c
  rc : a.rs.c ≤ maxLen
set_option maxRecDepth 100000 in
theorem reads31 : Reads Try.prog 31 As.cells AOk := by
  intro H encH w base spare held fuel cs x h
  obtain ⟨xs, n, _, _, hl, hxl, hf⟩ := DataW.trod_struct Try.underlying31 h
  have hc : cs.length = 8 := hl.trans (by kernel_rfl)
  have hx : xs.length = 8 := hxl
  obtain ⟨a0, e0, _⟩ := seg (reads_head Try.underlying22) 0 1 rfl rfl (by kernel_rfl) (hf 0 _ rfl) (by omega)
  obtain ⟨a1, e1, _⟩ := seg (reads_head Try.underlying23) 1 1 rfl rfl (by kernel_rfl) (hf 1 _ rfl) (by omega)
  obtain ⟨a2, e2, _⟩ := seg (reads_head Try.underlying24) 2 1 rfl rfl (by kernel_rfl) (hf 2 _ rfl) (by omega)
  obtain ⟨a3, e3, _⟩ := seg (reads_head Try.underlying25) 3 1 rfl rfl (by kernel_rfl) (hf 3 _ rfl) (by omega)
  obtain ⟨a4, e4, _⟩ := seg (reads_head Try.underlying26) 4 1 rfl rfl (by kernel_rfl) (hf 4 _ rfl) (by omega)
  obtain ⟨a5, e5, q5⟩ := seg (reads_head Try.underlying27) 5 1 rfl rfl (by kernel_rfl) (hf 5 _ rfl) (by omega)
  obtain ⟨a6, e6, q6⟩ := seg (reads_head Try.underlying28) 6 1 rfl rfl (by kernel_rfl) (hf 6 _ rfl) (by omega)
  obtain ⟨a7, e7, q7⟩ := seg reads29 7 1 rfl rfl (by kernel_rfl) (hf 7 _ rfl) (by omega)
  match cs, hc with
  | [c0, c1, c2, c3, c4, c5, c6, c7], _ =>
    simp [SliceOf.enc] at e0 e1 e2 e3 e4 e5 e6 e7
    exact ⟨⟨a0, a1, a2, a3, a4, a5, a6, a7⟩, by simp [As.cells, e0, e1, e2, e3, e4, e5, e6, e7], Nat.le_trans q5.1 q5.2, Nat.le_trans q6.1 q6.2, q7.1, q7.2.1, q7.2.2.1⟩
end Go.Proofs.Ytmgpbjpohbpgpaa
