/- How the arguments of the laws of capacity read. -/
import Derived.Test.YtjiojpoiocdnmaaGreatU2
import Derived.Test.YtjiojpoiocdnmaaGreatProg
import Derived.ChangeArms
import Derived.Test.YtjiojpoiocdnmaaGreatGM
import Derived.LaidEql
import Derived.Laws.StructEq
import Derived.ChangeKeysEq
import Derived.Test.YtjiojpoiocdnmaaGreatU0
set_option linter.unusedSimpArgs false
set_option linter.unusedVariables false
namespace Go.Proofs.YtjiojpoiocdnmaaGreat
open Go.RowKit Go.ChangeShapes Go.WideShapes Go.Deep
theorem reads_head {P : Program} {t e : TypeId} (ht : P.underlying t = some (.slice e)) : Reads P t (fun s : SH => [.slice s.A s.n s.c]) (fun _ s => s.n ≤ s.c ∧ s.c ≤ maxLen) := by
  intro H encH w base spare held fuel cs x h
  rcases open_slice ht h with ⟨h0, _⟩ | ⟨a, len, cap, m, n, D, Pl, hcs, hb, hl, hm, hmm, hx, hi⟩
  · exact ⟨⟨none, 0, 0⟩, h0, Nat.le_refl _, Nat.zero_le _⟩
  · exact ⟨⟨some a, len, cap⟩, hcs, by omega, by omega⟩
theorem reads_string {P : Program} {t : TypeId} (ht : P.underlying t = some .string) : Reads P t (fun s : ByteArray => [.string s]) (fun _ _ => True) := by
  intro H encH w base spare held fuel cs x h
  obtain ⟨s, h1, _⟩ := DataW.trod_string ht h
  exact ⟨s, h1, trivial⟩
set_option maxRecDepth 100000 in
theorem reads_Sp : Reads Tryz.prog 44 Sp.cells Sp.ok := by
  intro H encH w base spare held fuel cs x h
  obtain ⟨xs, n, _, _, hl, hxl, hf⟩ := DataW.trod_struct Tryz.underlying44 h
  have hc : cs.length = 2 := hl.trans (by kernel_rfl)
  have hx : xs.length = 2 := hxl
  obtain ⟨a0, e0, q0⟩ := seg (reads_int Tryz.underlying3) 0 1 rfl rfl (by kernel_rfl) (hf 0 _ rfl) (by omega)
  obtain ⟨a1, e1, q1⟩ := seg (reads_int Tryz.underlying3) 1 1 rfl rfl (by kernel_rfl) (hf 1 _ rfl) (by omega)
  match cs, hc with
  | [c0, c1], _ =>
    simp [SliceOf.enc] at e0 e1
    exact ⟨⟨a0, a1⟩, by simp [Sp.cells, e0, e1], trivial⟩
theorem reads_Sps : Reads Tryz.prog 114 (SliceOf.enc (α := Sp)) (SliceOf.ok Sp.cells 2 Sp.ok) :=
  reads_slice Tryz.underlying114 reads_Sp (by kernel_rfl) (by decide) (fun _ => rfl)
set_option maxRecDepth 100000 in
theorem reads_Lg : Reads Tryz.prog 121 Lg.cells Lg.ok := by
  intro H encH w base spare held fuel cs x h
  obtain ⟨xs, n, _, _, hl, hxl, hf⟩ := DataW.trod_struct Tryz.underlying121 h
  have hc : cs.length = 4 := hl.trans (by kernel_rfl)
  have hx : xs.length = 4 := hxl
  obtain ⟨a0, e0, q0⟩ := seg (reads_int Tryz.underlying3) 0 1 rfl rfl (by kernel_rfl) (hf 0 _ rfl) (by omega)
  obtain ⟨a1, e1, q1⟩ := seg (reads_int Tryz.underlying3) 1 1 rfl rfl (by kernel_rfl) (hf 1 _ rfl) (by omega)
  obtain ⟨a2, e2, q2⟩ := seg (reads_int Tryz.underlying3) 2 1 rfl rfl (by kernel_rfl) (hf 2 _ rfl) (by omega)
  obtain ⟨a3, e3, q3⟩ := seg reads_Sps 3 1 rfl rfl (by kernel_rfl) (hf 3 _ rfl) (by omega)
  match cs, hc with
  | [c0, c1, c2, c3], _ =>
    simp [SliceOf.enc] at e0 e1 e2 e3
    exact ⟨⟨a0, a1, a2, a3⟩, by simp [Lg.cells, e0, e1, e2, e3], q3⟩
theorem reads_Lgs : Reads Tryz.prog 122 (SliceOf.enc (α := Lg)) (SliceOf.ok Lg.cells 4 Lg.ok) :=
  reads_slice Tryz.underlying122 reads_Lg (by kernel_rfl) (by decide) (fun _ => rfl)
set_option maxRecDepth 100000 in
theorem reads_Wy : Reads Tryz.prog 124 Wy.cells Wy.ok := by
  intro H encH w base spare held fuel cs x h
  obtain ⟨xs, n, _, _, hl, hxl, hf⟩ := DataW.trod_struct Tryz.underlying124 h
  have hc : cs.length = 3 := hl.trans (by kernel_rfl)
  have hx : xs.length = 3 := hxl
  obtain ⟨a0, e0, q0⟩ := seg (reads_int Tryz.underlying3) 0 1 rfl rfl (by kernel_rfl) (hf 0 _ rfl) (by omega)
  obtain ⟨a1, e1, q1⟩ := seg (reads_int Tryz.underlying3) 1 1 rfl rfl (by kernel_rfl) (hf 1 _ rfl) (by omega)
  obtain ⟨a2, e2, q2⟩ := seg reads_Lgs 2 1 rfl rfl (by kernel_rfl) (hf 2 _ rfl) (by omega)
  match cs, hc with
  | [c0, c1, c2], _ =>
    simp [SliceOf.enc] at e0 e1 e2
    exact ⟨⟨a0, a1, a2⟩, by simp [Wy.cells, e0, e1, e2], q2⟩
theorem reads_Spss : Reads Tryz.prog 125 (SliceOf.enc (α := SliceOf Sp)) (SliceOf.ok SliceOf.enc 1 (SliceOf.ok Sp.cells 2 Sp.ok)) :=
  reads_slice Tryz.underlying125 reads_Sps (by kernel_rfl) (by decide) (fun _ => rfl)
set_option maxRecDepth 100000 in
theorem reads_Kd : Reads Tryz.prog 127 Kd.cells Kd.ok := by
  intro H encH w base spare held fuel cs x h
  obtain ⟨xs, n, _, _, hl, hxl, hf⟩ := DataW.trod_struct Tryz.underlying127 h
  have hc : cs.length = 6 := hl.trans (by kernel_rfl)
  have hx : xs.length = 6 := hxl
  obtain ⟨a0, e0, q0⟩ := seg (reads_int Tryz.underlying3) 0 1 rfl rfl (by kernel_rfl) (hf 0 _ rfl) (by omega)
  obtain ⟨a1, e1, q1⟩ := seg (reads_int Tryz.underlying3) 1 1 rfl rfl (by kernel_rfl) (hf 1 _ rfl) (by omega)
  obtain ⟨a2, e2, q2⟩ := seg (reads_int Tryz.underlying3) 2 1 rfl rfl (by kernel_rfl) (hf 2 _ rfl) (by omega)
  obtain ⟨a3, e3, q3⟩ := seg (reads_int Tryz.underlying3) 3 1 rfl rfl (by kernel_rfl) (hf 3 _ rfl) (by omega)
  obtain ⟨a4, e4, q4⟩ := seg (reads_int Tryz.underlying3) 4 1 rfl rfl (by kernel_rfl) (hf 4 _ rfl) (by omega)
  obtain ⟨a5, e5, q5⟩ := seg reads_Spss 5 1 rfl rfl (by kernel_rfl) (hf 5 _ rfl) (by omega)
  match cs, hc with
  | [c0, c1, c2, c3, c4, c5], _ =>
    simp [SliceOf.enc] at e0 e1 e2 e3 e4 e5
    exact ⟨⟨a0, a1, a2, a3, a4, a5⟩, by simp [Kd.cells, e0, e1, e2, e3, e4, e5], q5⟩
theorem reads_ints : Reads Tryz.prog 39 (SliceOf.enc (α := Int)) (SliceOf.ok ic 1 (fun _ n => (Lit.int .i64 n).wf = true)) :=
  reads_slice Tryz.underlying39 (reads_int Tryz.underlying3) (by kernel_rfl) (by decide) (fun _ => rfl)
set_option maxRecDepth 100000 in
theorem reads_Sec : Reads Tryz.prog 117 Sec.cells Sec.ok := by
  intro H encH w base spare held fuel cs x h
  obtain ⟨xs, n, _, _, hl, hxl, hf⟩ := DataW.trod_struct Tryz.underlying117 h
  have hc : cs.length = 5 := hl.trans (by kernel_rfl)
  have hx : xs.length = 5 := hxl
  obtain ⟨a0, e0, q0⟩ := seg (reads_string Tryz.underlying9) 0 1 rfl rfl (by kernel_rfl) (hf 0 _ rfl) (by omega)
  obtain ⟨a1, e1, q1⟩ := seg (reads_head Tryz.underlying115) 1 1 rfl rfl (by kernel_rfl) (hf 1 _ rfl) (by omega)
  obtain ⟨a2, e2, q2⟩ := seg reads_ints 2 1 rfl rfl (by kernel_rfl) (hf 2 _ rfl) (by omega)
  obtain ⟨a3, e3, q3⟩ := seg (reads_int Tryz.underlying3) 3 1 rfl rfl (by kernel_rfl) (hf 3 _ rfl) (by omega)
  obtain ⟨a4, e4, q4⟩ := seg (reads_int Tryz.underlying3) 4 1 rfl rfl (by kernel_rfl) (hf 4 _ rfl) (by omega)
  match cs, hc with
  | [c0, c1, c2, c3, c4], _ =>
    simp [SliceOf.enc] at e0 e1 e2 e3 e4
    exact ⟨⟨a0, a1, a2, a3, a4⟩, by simp [Sec.cells, e0, e1, e2, e3, e4], ⟨q1.1, q1.2, q2⟩⟩
set_option maxRecDepth 100000 in
theorem reads_Cfg : Reads Tryz.prog 119 Cfg.cells Cfg.ok := by
  intro H encH w base spare held fuel cs x h
  obtain ⟨xs, n, _, _, hl, hxl, hf⟩ := DataW.trod_struct Tryz.underlying119 h
  have hc : cs.length = 3 := hl.trans (by kernel_rfl)
  have hx : xs.length = 3 := hxl
  obtain ⟨a0, e0, q0⟩ := seg (reads_string Tryz.underlying9) 0 1 rfl rfl (by kernel_rfl) (hf 0 _ rfl) (by omega)
  obtain ⟨a1, e1, q1⟩ := seg (reads_head Tryz.underlying115) 1 1 rfl rfl (by kernel_rfl) (hf 1 _ rfl) (by omega)
  obtain ⟨a2, e2, q2⟩ := seg reads_ints 2 1 rfl rfl (by kernel_rfl) (hf 2 _ rfl) (by omega)
  match cs, hc with
  | [c0, c1, c2], _ =>
    simp [SliceOf.enc] at e0 e1 e2
    exact ⟨⟨a0, a1, a2⟩, by simp [Cfg.cells, e0, e1, e2], ⟨q1.1, q1.2, q2⟩⟩
theorem reads_Secs : Reads Tryz.prog 22 (SliceOf.enc (α := Sec)) (SliceOf.ok Sec.cells 5 Sec.ok) :=
  reads_slice Tryz.underlying22 reads_Sec (by kernel_rfl) (by decide) (fun _ => rfl)
theorem reads_Cfgs : Reads Tryz.prog 23 (SliceOf.enc (α := Cfg)) (SliceOf.ok Cfg.cells 3 Cfg.ok) :=
  reads_slice Tryz.underlying23 reads_Cfg (by kernel_rfl) (by decide) (fun _ => rfl)
theorem reads_Wys : Reads Tryz.prog 24 (SliceOf.enc (α := Wy)) (SliceOf.ok Wy.cells 3 Wy.ok) :=
  reads_slice Tryz.underlying24 reads_Wy (by kernel_rfl) (by decide) (fun _ => rfl)
theorem reads_intss : Reads Tryz.prog 25 (SliceOf.enc (α := SliceOf Int)) (SliceOf.ok SliceOf.enc 1 (SliceOf.ok ic 1 (fun _ n => (Lit.int .i64 n).wf = true))) :=
  reads_slice Tryz.underlying25 reads_ints (by kernel_rfl) (by decide) (fun _ => rfl)
theorem reads_Kds : Reads Tryz.prog 26 (SliceOf.enc (α := Kd)) (SliceOf.ok Kd.cells 6 Kd.ok) :=
  reads_slice Tryz.underlying26 reads_Kd (by kernel_rfl) (by decide) (fun _ => rfl)
set_option maxRecDepth 100000 in
theorem reads_Tab : Reads Tryz.prog 28 Tab.cells Tab.ok := by
  intro H encH w base spare held fuel cs x h
  obtain ⟨xs, n, _, _, hl, hxl, hf⟩ := DataW.trod_struct Tryz.underlying28 h
  have hc : cs.length = 6 := hl.trans (by kernel_rfl)
  have hx : xs.length = 6 := hxl
  obtain ⟨a0, e0, q0⟩ := seg (reads_int Tryz.underlying3) 0 1 rfl rfl (by kernel_rfl) (hf 0 _ rfl) (by omega)
  obtain ⟨a1, e1, q1⟩ := seg reads_Secs 1 1 rfl rfl (by kernel_rfl) (hf 1 _ rfl) (by omega)
  obtain ⟨a2, e2, q2⟩ := seg reads_Cfgs 2 1 rfl rfl (by kernel_rfl) (hf 2 _ rfl) (by omega)
  obtain ⟨a3, e3, q3⟩ := seg reads_Wys 3 1 rfl rfl (by kernel_rfl) (hf 3 _ rfl) (by omega)
  obtain ⟨a4, e4, q4⟩ := seg reads_intss 4 1 rfl rfl (by kernel_rfl) (hf 4 _ rfl) (by omega)
  obtain ⟨a5, e5, q5⟩ := seg reads_Kds 5 1 rfl rfl (by kernel_rfl) (hf 5 _ rfl) (by omega)
  match cs, hc with
  | [c0, c1, c2, c3, c4, c5], _ =>
    simp [SliceOf.enc] at e0 e1 e2 e3 e4 e5
    exact ⟨⟨a0, a1, a2, a3, a4, a5⟩, by simp [Tab.cells, e0, e1, e2, e3, e4, e5], ⟨q1, q2, q3, q4, q5⟩⟩
end Go.Proofs.YtjiojpoiocdnmaaGreat
/- How the arguments of the laws of worlds read. -/
set_option linter.unusedSimpArgs false
set_option linter.unusedVariables false
namespace Go.Proofs.YtjiojpoiocdnmaaGreat
open Go.RowKit Go.ChangeShapes Go.WideShapes Go.Deep
set_option maxRecDepth 100000 in
theorem reads_Pth : Reads Tryz.prog 71 Pth.cells Pth.ok := by
  intro H encH w base spare held fuel cs x h
  obtain ⟨xs, n, _, _, hl, hxl, hf⟩ := DataW.trod_struct Tryz.underlying71 h
  have hc : cs.length = 2 := hl.trans (by kernel_rfl)
  have hx : xs.length = 2 := hxl
  obtain ⟨a0, e0, q0⟩ := seg (reads_int Tryz.underlying3) 0 1 rfl rfl (by kernel_rfl) (hf 0 _ rfl) (by omega)
  obtain ⟨a1, e1, q1⟩ := seg reads_ints 1 1 rfl rfl (by kernel_rfl) (hf 1 _ rfl) (by omega)
  match cs, hc with
  | [c0, c1], _ =>
    simp [SliceOf.enc] at e0 e1
    exact ⟨⟨a0, a1⟩, by simp [Pth.cells, e0, e1], q1⟩
set_option maxRecDepth 100000 in
theorem reads_Opt : Reads Tryz.prog 48 Opt.cells Opt.ok := by
  intro H encH w base spare held fuel cs x h
  obtain ⟨xs, n, _, _, hl, hxl, hf⟩ := DataW.trod_struct Tryz.underlying48 h
  have hc : cs.length = 4 := hl.trans (by kernel_rfl)
  have hx : xs.length = 4 := hxl
  obtain ⟨a0, e0, q0⟩ := seg (reads_int Tryz.underlying3) 0 1 rfl rfl (by kernel_rfl) (hf 0 _ rfl) (by omega)
  obtain ⟨a1, e1, q1⟩ := seg (reads_int Tryz.underlying3) 1 1 rfl rfl (by kernel_rfl) (hf 1 _ rfl) (by omega)
  obtain ⟨a2, e2, q2⟩ := seg (reads_int Tryz.underlying3) 2 1 rfl rfl (by kernel_rfl) (hf 2 _ rfl) (by omega)
  obtain ⟨a3, e3, q3⟩ := seg (reads_bool Tryz.underlying4) 3 1 rfl rfl (by kernel_rfl) (hf 3 _ rfl) (by omega)
  match cs, hc with
  | [c0, c1, c2, c3], _ =>
    simp [SliceOf.enc] at e0 e1 e2 e3
    exact ⟨⟨a0, a1, a2, a3⟩, by simp [Opt.cells, e0, e1, e2, e3], trivial⟩
set_option maxRecDepth 100000 in
theorem reads_Flt : Reads Tryz.prog 46 Flt.cells Flt.ok := by
  intro H encH w base spare held fuel cs x h
  obtain ⟨xs, n, _, _, hl, hxl, hf⟩ := DataW.trod_struct Tryz.underlying46 h
  have hc : cs.length = 8 := hl.trans (by kernel_rfl)
  have hx : xs.length = 7 := hxl
  obtain ⟨a0, e0, q0⟩ := seg (reads_int Tryz.underlying3) 0 1 rfl rfl (by kernel_rfl) (hf 0 _ rfl) (by omega)
  obtain ⟨a1, e1, q1⟩ := seg (reads_int Tryz.underlying3) 1 1 rfl rfl (by kernel_rfl) (hf 1 _ rfl) (by omega)
  obtain ⟨a2, e2, q2⟩ := seg (reads_int Tryz.underlying3) 2 1 rfl rfl (by kernel_rfl) (hf 2 _ rfl) (by omega)
  obtain ⟨a3, e3, q3⟩ := seg (reads_string Tryz.underlying9) 3 1 rfl rfl (by kernel_rfl) (hf 3 _ rfl) (by omega)
  obtain ⟨a4, e4, q4⟩ := seg (reads_head Tryz.underlying39) 4 1 rfl rfl (by kernel_rfl) (hf 4 _ rfl) (by omega)
  obtain ⟨a5, e5, q5⟩ := seg reads_Sp 5 2 rfl rfl (by kernel_rfl) (hf 5 _ rfl) (by omega)
  obtain ⟨a6, e6, q6⟩ := seg (reads_bool Tryz.underlying4) 7 1 rfl rfl (by kernel_rfl) (hf 6 _ rfl) (by omega)
  match cs, hc with
  | [c0, c1, c2, c3, c4, c5, c6, c7], _ =>
    simp [SliceOf.enc, Sp.cells] at e0 e1 e2 e3 e4 e5 e6
    exact ⟨⟨a0, a1, a2, a3, a4, a5, a6⟩, by simp [Flt.cells, e0, e1, e2, e3, e4, e5, e6], ⟨q4.1, q4.2, q5⟩⟩
theorem reads_Pths : Reads Tryz.prog 49 (SliceOf.enc (α := Pth)) (SliceOf.ok Pth.cells 2 Pth.ok) :=
  reads_slice Tryz.underlying49 reads_Pth (by kernel_rfl) (by decide) (fun _ => rfl)
set_option maxRecDepth 100000 in
theorem reads_Trk : Reads Tryz.prog 52 Trk.cells Trk.ok := by
  intro H encH w base spare held fuel cs x h
  obtain ⟨xs, n, _, _, hl, hxl, hf⟩ := DataW.trod_struct Tryz.underlying52 h
  have hc : cs.length = 14 := hl.trans (by kernel_rfl)
  have hx : xs.length = 4 := hxl
  obtain ⟨a0, e0, q0⟩ := seg reads_Flt 0 8 rfl rfl (by kernel_rfl) (hf 0 _ rfl) (by omega)
  obtain ⟨a1, e1, q1⟩ := seg reads_Opt 8 4 rfl rfl (by kernel_rfl) (hf 1 _ rfl) (by omega)
  obtain ⟨a2, e2, q2⟩ := seg reads_Pths 12 1 rfl rfl (by kernel_rfl) (hf 2 _ rfl) (by omega)
  obtain ⟨a3, e3, q3⟩ := seg (reads_head Tryz.underlying50) 13 1 rfl rfl (by kernel_rfl) (hf 3 _ rfl) (by omega)
  match cs, hc with
  | [c0, c1, c2, c3, c4, c5, c6, c7, c8, c9, c10, c11, c12, c13], _ =>
    simp [SliceOf.enc, Flt.cells, Opt.cells] at e0 e1 e2 e3
    exact ⟨⟨a0, a1, a2, a3⟩, by simp [Trk.cells, e0, e1, e2, e3], ⟨q0, q1, q2, q3.1, q3.2⟩⟩
set_option maxRecDepth 100000 in
theorem reads_Stn : Reads Tryz.prog 41 Stn.cells Stn.ok := by
  intro H encH w base spare held fuel cs x h
  obtain ⟨xs, n, _, _, hl, hxl, hf⟩ := DataW.trod_struct Tryz.underlying41 h
  have hc : cs.length = 3 := hl.trans (by kernel_rfl)
  have hx : xs.length = 3 := hxl
  obtain ⟨a0, e0, q0⟩ := seg reads_ints 0 1 rfl rfl (by kernel_rfl) (hf 0 _ rfl) (by omega)
  obtain ⟨a1, e1, q1⟩ := seg (reads_int Tryz.underlying3) 1 1 rfl rfl (by kernel_rfl) (hf 1 _ rfl) (by omega)
  obtain ⟨a2, e2, q2⟩ := seg (reads_int Tryz.underlying3) 2 1 rfl rfl (by kernel_rfl) (hf 2 _ rfl) (by omega)
  match cs, hc with
  | [c0, c1, c2], _ =>
    simp [SliceOf.enc] at e0 e1 e2
    exact ⟨⟨a0, a1, a2⟩, by simp [Stn.cells, e0, e1, e2], q0⟩
set_option maxRecDepth 100000 in
theorem reads_Rep : Reads Tryz.prog 55 Rep.cells Rep.ok := by
  intro H encH w base spare held fuel cs x h
  obtain ⟨xs, n, _, _, hl, hxl, hf⟩ := DataW.trod_struct Tryz.underlying55 h
  have hc : cs.length = 6 := hl.trans (by kernel_rfl)
  have hx : xs.length = 6 := hxl
  obtain ⟨a0, e0, q0⟩ := seg (reads_int Tryz.underlying3) 0 1 rfl rfl (by kernel_rfl) (hf 0 _ rfl) (by omega)
  obtain ⟨a1, e1, q1⟩ := seg (reads_int Tryz.underlying3) 1 1 rfl rfl (by kernel_rfl) (hf 1 _ rfl) (by omega)
  obtain ⟨a2, e2, q2⟩ := seg (reads_int Tryz.underlying3) 2 1 rfl rfl (by kernel_rfl) (hf 2 _ rfl) (by omega)
  obtain ⟨a3, e3, q3⟩ := seg (reads_int Tryz.underlying3) 3 1 rfl rfl (by kernel_rfl) (hf 3 _ rfl) (by omega)
  obtain ⟨a4, e4, q4⟩ := seg (reads_string Tryz.underlying9) 4 1 rfl rfl (by kernel_rfl) (hf 4 _ rfl) (by omega)
  obtain ⟨a5, e5, q5⟩ := seg (reads_int Tryz.underlying3) 5 1 rfl rfl (by kernel_rfl) (hf 5 _ rfl) (by omega)
  match cs, hc with
  | [c0, c1, c2, c3, c4, c5], _ =>
    simp [SliceOf.enc] at e0 e1 e2 e3 e4 e5
    exact ⟨⟨a0, a1, a2, a3, a4, a5⟩, by simp [Rep.cells, e0, e1, e2, e3, e4, e5], trivial⟩
theorem reads_Trks : Reads Tryz.prog 31 (SliceOf.enc (α := Trk)) (SliceOf.ok Trk.cells 14 Trk.ok) :=
  reads_slice Tryz.underlying31 reads_Trk (by kernel_rfl) (by decide) (fun _ => rfl)
theorem reads_Stns : Reads Tryz.prog 29 (SliceOf.enc (α := Stn)) (SliceOf.ok Stn.cells 3 Stn.ok) :=
  reads_slice Tryz.underlying29 reads_Stn (by kernel_rfl) (by decide) (fun _ => rfl)
theorem reads_Reps : Reads Tryz.prog 30 (SliceOf.enc (α := Rep)) (SliceOf.ok Rep.cells 6 Rep.ok) :=
  reads_slice Tryz.underlying30 reads_Rep (by kernel_rfl) (by decide) (fun _ => rfl)

end Go.Proofs.YtjiojpoiocdnmaaGreat
/- Kinds of keys: strings, vectors, places, pairs, groups. -/
set_option linter.unusedSimpArgs false
set_option linter.unusedVariables false
namespace Go.Proofs.YtjiojpoiocdnmaaGreat
open Go.RowKit Go.ChangeMaps
/-- Numbers of four stations. -/
structure V4 where
  a : Int
  b : Int
  c : Int
  d : Int
deriving DecidableEq
abbrev V4.v (x : V4) : Value := .agg #[.int .i64 x.a, .int .i64 x.b, .int .i64 x.c, .int .i64 x.d]
structure Plc where
  air : Bool
  ix : Int
deriving DecidableEq
abbrev Plc.v (x : Plc) : Value := .agg #[.bool x.air, .int .i64 x.ix]
structure P2 where
  a : Int
  b : Int
deriving DecidableEq
abbrev P2.v (x : P2) : Value := .agg #[.int .i64 x.a, .int .i64 x.b]
abbrev gptr (b : Nat) : Value := .pointer (some ⟨b, 0, none⟩)
def isGrp (w : World) (b : Nat) : Prop := ∃ cs, w.heap[b]? = some (.cells cs 94 (0, 0))
def anyK {κ : Type} (_ : World) (_ : κ) : Prop := True
theorem keyStr {P : Program} {kt : TypeId} (hk : P.underlying kt = some .string) : KeyC P kt (fun s : ByteArray => .string s) anyK where
  chk := fun e a w => MapKept.run_checkKey hk (d := .string) (k := .string a) trivial e 9999
  find := fun a es w _ h => by
    have hks : ∀ x ∈ es, MapKept.IsKey .string x.key := fun x hx => by
      obtain ⟨b, e, _⟩ := h x hx
      rw [e]; trivial
    rcases MapKept.findNow_spec (d := .string) (k := .string a) trivial es 0 hks with ⟨h1, h2⟩ | ⟨j, e0, h1, h2, h3⟩
    · exact .inl ⟨MapKept.run_findKey hk h1, h2⟩
    · exact .inr ⟨j, e0, by simpa using MapKept.run_findKey hk h1, h2, h3⟩
  stays := fun a w => MapKept.run_keyThatStays (d := .string) (k := .string a) trivial
  inj := fun a b h => by injection h
theorem part3 {cs : Array Value} {o : Nat} {v : Value} (h : cs[o]? = some v) (w : World) : (part 3 cs o).run Tryz.prog w = .ok v w := run_part_plain w (by kernel_rfl) h
theorem part4 {cs : Array Value} {o : Nat} {v : Value} (h : cs[o]? = some v) (w : World) : (part 4 cs o).run Tryz.prog w = .ok v w := run_part_plain w (by kernel_rfl) h
theorem eqI_step {d : Nat} {xs ys : Array Value} {j : Nat} {a b : Int} {js : List Nat} (hx : xs[j * 1]? = some (.int .i64 a)) (hy : ys[j * 1]? = some (.int .i64 b)) (w : World) :
    (Op.eqItems (d + 1) 3 1 xs ys (j :: js)).run Tryz.prog w = if a = b then (Op.eqItems (d + 1) 3 1 xs ys js).run Tryz.prog w else .ok false w := by
  simp only [Op.eqItems, Sem.run_bind, part3 hx, part3 hy, Result.andThen_ok, run_equalIn_int (P := Tryz.prog) w d 3 .i64 .i64 a b Tryz.underlying3]
  by_cases h : a = b
  · subst h; simp
  · simp [h]
theorem info3 : ∃ i, Tryz.prog.info? 3 = some i := Option.isSome_iff_exists.1 (by kernel_rfl)
theorem eq76 (x y : V4) (w : World) : (Op.equal 76 x.v y.v).run Tryz.prog w = .ok (decide (x = y)) w := by
  obtain ⟨a, b, c, d⟩ := x
  obtain ⟨a', b', c', d'⟩ := y
  obtain ⟨i, hi⟩ := info3
  simp only [Op.equal, Op.maxDepth]
  rw [show (10000 : Nat) = 9999 + 1 from rfl, run_equalIn_array w 9999 _ _ Tryz.underlying76 hi, show Tryz.prog.cellsOf 3 = 1 from by kernel_rfl, show List.range 4 = [0, 1, 2, 3] from rfl, show (9999 : Nat) = 9998 + 1 from rfl,
    eqI_step (a := a) (b := a') rfl rfl, eqI_step (a := b) (b := b') rfl rfl, eqI_step (a := c) (b := c') rfl rfl, eqI_step (a := d) (b := d') rfl rfl]
  simp only [Op.eqItems, Sem.run_pure]
  by_cases h1 : a = a' <;> by_cases h2 : b = b' <;> by_cases h3 : c = c' <;> by_cases h4 : d = d' <;> simp [h1, h2, h3, h4]
theorem fields144 : Tryz.prog.fieldsOf 144 = (match Tryz.prog.underlying 144 with | some (.struct fs) => fs | _ => #[]) := by kernel_rfl
theorem Plc.eq_iff (x y : Plc) : x = y ↔ x.air = y.air ∧ x.ix = y.ix := by cases x; cases y; simp
theorem eq144 (x y : Plc) (w : World) : (Op.equal 144 x.v y.v).run Tryz.prog w = .ok (decide (x = y)) w := by
  simp only [Op.equal, Op.maxDepth]
  rw [show (10000 : Nat) = 9999 + 1 from rfl, run_equalIn_struct (P := Tryz.prog) w 9999 144 _ _ (by kernel_rfl) (by kernel_rfl), fields144, Tryz.underlying144]
  simp [go_sem, Op.eqFields]
  go_simp
  simp only [Plc.eq_iff]
  repeat' split
  all_goals simp_all
theorem chk3 (e : Bool) (n : Nat) (a : Int) (w : World) : (Instr.checkKey e (n + 1) 3 (.int .i64 a)).run Tryz.prog w = .ok () w := MapKept.run_checkKey Tryz.underlying3 (d := .int .i64) (k := .int .i64 a) rfl e n
theorem chk4 (e : Bool) (n : Nat) (a : Bool) (w : World) : (Instr.checkKey e (n + 1) 4 (.bool a)).run Tryz.prog w = .ok () w := MapKept.run_checkKey Tryz.underlying4 (d := .bool) (k := .bool a) trivial e n
theorem chk76 (e : Bool) (n : Nat) (x : V4) (w : World) : (Instr.checkKey e (n + 1 + 1) 76 x.v).run Tryz.prog w = .ok () w := by
  obtain ⟨a, b, c, d⟩ := x
  obtain ⟨i, hi⟩ := info3
  simp only [Instr.checkKey, Sem.run_bind, run_underlying Tryz.underlying76, Result.andThen_ok]
  simp [Std.Legacy.Range.forIn_eq_forIn_range', Std.Legacy.Range.size, List.range', run_sizeOf w hi, show Tryz.prog.cellsOf 3 = 1 from by kernel_rfl, part3 (cs := #[.int .i64 a, .int .i64 b, .int .i64 c, .int .i64 d]) (o := 0) rfl, part3 (cs := #[.int .i64 a, .int .i64 b, .int .i64 c, .int .i64 d]) (o := 1) rfl, part3 (cs := #[.int .i64 a, .int .i64 b, .int .i64 c, .int .i64 d]) (o := 2) rfl, part3 (cs := #[.int .i64 a, .int .i64 b, .int .i64 c, .int .i64 d]) (o := 3) rfl, chk3 e n, Result.andThen]
theorem chk144 (e : Bool) (n : Nat) (x : Plc) (w : World) : (Instr.checkKey e (n + 1 + 1) 144 x.v).run Tryz.prog w = .ok () w := by
  obtain ⟨a, b⟩ := x
  simp only [Instr.checkKey, Sem.run_bind, run_underlying Tryz.underlying144, Result.andThen_ok]
  simp [part4 (cs := #[.bool a, .int .i64 b]) (o := 0) rfl, part3 (cs := #[.bool a, .int .i64 b]) (o := 1) rfl, chk3 e n, chk4 e n a w, Result.andThen]
theorem stays_of {v : Value} (h : ∀ n, Instr.sameBits (n + 1 + 1) v v = true) (w : World) : (Instr.keyThatStays v v).run Tryz.prog w = .ok v w := by
  have h' : Instr.sameBits 10000 v v = true := h 9998
  simp only [Instr.keyThatStays, h', if_true]
  rfl
theorem key76 : KeyC Tryz.prog 76 V4.v anyK where
  chk := fun e a w => chk76 e 9998 a w
  find := fun a es w ha h => key_asking (ok := anyK) Tryz.underlying76 (fun a v => by cases v <;> rfl) (fun a b w _ _ => ⟨_, eq76 a b w, by cases a; cases b; simp; omega⟩) a es w ha h
  stays := fun a w => stays_of (by simp [Instr.sameBits]) w
  inj := fun a b h => by cases a; cases b; simpa using h
theorem key144 : KeyC Tryz.prog 144 Plc.v anyK where
  chk := fun e a w => chk144 e 9998 a w
  find := fun a es w ha h => key_asking (ok := anyK) Tryz.underlying144 (fun a v => by cases v <;> rfl) (fun a b w _ _ => ⟨_, eq144 a b w, by cases a; cases b; simp; constructor <;> rintro ⟨h1, h2⟩ <;> exact ⟨h1.symm, h2.symm⟩⟩) a es w ha h
  stays := fun a w => stays_of (by simp [Instr.sameBits]) w
  inj := fun a b h => by cases a; cases b; simpa using h
theorem info94 : ∃ j, Tryz.prog.info? 94 = some j ∧ j.size ≠ 0 := by
  have h : (Tryz.prog.info? 94).map (·.size) = some 2 := by kernel_rfl
  obtain ⟨j, h1, h2⟩ := Option.map_eq_some_iff.1 h
  exact ⟨j, h1, by rw [h2]; decide⟩
theorem eqP' {a b : Nat} {w : World} (d : Nat) (ha : isGrp w a) (hb : isGrp w b) : (Op.equalIn (d + 1) 81 (gptr a) (gptr b)).run Tryz.prog w = .ok (decide (a = b)) w := by
  obtain ⟨ca, ha⟩ := ha
  obtain ⟨cb, hb⟩ := hb
  obtain ⟨j, hj, hs⟩ := info94
  by_cases h : a = b
  · subst h
    rw [decide_eq_true rfl]
    simp [Op.equalIn, run_underlying Tryz.underlying81, sizeOf, typeInfo, hj, run_sameAddr_same, hs]
  · rw [decide_eq_false h]
    have hne : (⟨a, 0, none⟩ : Addr) ≠ ⟨b, 0, none⟩ := by intro e; injection e with e; exact h e
    have hr := run_sameAddr_other (P := Tryz.prog) w (a := ⟨a, 0, none⟩) (b := ⟨b, 0, none⟩) hne ha hb
    simp [Op.equalIn, run_underlying Tryz.underlying81, sizeOf, typeInfo, hj, hs, hr]
theorem eqP {a b : Nat} {w : World} (ha : isGrp w a) (hb : isGrp w b) : (Op.equal 81 (gptr a) (gptr b)).run Tryz.prog w = .ok (decide (a = b)) w := eqP' 9999 ha hb
theorem chk81 (e : Bool) (n : Nat) (a : Nat) (w : World) : (Instr.checkKey e (n + 1) 81 (gptr a)).run Tryz.prog w = .ok () w := by simp [Instr.checkKey, run_underlying Tryz.underlying81]
theorem key81 : KeyC Tryz.prog 81 gptr isGrp where
  chk := fun e a w => chk81 e 9999 a w
  find := fun a es w ha h => key_asking (ok := isGrp) Tryz.underlying81 (fun a v => by cases v <;> rfl) (fun a b w ha hb => ⟨_, eqP ha hb, by simp; omega⟩) a es w ha h
  stays := fun a w => stays_of (by simp [Instr.sameBits]) w
  inj := fun a b h => by simpa using h
theorem mk140 (w : World) : (Instr.makeMap 140 none).run Tryz.prog w = .ok (.map (some w.heap.size)) (w.alloc (.map #[] 0)) := by kernel_rfl
theorem mk74 (w : World) : (Instr.makeMap 74 none).run Tryz.prog w = .ok (.map (some w.heap.size)) (w.alloc (.map #[] 0)) := by kernel_rfl
theorem mk84 (w : World) : (Instr.makeMap 84 none).run Tryz.prog w = .ok (.map (some w.heap.size)) (w.alloc (.map #[] 0)) := by kernel_rfl
end Go.Proofs.YtjiojpoiocdnmaaGreat
/- A struct of four or five cells stored. No program in sight. -/
set_option linter.unusedSimpArgs false
set_option linter.unusedVariables false
namespace Go.Proofs.YtjiojpoiocdnmaaGreat
open Go.RowKit
def set4 (w : World) (b : Nat) (v0 v1 v2 v3 : Value) : World := (((w.setCell ⟨b, 0, none⟩ v0).setCell ⟨b, 1, none⟩ v1).setCell ⟨b, 2, none⟩ v2).setCell ⟨b, 3, none⟩ v3
theorem Blk.put4 {w : World} {b : Nat} {a0 a1 a2 a3 : Value} (h : Blk w b [a0, a1, a2, a3]) (v0 v1 v2 v3 : Value) : Blk (set4 w b v0 v1 v2 v3) b [v0, v1, v2, v3] :=
  (((h.set (j := 0) (by simp) v0).set (j := 1) (by simp) v1).set (j := 2) (by simp) v2).set (j := 3) (by simp) v3
theorem ext_set4 {a b : World} (h : Below a.heap.size a b) (c : Nat) (v0 v1 v2 v3 : Value) (hc : a.heap.size ≤ c) : Below a.heap.size a (set4 b c v0 v1 v2 v3) :=
  below_set (below_set (below_set (below_set h ⟨c, 0, none⟩ v0 hc) ⟨c, 1, none⟩ v1 hc) ⟨c, 2, none⟩ v2 hc) ⟨c, 3, none⟩ v3 hc
theorem Blk.keepB {w w' : World} {b : Nat} {cs : List Value} (h : Blk w b cs) (hb : w'.heap[b]? = w.heap[b]?) : Blk w' b cs :=
  ⟨by have := h.lt; have h1 : w'.heap[b]? = some w.heap[b] := hb.trans (Array.getElem?_eq_getElem this); exact (Array.getElem?_eq_some_iff.1 h1).1,
    fun j v hj => (World.cell?_of_block (w := w) (a := ⟨b, j, none⟩) hb).trans (h.c j v hj), fun j => (World.frozen?_of_block (w := w) (a := ⟨b, j, none⟩) hb).trans (h.f j)⟩
/-- append to a row of the call's own, what comes out named. -/
theorem Own.append_k {α : Type} {w w0 : World} {enc : α → List Value} {sz : Nat} {e : TypeId} {v : Value} {l : List α} {P : Program} {t : TypeId} {b : Nat} (I : EInfo P t e enc sz b) (ty : TypeId) (h : Own w w0.heap.size e enc sz v l) (hE : Below w0.heap.size w0 w) {B : Option Addr} {ys : List α} {m : Nat} (hm : m = ys.length) (c : Nat) (hs : Slc w enc sz B ys)
    (r : List α) (hr : l ++ ys = r) (k : Nat) (hk : r.length = k) (hby : k * b ≤ 140737488355328) (hml : k ≤ maxLen) :
    ∃ v' w', (Builtin.append_ #[t, t] ty #[v, .slice B m c]).run P w = .ok v' w' ∧ ∃ A c, v' = .slice A k c ∧ Own w' w0.heap.size e enc sz (.slice A k c) r ∧ Below w0.heap.size w0 w' ∧ w.grownBy w' v.ownBlock ∧ k ≤ c ∧ c ≤ maxLen := by
  subst hr hk
  exact h.append_to I ty hE hm c hs (by rw [← List.length_append]; exact hby) (by rw [← List.length_append]; exact hml)
end Go.Proofs.YtjiojpoiocdnmaaGreat
