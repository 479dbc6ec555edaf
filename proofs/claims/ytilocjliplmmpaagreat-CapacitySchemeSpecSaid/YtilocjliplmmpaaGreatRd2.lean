/- How the arguments of the laws of capacity read. -/
import Derived.Test.YtilocjliplmmpaaGreatPA
import Derived.Test.YtilocjliplmmpaaGreatProg
import Derived.ChangeArms
set_option linter.unusedSimpArgs false
set_option linter.unusedVariables false
namespace Go.Proofs.YtilocjliplmmpaaGreat
open Go.RowKit Go.ChangeShapes Go.WideShapes Go.Deep
theorem reads_head {P : Program} {t e : TypeId} (ht : P.underlying t = some (.slice e)) : Reads P t (fun s : SH => [.slice s.A s.n s.c]) (fun _ s => s.n ≤ s.c ∧ s.c ≤ maxLen) := by
  intro H encH w base spare held fuel cs x h
  rcases open_slice ht h with ⟨h0, _⟩ | ⟨a, len, cap, m, n, D, Pl, hcs, hb, hl, hm, hmm, hx, hi⟩
  · exact ⟨⟨none, 0, 0⟩, h0, Nat.le_refl _, Nat.zero_le _⟩
  · exact ⟨⟨some a, len, cap⟩, hcs, by omega, by omega⟩
theorem reads_string {P : Program} {t : TypeId} (ht : P.underlying t = some .string) : Reads P t (fun s : ByteArray => [.string s]) (fun _ _ => True) := by
  intro H encH w base spare held fuel cs x h
  obtain ⟨s, h1, _⟩ := DataW.trod_string ht h
  exact ⟨s, h1, trivial⟩
set_option maxRecDepth 100000 in
theorem reads_bools : Reads Tryz.prog 45 (SliceOf.enc (α := Bool)) (SliceOf.ok bc 1 (fun _ _ => True)) :=
  reads_slice Tryz.underlying45 (reads_bool Tryz.underlying4) (by kernel_rfl) (by decide) (fun _ => rfl)
set_option maxRecDepth 100000 in
theorem reads_Sp : Reads Tryz.prog 58 Sp.cells Sp.ok := by
  intro H encH w base spare held fuel cs x h
  obtain ⟨xs, n, _, _, hl, hxl, hf⟩ := DataW.trod_struct Tryz.underlying58 h
  have hc : cs.length = 2 := hl.trans (by kernel_rfl)
  have hx : xs.length = 2 := hxl
  obtain ⟨a0, e0, q0⟩ := seg (reads_int Tryz.underlying3) 0 1 rfl rfl (by kernel_rfl) (hf 0 _ rfl) (by omega)
  obtain ⟨a1, e1, q1⟩ := seg (reads_int Tryz.underlying3) 1 1 rfl rfl (by kernel_rfl) (hf 1 _ rfl) (by omega)
  match cs, hc with
  | [c0, c1], _ =>
    simp [SliceOf.enc] at e0 e1
    exact ⟨⟨a0, a1⟩, by simp [Sp.cells, e0, e1], trivial⟩
theorem reads_Sps : Reads Tryz.prog 69 (SliceOf.enc (α := Sp)) (SliceOf.ok Sp.cells 2 Sp.ok) :=
  reads_slice Tryz.underlying69 reads_Sp (by kernel_rfl) (by decide) (fun _ => rfl)
set_option maxRecDepth 100000 in
theorem reads_Lg : Reads Tryz.prog 71 Lg.cells Lg.ok := by
  intro H encH w base spare held fuel cs x h
  obtain ⟨xs, n, _, _, hl, hxl, hf⟩ := DataW.trod_struct Tryz.underlying71 h
  have hc : cs.length = 4 := hl.trans (by kernel_rfl)
  have hx : xs.length = 4 := hxl
  obtain ⟨a0, e0, q0⟩ := seg (reads_int Tryz.underlying3) 0 1 rfl rfl (by kernel_rfl) (hf 0 _ rfl) (by omega)
  obtain ⟨a1, e1, q1⟩ := seg (reads_int Tryz.underlying3) 1 1 rfl rfl (by kernel_rfl) (hf 1 _ rfl) (by omega)
  obtain ⟨a2, e2, q2⟩ := seg (reads_int Tryz.underlying3) 2 1 rfl rfl (by kernel_rfl) (hf 2 _ rfl) (by omega)
  obtain ⟨a3, e3, q3⟩ := seg reads_Sps 3 1 rfl rfl (by kernel_rfl) (hf 3 _ rfl) (by omega)
  match cs, hc with
  | [c0, c1, c2, c3], _ =>
    simp [SliceOf.enc] at e0 e1 e2 e3
    exact ⟨⟨a0, a1, a2, a3⟩, by simp [Lg.cells, e0, e1, e2, e3], q3⟩
theorem reads_Lgs : Reads Tryz.prog 66 (SliceOf.enc (α := Lg)) (SliceOf.ok Lg.cells 4 Lg.ok) :=
  reads_slice Tryz.underlying66 reads_Lg (by kernel_rfl) (by decide) (fun _ => rfl)
set_option maxRecDepth 100000 in
theorem reads_Wy : Reads Tryz.prog 68 Wy.cells Wy.ok := by
  intro H encH w base spare held fuel cs x h
  obtain ⟨xs, n, _, _, hl, hxl, hf⟩ := DataW.trod_struct Tryz.underlying68 h
  have hc : cs.length = 3 := hl.trans (by kernel_rfl)
  have hx : xs.length = 3 := hxl
  obtain ⟨a0, e0, q0⟩ := seg (reads_int Tryz.underlying3) 0 1 rfl rfl (by kernel_rfl) (hf 0 _ rfl) (by omega)
  obtain ⟨a1, e1, q1⟩ := seg (reads_int Tryz.underlying3) 1 1 rfl rfl (by kernel_rfl) (hf 1 _ rfl) (by omega)
  obtain ⟨a2, e2, q2⟩ := seg reads_Lgs 2 1 rfl rfl (by kernel_rfl) (hf 2 _ rfl) (by omega)
  match cs, hc with
  | [c0, c1, c2], _ =>
    simp [SliceOf.enc] at e0 e1 e2
    exact ⟨⟨a0, a1, a2⟩, by simp [Wy.cells, e0, e1, e2], q2⟩
theorem reads_Spss : Reads Tryz.prog 72 (SliceOf.enc (α := SliceOf Sp)) (SliceOf.ok SliceOf.enc 1 (SliceOf.ok Sp.cells 2 Sp.ok)) :=
  reads_slice Tryz.underlying72 reads_Sps (by kernel_rfl) (by decide) (fun _ => rfl)
set_option maxRecDepth 100000 in
theorem reads_Kd : Reads Tryz.prog 74 Kd.cells Kd.ok := by
  intro H encH w base spare held fuel cs x h
  obtain ⟨xs, n, _, _, hl, hxl, hf⟩ := DataW.trod_struct Tryz.underlying74 h
  have hc : cs.length = 6 := hl.trans (by kernel_rfl)
  have hx : xs.length = 6 := hxl
  obtain ⟨a0, e0, q0⟩ := seg (reads_int Tryz.underlying3) 0 1 rfl rfl (by kernel_rfl) (hf 0 _ rfl) (by omega)
  obtain ⟨a1, e1, q1⟩ := seg (reads_int Tryz.underlying3) 1 1 rfl rfl (by kernel_rfl) (hf 1 _ rfl) (by omega)
  obtain ⟨a2, e2, q2⟩ := seg (reads_int Tryz.underlying3) 2 1 rfl rfl (by kernel_rfl) (hf 2 _ rfl) (by omega)
  obtain ⟨a3, e3, q3⟩ := seg (reads_int Tryz.underlying3) 3 1 rfl rfl (by kernel_rfl) (hf 3 _ rfl) (by omega)
  obtain ⟨a4, e4, q4⟩ := seg (reads_int Tryz.underlying3) 4 1 rfl rfl (by kernel_rfl) (hf 4 _ rfl) (by omega)
  obtain ⟨a5, e5, q5⟩ := seg reads_Spss 5 1 rfl rfl (by kernel_rfl) (hf 5 _ rfl) (by omega)
  match cs, hc with
  | [c0, c1, c2, c3, c4, c5], _ =>
    simp [SliceOf.enc] at e0 e1 e2 e3 e4 e5
    exact ⟨⟨a0, a1, a2, a3, a4, a5⟩, by simp [Kd.cells, e0, e1, e2, e3, e4, e5], q5⟩
theorem reads_ints : Reads Tryz.prog 32 (SliceOf.enc (α := Int)) (SliceOf.ok ic 1 (fun _ n => (Lit.int .i64 n).wf = true)) :=
  reads_slice Tryz.underlying32 (reads_int Tryz.underlying3) (by kernel_rfl) (by decide) (fun _ => rfl)
set_option maxRecDepth 100000 in
theorem reads_Sec : Reads Tryz.prog 100 Sec.cells Sec.ok := by
  intro H encH w base spare held fuel cs x h
  obtain ⟨xs, n, _, _, hl, hxl, hf⟩ := DataW.trod_struct Tryz.underlying100 h
  have hc : cs.length = 5 := hl.trans (by kernel_rfl)
  have hx : xs.length = 5 := hxl
  obtain ⟨a0, e0, q0⟩ := seg (reads_string Tryz.underlying9) 0 1 rfl rfl (by kernel_rfl) (hf 0 _ rfl) (by omega)
  obtain ⟨a1, e1, q1⟩ := seg (reads_head Tryz.underlying96) 1 1 rfl rfl (by kernel_rfl) (hf 1 _ rfl) (by omega)
  obtain ⟨a2, e2, q2⟩ := seg reads_ints 2 1 rfl rfl (by kernel_rfl) (hf 2 _ rfl) (by omega)
  obtain ⟨a3, e3, q3⟩ := seg (reads_int Tryz.underlying3) 3 1 rfl rfl (by kernel_rfl) (hf 3 _ rfl) (by omega)
  obtain ⟨a4, e4, q4⟩ := seg (reads_int Tryz.underlying3) 4 1 rfl rfl (by kernel_rfl) (hf 4 _ rfl) (by omega)
  match cs, hc with
  | [c0, c1, c2, c3, c4], _ =>
    simp [SliceOf.enc] at e0 e1 e2 e3 e4
    exact ⟨⟨a0, a1, a2, a3, a4⟩, by simp [Sec.cells, e0, e1, e2, e3, e4], ⟨q1.1, q1.2, q2⟩⟩
set_option maxRecDepth 100000 in
theorem reads_Cfg : Reads Tryz.prog 98 Cfg.cells Cfg.ok := by
  intro H encH w base spare held fuel cs x h
  obtain ⟨xs, n, _, _, hl, hxl, hf⟩ := DataW.trod_struct Tryz.underlying98 h
  have hc : cs.length = 3 := hl.trans (by kernel_rfl)
  have hx : xs.length = 3 := hxl
  obtain ⟨a0, e0, q0⟩ := seg (reads_string Tryz.underlying9) 0 1 rfl rfl (by kernel_rfl) (hf 0 _ rfl) (by omega)
  obtain ⟨a1, e1, q1⟩ := seg (reads_head Tryz.underlying96) 1 1 rfl rfl (by kernel_rfl) (hf 1 _ rfl) (by omega)
  obtain ⟨a2, e2, q2⟩ := seg reads_ints 2 1 rfl rfl (by kernel_rfl) (hf 2 _ rfl) (by omega)
  match cs, hc with
  | [c0, c1, c2], _ =>
    simp [SliceOf.enc] at e0 e1 e2
    exact ⟨⟨a0, a1, a2⟩, by simp [Cfg.cells, e0, e1, e2], ⟨q1.1, q1.2, q2⟩⟩
set_option maxRecDepth 100000 in
theorem reads_Chg : Reads Tryz.prog 34 Chg.cells Chg.ok := by
  intro H encH w base spare held fuel cs x h
  obtain ⟨xs, n, _, _, hl, hxl, hf⟩ := DataW.trod_struct Tryz.underlying34 h
  have hc : cs.length = 3 := hl.trans (by kernel_rfl)
  have hx : xs.length = 3 := hxl
  obtain ⟨a0, e0, q0⟩ := seg (reads_int Tryz.underlying3) 0 1 rfl rfl (by kernel_rfl) (hf 0 _ rfl) (by omega)
  obtain ⟨a1, e1, q1⟩ := seg (reads_int Tryz.underlying3) 1 1 rfl rfl (by kernel_rfl) (hf 1 _ rfl) (by omega)
  obtain ⟨a2, e2, q2⟩ := seg reads_ints 2 1 rfl rfl (by kernel_rfl) (hf 2 _ rfl) (by omega)
  match cs, hc with
  | [c0, c1, c2], _ =>
    simp [SliceOf.enc] at e0 e1 e2
    exact ⟨⟨a0, a1, a2⟩, by simp [Chg.cells, e0, e1, e2], q2⟩
theorem reads_Chgs : Reads Tryz.prog 29 (SliceOf.enc (α := Chg)) (SliceOf.ok Chg.cells 3 Chg.ok) :=
  reads_slice Tryz.underlying29 reads_Chg (by kernel_rfl) (by decide) (fun _ => rfl)
set_option maxRecDepth 100000 in
theorem reads_Sch : Reads Tryz.prog 31 Sch.cells Sch.ok := by
  intro H encH w base spare held fuel cs x h
  obtain ⟨xs, n, _, _, hl, hxl, hf⟩ := DataW.trod_struct Tryz.underlying31 h
  have hc : cs.length = 1 := hl.trans (by kernel_rfl)
  have hx : xs.length = 1 := hxl
  obtain ⟨a0, e0, q0⟩ := seg reads_Chgs 0 1 rfl rfl (by kernel_rfl) (hf 0 _ rfl) (by omega)
  match cs, hc with
  | [c0], _ =>
    simp [SliceOf.enc] at e0
    exact ⟨⟨a0⟩, by simp [Sch.cells, e0], q0⟩
theorem reads_Secs : Reads Tryz.prog 22 (SliceOf.enc (α := Sec)) (SliceOf.ok Sec.cells 5 Sec.ok) :=
  reads_slice Tryz.underlying22 reads_Sec (by kernel_rfl) (by decide) (fun _ => rfl)
theorem reads_Cfgs : Reads Tryz.prog 23 (SliceOf.enc (α := Cfg)) (SliceOf.ok Cfg.cells 3 Cfg.ok) :=
  reads_slice Tryz.underlying23 reads_Cfg (by kernel_rfl) (by decide) (fun _ => rfl)
theorem reads_Wys : Reads Tryz.prog 24 (SliceOf.enc (α := Wy)) (SliceOf.ok Wy.cells 3 Wy.ok) :=
  reads_slice Tryz.underlying24 reads_Wy (by kernel_rfl) (by decide) (fun _ => rfl)
theorem reads_intss : Reads Tryz.prog 25 (SliceOf.enc (α := SliceOf Int)) (SliceOf.ok SliceOf.enc 1 (SliceOf.ok ic 1 (fun _ n => (Lit.int .i64 n).wf = true))) :=
  reads_slice Tryz.underlying25 reads_ints (by kernel_rfl) (by decide) (fun _ => rfl)
theorem reads_Kds : Reads Tryz.prog 26 (SliceOf.enc (α := Kd)) (SliceOf.ok Kd.cells 6 Kd.ok) :=
  reads_slice Tryz.underlying26 reads_Kd (by kernel_rfl) (by decide) (fun _ => rfl)
set_option maxRecDepth 100000 in
theorem reads_Tab : Reads Tryz.prog 28 Tab.cells Tab.ok := by
  intro H encH w base spare held fuel cs x h
  obtain ⟨xs, n, _, _, hl, hxl, hf⟩ := DataW.trod_struct Tryz.underlying28 h
  have hc : cs.length = 6 := hl.trans (by kernel_rfl)
  have hx : xs.length = 6 := hxl
  obtain ⟨a0, e0, q0⟩ := seg (reads_int Tryz.underlying3) 0 1 rfl rfl (by kernel_rfl) (hf 0 _ rfl) (by omega)
  obtain ⟨a1, e1, q1⟩ := seg reads_Secs 1 1 rfl rfl (by kernel_rfl) (hf 1 _ rfl) (by omega)
  obtain ⟨a2, e2, q2⟩ := seg reads_Cfgs 2 1 rfl rfl (by kernel_rfl) (hf 2 _ rfl) (by omega)
  obtain ⟨a3, e3, q3⟩ := seg reads_Wys 3 1 rfl rfl (by kernel_rfl) (hf 3 _ rfl) (by omega)
  obtain ⟨a4, e4, q4⟩ := seg reads_intss 4 1 rfl rfl (by kernel_rfl) (hf 4 _ rfl) (by omega)
  obtain ⟨a5, e5, q5⟩ := seg reads_Kds 5 1 rfl rfl (by kernel_rfl) (hf 5 _ rfl) (by omega)
  match cs, hc with
  | [c0, c1, c2, c3, c4, c5], _ =>
    simp [SliceOf.enc] at e0 e1 e2 e3 e4 e5
    exact ⟨⟨a0, a1, a2, a3, a4, a5⟩, by simp [Tab.cells, e0, e1, e2, e3, e4, e5], ⟨q1, q2, q3, q4, q5⟩⟩
set_option maxRecDepth 100000 in
theorem reads_Cut : Reads Tryz.prog 60 Cut.cells Cut.ok := by
  intro H encH w base spare held fuel cs x h
  obtain ⟨xs, n, _, _, hl, hxl, hf⟩ := DataW.trod_struct Tryz.underlying60 h
  have hc : cs.length = 5 := hl.trans (by kernel_rfl)
  have hx : xs.length = 4 := hxl
  obtain ⟨a0, e0, q0⟩ := seg (reads_bool Tryz.underlying4) 0 1 rfl rfl (by kernel_rfl) (hf 0 _ rfl) (by omega)
  obtain ⟨a1, e1, q1⟩ := seg (reads_int Tryz.underlying3) 1 1 rfl rfl (by kernel_rfl) (hf 1 _ rfl) (by omega)
  obtain ⟨a2, e2, q2⟩ := seg reads_Sp 2 2 rfl rfl (by kernel_rfl) (hf 2 _ rfl) (by omega)
  obtain ⟨a3, e3, q3⟩ := seg (reads_int Tryz.underlying3) 4 1 rfl rfl (by kernel_rfl) (hf 3 _ rfl) (by omega)
  match cs, hc with
  | [c0, c1, c2, c3, c4], _ =>
    simp [SliceOf.enc, Sp.cells] at e0 e1 e2 e3
    exact ⟨⟨a0, a1, a2.f, a2.t, a3⟩, by simp [Cut.cells, e0, e1, e2, e3], trivial⟩
theorem reads_Cuts : Reads Tryz.prog 61 (SliceOf.enc (α := Cut)) (SliceOf.ok Cut.cells 5 Cut.ok) :=
  reads_slice Tryz.underlying61 reads_Cut (by kernel_rfl) (by decide) (fun _ => rfl)
set_option maxRecDepth 100000 in
theorem reads_Nd : Reads Tryz.prog 63 Nd.cells Nd.ok := by
  intro H encH w base spare held fuel cs x h
  obtain ⟨xs, n, _, _, hl, hxl, hf⟩ := DataW.trod_struct Tryz.underlying63 h
  have hc : cs.length = 3 := hl.trans (by kernel_rfl)
  have hx : xs.length = 3 := hxl
  obtain ⟨a0, e0, q0⟩ := seg (reads_int Tryz.underlying3) 0 1 rfl rfl (by kernel_rfl) (hf 0 _ rfl) (by omega)
  obtain ⟨a1, e1, q1⟩ := seg (reads_int Tryz.underlying3) 1 1 rfl rfl (by kernel_rfl) (hf 1 _ rfl) (by omega)
  obtain ⟨a2, e2, q2⟩ := seg reads_Cuts 2 1 rfl rfl (by kernel_rfl) (hf 2 _ rfl) (by omega)
  match cs, hc with
  | [c0, c1, c2], _ =>
    simp [SliceOf.enc] at e0 e1 e2
    exact ⟨⟨a0, a1, a2⟩, by simp [Nd.cells, e0, e1, e2], q2⟩
set_option maxRecDepth 100000 in
theorem reads_Cel : Reads Tryz.prog 47 Cel.cells Cel.ok := by
  intro H encH w base spare held fuel cs x h
  obtain ⟨xs, n, _, _, hl, hxl, hf⟩ := DataW.trod_struct Tryz.underlying47 h
  have hc : cs.length = 3 := hl.trans (by kernel_rfl)
  have hx : xs.length = 3 := hxl
  obtain ⟨a0, e0, q0⟩ := seg (reads_bool Tryz.underlying4) 0 1 rfl rfl (by kernel_rfl) (hf 0 _ rfl) (by omega)
  obtain ⟨a1, e1, q1⟩ := seg (reads_int Tryz.underlying3) 1 1 rfl rfl (by kernel_rfl) (hf 1 _ rfl) (by omega)
  obtain ⟨a2, e2, q2⟩ := seg (reads_int Tryz.underlying3) 2 1 rfl rfl (by kernel_rfl) (hf 2 _ rfl) (by omega)
  match cs, hc with
  | [c0, c1, c2], _ =>
    simp [SliceOf.enc] at e0 e1 e2
    exact ⟨⟨a0, a1, a2⟩, by simp [Cel.cells, e0, e1, e2], trivial⟩

end Go.Proofs.YtilocjliplmmpaaGreat
