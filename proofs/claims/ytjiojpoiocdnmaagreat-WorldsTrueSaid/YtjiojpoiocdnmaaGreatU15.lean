/- How the arguments of the laws of worlds read. -/
import Derived.Test.YtjiojpoiocdnmaaGreatU7
import Derived.Test.YtjiojpoiocdnmaaGreatU0
import Derived.Test.YtjiojpoiocdnmaaGreatGM
import Derived.LaidEql
import Derived.Laws.StructEq
import Derived.ChangeKeysEq
import Derived.Test.YtjiojpoiocdnmaaGreatU2
import Derived.Test.YtjiojpoiocdnmaaGreatU9
import Derived.Test.YtjiojpoiocdnmaaGreatHN
set_option linter.unusedSimpArgs false
set_option linter.unusedVariables false
namespace Go.Proofs.YtjiojpoiocdnmaaGreat
open Go.RowKit Go.ChangeShapes Go.WideShapes Go.Deep
set_option maxRecDepth 100000 in
theorem reads_Pth : Reads Tryz.prog 71 Pth.cells Pth.ok := by
  intro H encH w base spare held fuel cs x h
  obtain ⟨xs, n, _, _, hl, hxl, hf⟩ := DataW.trod_struct Tryz.underlying71 h
  have hc : cs.length = 2 := hl.trans (by kernel_rfl)
  have hx : xs.length = 2 := hxl
  obtain ⟨a0, e0, q0⟩ := seg (reads_int Tryz.underlying3) 0 1 rfl rfl (by kernel_rfl) (hf 0 _ rfl) (by omega)
  obtain ⟨a1, e1, q1⟩ := seg reads_ints 1 1 rfl rfl (by kernel_rfl) (hf 1 _ rfl) (by omega)
  match cs, hc with
  | [c0, c1], _ =>
    simp [SliceOf.enc] at e0 e1
    exact ⟨⟨a0, a1⟩, by simp [Pth.cells, e0, e1], q1⟩
set_option maxRecDepth 100000 in
theorem reads_Opt : Reads Tryz.prog 48 Opt.cells Opt.ok := by
  intro H encH w base spare held fuel cs x h
  obtain ⟨xs, n, _, _, hl, hxl, hf⟩ := DataW.trod_struct Tryz.underlying48 h
  have hc : cs.length = 4 := hl.trans (by kernel_rfl)
  have hx : xs.length = 4 := hxl
  obtain ⟨a0, e0, q0⟩ := seg (reads_int Tryz.underlying3) 0 1 rfl rfl (by kernel_rfl) (hf 0 _ rfl) (by omega)
  obtain ⟨a1, e1, q1⟩ := seg (reads_int Tryz.underlying3) 1 1 rfl rfl (by kernel_rfl) (hf 1 _ rfl) (by omega)
  obtain ⟨a2, e2, q2⟩ := seg (reads_int Tryz.underlying3) 2 1 rfl rfl (by kernel_rfl) (hf 2 _ rfl) (by omega)
  obtain ⟨a3, e3, q3⟩ := seg (reads_bool Tryz.underlying4) 3 1 rfl rfl (by kernel_rfl) (hf 3 _ rfl) (by omega)
  match cs, hc with
  | [c0, c1, c2, c3], _ =>
    simp [SliceOf.enc] at e0 e1 e2 e3
    exact ⟨⟨a0, a1, a2, a3⟩, by simp [Opt.cells, e0, e1, e2, e3], trivial⟩
set_option maxRecDepth 100000 in
theorem reads_Flt : Reads Tryz.prog 46 Flt.cells Flt.ok := by
  intro H encH w base spare held fuel cs x h
  obtain ⟨xs, n, _, _, hl, hxl, hf⟩ := DataW.trod_struct Tryz.underlying46 h
  have hc : cs.length = 8 := hl.trans (by kernel_rfl)
  have hx : xs.length = 7 := hxl
  obtain ⟨a0, e0, q0⟩ := seg (reads_int Tryz.underlying3) 0 1 rfl rfl (by kernel_rfl) (hf 0 _ rfl) (by omega)
  obtain ⟨a1, e1, q1⟩ := seg (reads_int Tryz.underlying3) 1 1 rfl rfl (by kernel_rfl) (hf 1 _ rfl) (by omega)
  obtain ⟨a2, e2, q2⟩ := seg (reads_int Tryz.underlying3) 2 1 rfl rfl (by kernel_rfl) (hf 2 _ rfl) (by omega)
  obtain ⟨a3, e3, q3⟩ := seg (reads_string Tryz.underlying9) 3 1 rfl rfl (by kernel_rfl) (hf 3 _ rfl) (by omega)
  obtain ⟨a4, e4, q4⟩ := seg (reads_head Tryz.underlying39) 4 1 rfl rfl (by kernel_rfl) (hf 4 _ rfl) (by omega)
  obtain ⟨a5, e5, q5⟩ := seg reads_Sp 5 2 rfl rfl (by kernel_rfl) (hf 5 _ rfl) (by omega)
  obtain ⟨a6, e6, q6⟩ := seg (reads_bool Tryz.underlying4) 7 1 rfl rfl (by kernel_rfl) (hf 6 _ rfl) (by omega)
  match cs, hc with
  | [c0, c1, c2, c3, c4, c5, c6, c7], _ =>
    simp [SliceOf.enc, Sp.cells] at e0 e1 e2 e3 e4 e5 e6
    exact ⟨⟨a0, a1, a2, a3, a4, a5, a6⟩, by simp [Flt.cells, e0, e1, e2, e3, e4, e5, e6], ⟨q4.1, q4.2, q5⟩⟩
theorem reads_Pths : Reads Tryz.prog 49 (SliceOf.enc (α := Pth)) (SliceOf.ok Pth.cells 2 Pth.ok) :=
  reads_slice Tryz.underlying49 reads_Pth (by kernel_rfl) (by decide) (fun _ => rfl)
set_option maxRecDepth 100000 in
theorem reads_Trk : Reads Tryz.prog 52 Trk.cells Trk.ok := by
  intro H encH w base spare held fuel cs x h
  obtain ⟨xs, n, _, _, hl, hxl, hf⟩ := DataW.trod_struct Tryz.underlying52 h
  have hc : cs.length = 14 := hl.trans (by kernel_rfl)
  have hx : xs.length = 4 := hxl
  obtain ⟨a0, e0, q0⟩ := seg reads_Flt 0 8 rfl rfl (by kernel_rfl) (hf 0 _ rfl) (by omega)
  obtain ⟨a1, e1, q1⟩ := seg reads_Opt 8 4 rfl rfl (by kernel_rfl) (hf 1 _ rfl) (by omega)
  obtain ⟨a2, e2, q2⟩ := seg reads_Pths 12 1 rfl rfl (by kernel_rfl) (hf 2 _ rfl) (by omega)
  obtain ⟨a3, e3, q3⟩ := seg (reads_head Tryz.underlying50) 13 1 rfl rfl (by kernel_rfl) (hf 3 _ rfl) (by omega)
  match cs, hc with
  | [c0, c1, c2, c3, c4, c5, c6, c7, c8, c9, c10, c11, c12, c13], _ =>
    simp [SliceOf.enc, Flt.cells, Opt.cells] at e0 e1 e2 e3
    exact ⟨⟨a0, a1, a2, a3⟩, by simp [Trk.cells, e0, e1, e2, e3], ⟨q0, q1, q2, q3.1, q3.2⟩⟩
set_option maxRecDepth 100000 in
theorem reads_Stn : Reads Tryz.prog 41 Stn.cells Stn.ok := by
  intro H encH w base spare held fuel cs x h
  obtain ⟨xs, n, _, _, hl, hxl, hf⟩ := DataW.trod_struct Tryz.underlying41 h
  have hc : cs.length = 3 := hl.trans (by kernel_rfl)
  have hx : xs.length = 3 := hxl
  obtain ⟨a0, e0, q0⟩ := seg reads_ints 0 1 rfl rfl (by kernel_rfl) (hf 0 _ rfl) (by omega)
  obtain ⟨a1, e1, q1⟩ := seg (reads_int Tryz.underlying3) 1 1 rfl rfl (by kernel_rfl) (hf 1 _ rfl) (by omega)
  obtain ⟨a2, e2, q2⟩ := seg (reads_int Tryz.underlying3) 2 1 rfl rfl (by kernel_rfl) (hf 2 _ rfl) (by omega)
  match cs, hc with
  | [c0, c1, c2], _ =>
    simp [SliceOf.enc] at e0 e1 e2
    exact ⟨⟨a0, a1, a2⟩, by simp [Stn.cells, e0, e1, e2], q0⟩
set_option maxRecDepth 100000 in
theorem reads_Rep : Reads Tryz.prog 55 Rep.cells Rep.ok := by
  intro H encH w base spare held fuel cs x h
  obtain ⟨xs, n, _, _, hl, hxl, hf⟩ := DataW.trod_struct Tryz.underlying55 h
  have hc : cs.length = 6 := hl.trans (by kernel_rfl)
  have hx : xs.length = 6 := hxl
  obtain ⟨a0, e0, q0⟩ := seg (reads_int Tryz.underlying3) 0 1 rfl rfl (by kernel_rfl) (hf 0 _ rfl) (by omega)
  obtain ⟨a1, e1, q1⟩ := seg (reads_int Tryz.underlying3) 1 1 rfl rfl (by kernel_rfl) (hf 1 _ rfl) (by omega)
  obtain ⟨a2, e2, q2⟩ := seg (reads_int Tryz.underlying3) 2 1 rfl rfl (by kernel_rfl) (hf 2 _ rfl) (by omega)
  obtain ⟨a3, e3, q3⟩ := seg (reads_int Tryz.underlying3) 3 1 rfl rfl (by kernel_rfl) (hf 3 _ rfl) (by omega)
  obtain ⟨a4, e4, q4⟩ := seg (reads_string Tryz.underlying9) 4 1 rfl rfl (by kernel_rfl) (hf 4 _ rfl) (by omega)
  obtain ⟨a5, e5, q5⟩ := seg (reads_int Tryz.underlying3) 5 1 rfl rfl (by kernel_rfl) (hf 5 _ rfl) (by omega)
  match cs, hc with
  | [c0, c1, c2, c3, c4, c5], _ =>
    simp [SliceOf.enc] at e0 e1 e2 e3 e4 e5
    exact ⟨⟨a0, a1, a2, a3, a4, a5⟩, by simp [Rep.cells, e0, e1, e2, e3, e4, e5], trivial⟩
theorem reads_Trks : Reads Tryz.prog 31 (SliceOf.enc (α := Trk)) (SliceOf.ok Trk.cells 14 Trk.ok) :=
  reads_slice Tryz.underlying31 reads_Trk (by kernel_rfl) (by decide) (fun _ => rfl)
theorem reads_Stns : Reads Tryz.prog 29 (SliceOf.enc (α := Stn)) (SliceOf.ok Stn.cells 3 Stn.ok) :=
  reads_slice Tryz.underlying29 reads_Stn (by kernel_rfl) (by decide) (fun _ => rfl)
end Go.Proofs.YtjiojpoiocdnmaaGreat
/- Kinds of keys: strings, vectors, places, pairs, groups. -/
set_option linter.unusedSimpArgs false
set_option linter.unusedVariables false
namespace Go.Proofs.YtjiojpoiocdnmaaGreat
open Go.RowKit Go.ChangeMaps
/-- Numbers of four stations. -/
structure V4 where
  a : Int
  b : Int
  c : Int
  d : Int
deriving DecidableEq
abbrev V4.v (x : V4) : Value := .agg #[.int .i64 x.a, .int .i64 x.b, .int .i64 x.c, .int .i64 x.d]
structure Plc where
  air : Bool
  ix : Int
deriving DecidableEq
abbrev Plc.v (x : Plc) : Value := .agg #[.bool x.air, .int .i64 x.ix]
structure P2 where
  a : Int
  b : Int
deriving DecidableEq
abbrev P2.v (x : P2) : Value := .agg #[.int .i64 x.a, .int .i64 x.b]
abbrev gptr (b : Nat) : Value := .pointer (some ⟨b, 0, none⟩)
def isGrp (w : World) (b : Nat) : Prop := ∃ cs, w.heap[b]? = some (.cells cs 94 (0, 0))
def anyK {κ : Type} (_ : World) (_ : κ) : Prop := True
theorem keyStr {P : Program} {kt : TypeId} (hk : P.underlying kt = some .string) : KeyC P kt (fun s : ByteArray => .string s) anyK where
  chk := fun e a w => MapKept.run_checkKey hk (d := .string) (k := .string a) trivial e 9999
  find := fun a es w _ h => by
    have hks : ∀ x ∈ es, MapKept.IsKey .string x.key := fun x hx => by
      obtain ⟨b, e, _⟩ := h x hx
      rw [e]; trivial
    rcases MapKept.findNow_spec (d := .string) (k := .string a) trivial es 0 hks with ⟨h1, h2⟩ | ⟨j, e0, h1, h2, h3⟩
    · exact .inl ⟨MapKept.run_findKey hk h1, h2⟩
    · exact .inr ⟨j, e0, by simpa using MapKept.run_findKey hk h1, h2, h3⟩
  stays := fun a w => MapKept.run_keyThatStays (d := .string) (k := .string a) trivial
  inj := fun a b h => by injection h
theorem part3 {cs : Array Value} {o : Nat} {v : Value} (h : cs[o]? = some v) (w : World) : (part 3 cs o).run Tryz.prog w = .ok v w := run_part_plain w (by kernel_rfl) h
theorem part4 {cs : Array Value} {o : Nat} {v : Value} (h : cs[o]? = some v) (w : World) : (part 4 cs o).run Tryz.prog w = .ok v w := run_part_plain w (by kernel_rfl) h
theorem eqI_step {d : Nat} {xs ys : Array Value} {j : Nat} {a b : Int} {js : List Nat} (hx : xs[j * 1]? = some (.int .i64 a)) (hy : ys[j * 1]? = some (.int .i64 b)) (w : World) :
    (Op.eqItems (d + 1) 3 1 xs ys (j :: js)).run Tryz.prog w = if a = b then (Op.eqItems (d + 1) 3 1 xs ys js).run Tryz.prog w else .ok false w := by
  simp only [Op.eqItems, Sem.run_bind, part3 hx, part3 hy, Result.andThen_ok, run_equalIn_int (P := Tryz.prog) w d 3 .i64 .i64 a b Tryz.underlying3]
  by_cases h : a = b
  · subst h; simp
  · simp [h]
theorem info3 : ∃ i, Tryz.prog.info? 3 = some i := Option.isSome_iff_exists.1 (by kernel_rfl)
theorem eq76 (x y : V4) (w : World) : (Op.equal 76 x.v y.v).run Tryz.prog w = .ok (decide (x = y)) w := by
  obtain ⟨a, b, c, d⟩ := x
  obtain ⟨a', b', c', d'⟩ := y
  obtain ⟨i, hi⟩ := info3
  simp only [Op.equal, Op.maxDepth]
  rw [show (10000 : Nat) = 9999 + 1 from rfl, run_equalIn_array w 9999 _ _ Tryz.underlying76 hi, show Tryz.prog.cellsOf 3 = 1 from by kernel_rfl, show List.range 4 = [0, 1, 2, 3] from rfl, show (9999 : Nat) = 9998 + 1 from rfl,
    eqI_step (a := a) (b := a') rfl rfl, eqI_step (a := b) (b := b') rfl rfl, eqI_step (a := c) (b := c') rfl rfl, eqI_step (a := d) (b := d') rfl rfl]
  simp only [Op.eqItems, Sem.run_pure]
  by_cases h1 : a = a' <;> by_cases h2 : b = b' <;> by_cases h3 : c = c' <;> by_cases h4 : d = d' <;> simp [h1, h2, h3, h4]
theorem fields144 : Tryz.prog.fieldsOf 144 = (match Tryz.prog.underlying 144 with | some (.struct fs) => fs | _ => #[]) := by kernel_rfl
theorem Plc.eq_iff (x y : Plc) : x = y ↔ x.air = y.air ∧ x.ix = y.ix := by cases x; cases y; simp
theorem eq144 (x y : Plc) (w : World) : (Op.equal 144 x.v y.v).run Tryz.prog w = .ok (decide (x = y)) w := by
  simp only [Op.equal, Op.maxDepth]
  rw [show (10000 : Nat) = 9999 + 1 from rfl, run_equalIn_struct (P := Tryz.prog) w 9999 144 _ _ (by kernel_rfl) (by kernel_rfl), fields144, Tryz.underlying144]
  simp [go_sem, Op.eqFields]
  go_simp
  simp only [Plc.eq_iff]
  repeat' split
  all_goals simp_all
theorem chk3 (e : Bool) (n : Nat) (a : Int) (w : World) : (Instr.checkKey e (n + 1) 3 (.int .i64 a)).run Tryz.prog w = .ok () w := MapKept.run_checkKey Tryz.underlying3 (d := .int .i64) (k := .int .i64 a) rfl e n
theorem chk4 (e : Bool) (n : Nat) (a : Bool) (w : World) : (Instr.checkKey e (n + 1) 4 (.bool a)).run Tryz.prog w = .ok () w := MapKept.run_checkKey Tryz.underlying4 (d := .bool) (k := .bool a) trivial e n
theorem chk76 (e : Bool) (n : Nat) (x : V4) (w : World) : (Instr.checkKey e (n + 1 + 1) 76 x.v).run Tryz.prog w = .ok () w := by
  obtain ⟨a, b, c, d⟩ := x
  obtain ⟨i, hi⟩ := info3
  simp only [Instr.checkKey, Sem.run_bind, run_underlying Tryz.underlying76, Result.andThen_ok]
  simp [Std.Legacy.Range.forIn_eq_forIn_range', Std.Legacy.Range.size, List.range', run_sizeOf w hi, show Tryz.prog.cellsOf 3 = 1 from by kernel_rfl, part3 (cs := #[.int .i64 a, .int .i64 b, .int .i64 c, .int .i64 d]) (o := 0) rfl, part3 (cs := #[.int .i64 a, .int .i64 b, .int .i64 c, .int .i64 d]) (o := 1) rfl, part3 (cs := #[.int .i64 a, .int .i64 b, .int .i64 c, .int .i64 d]) (o := 2) rfl, part3 (cs := #[.int .i64 a, .int .i64 b, .int .i64 c, .int .i64 d]) (o := 3) rfl, chk3 e n, Result.andThen]
theorem chk144 (e : Bool) (n : Nat) (x : Plc) (w : World) : (Instr.checkKey e (n + 1 + 1) 144 x.v).run Tryz.prog w = .ok () w := by
  obtain ⟨a, b⟩ := x
  simp only [Instr.checkKey, Sem.run_bind, run_underlying Tryz.underlying144, Result.andThen_ok]
  simp [part4 (cs := #[.bool a, .int .i64 b]) (o := 0) rfl, part3 (cs := #[.bool a, .int .i64 b]) (o := 1) rfl, chk3 e n, chk4 e n a w, Result.andThen]
theorem stays_of {v : Value} (h : ∀ n, Instr.sameBits (n + 1 + 1) v v = true) (w : World) : (Instr.keyThatStays v v).run Tryz.prog w = .ok v w := by
  have h' : Instr.sameBits 10000 v v = true := h 9998
  simp only [Instr.keyThatStays, h', if_true]
  rfl
theorem key76 : KeyC Tryz.prog 76 V4.v anyK where
  chk := fun e a w => chk76 e 9998 a w
  find := fun a es w ha h => key_asking (ok := anyK) Tryz.underlying76 (fun a v => by cases v <;> rfl) (fun a b w _ _ => ⟨_, eq76 a b w, by cases a; cases b; simp; omega⟩) a es w ha h
  stays := fun a w => stays_of (by simp [Instr.sameBits]) w
  inj := fun a b h => by cases a; cases b; simpa using h
theorem key144 : KeyC Tryz.prog 144 Plc.v anyK where
  chk := fun e a w => chk144 e 9998 a w
  find := fun a es w ha h => key_asking (ok := anyK) Tryz.underlying144 (fun a v => by cases v <;> rfl) (fun a b w _ _ => ⟨_, eq144 a b w, by cases a; cases b; simp; constructor <;> rintro ⟨h1, h2⟩ <;> exact ⟨h1.symm, h2.symm⟩⟩) a es w ha h
  stays := fun a w => stays_of (by simp [Instr.sameBits]) w
  inj := fun a b h => by cases a; cases b; simpa using h
theorem info94 : ∃ j, Tryz.prog.info? 94 = some j ∧ j.size ≠ 0 := by
  have h : (Tryz.prog.info? 94).map (·.size) = some 2 := by kernel_rfl
  obtain ⟨j, h1, h2⟩ := Option.map_eq_some_iff.1 h
  exact ⟨j, h1, by rw [h2]; decide⟩
theorem eqP' {a b : Nat} {w : World} (d : Nat) (ha : isGrp w a) (hb : isGrp w b) : (Op.equalIn (d + 1) 81 (gptr a) (gptr b)).run Tryz.prog w = .ok (decide (a = b)) w := by
  obtain ⟨ca, ha⟩ := ha
  obtain ⟨cb, hb⟩ := hb
  obtain ⟨j, hj, hs⟩ := info94
  by_cases h : a = b
  · subst h
    rw [decide_eq_true rfl]
    simp [Op.equalIn, run_underlying Tryz.underlying81, sizeOf, typeInfo, hj, run_sameAddr_same, hs]
  · rw [decide_eq_false h]
    have hne : (⟨a, 0, none⟩ : Addr) ≠ ⟨b, 0, none⟩ := by intro e; injection e with e; exact h e
    have hr := run_sameAddr_other (P := Tryz.prog) w (a := ⟨a, 0, none⟩) (b := ⟨b, 0, none⟩) hne ha hb
    simp [Op.equalIn, run_underlying Tryz.underlying81, sizeOf, typeInfo, hj, hs, hr]
theorem eqP {a b : Nat} {w : World} (ha : isGrp w a) (hb : isGrp w b) : (Op.equal 81 (gptr a) (gptr b)).run Tryz.prog w = .ok (decide (a = b)) w := eqP' 9999 ha hb
theorem chk81 (e : Bool) (n : Nat) (a : Nat) (w : World) : (Instr.checkKey e (n + 1) 81 (gptr a)).run Tryz.prog w = .ok () w := by simp [Instr.checkKey, run_underlying Tryz.underlying81]
theorem key81 : KeyC Tryz.prog 81 gptr isGrp where
  chk := fun e a w => chk81 e 9999 a w
  find := fun a es w ha h => key_asking (ok := isGrp) Tryz.underlying81 (fun a v => by cases v <;> rfl) (fun a b w ha hb => ⟨_, eqP ha hb, by simp; omega⟩) a es w ha h
  stays := fun a w => stays_of (by simp [Instr.sameBits]) w
  inj := fun a b h => by simpa using h
theorem mk140 (w : World) : (Instr.makeMap 140 none).run Tryz.prog w = .ok (.map (some w.heap.size)) (w.alloc (.map #[] 0)) := by kernel_rfl
theorem mk74 (w : World) : (Instr.makeMap 74 none).run Tryz.prog w = .ok (.map (some w.heap.size)) (w.alloc (.map #[] 0)) := by kernel_rfl
theorem mk84 (w : World) : (Instr.makeMap 84 none).run Tryz.prog w = .ok (.map (some w.heap.size)) (w.alloc (.map #[] 0)) := by kernel_rfl
end Go.Proofs.YtjiojpoiocdnmaaGreat
/- Words for maps that a call keeps beside its rows. No program in sight. -/
set_option linter.unusedSimpArgs false
set_option linter.unusedVariables false
namespace Go.Proofs.YtjiojpoiocdnmaaGreat
open Go.RowKit Go.ChangeMaps
theorem sb_size (w : World) (b : Nat) (o : Obj) : (setBlock w b o).heap.size = w.heap.size := by simp [setBlock]
theorem sb_other (w : World) {b : Nat} (o : Obj) {k : Nat} (h : k ≠ b) : (setBlock w b o).heap[k]? = w.heap[k]? := by
  simp only [setBlock]; rw [Array.getElem?_setIfInBounds_ne (Ne.symm h)]
theorem sb_same {w : World} {b : Nat} (o : Obj) (h : b < w.heap.size) : (setBlock w b o).heap[b]? = some o := by simp [setBlock, h]
theorem sb_grown (w : World) (b : Nat) (o : Obj) : w.grownBy (setBlock w b o) (some b) :=
  ⟨rfl, rfl, rfl, by rw [sb_size]; exact Nat.le_refl _, fun k _ hk => sb_other w o (fun e => hk (by rw [e]))⟩
theorem below_sb {B : Nat} {a w : World} (h : Below B a w) (b : Nat) (o : Obj) (hb : B ≤ b) : Below B a (setBlock w b o) :=
  ⟨h.os, h.tape, h.output, by rw [sb_size]; exact h.size, fun k hk => (sb_other w o (by omega)).trans (h.block k hk)⟩
theorem Blk.sb {w : World} {b k : Nat} {cs : List Value} (h : Blk w b cs) (o : Obj) (hk : b ≠ k) : Blk (setBlock w k o) b cs := h.keepB (sb_other w o hk)
theorem Blk.grownB {w w' : World} {b : Nat} {cs : List Value} {row : Option Nat} (h : Blk w b cs) (hg : w.grownBy w' row) (hr : some b ≠ row) : Blk w' b cs := h.keepB (hg.block b h.lt hr)
section
variable {α β : Type} {w w' : World} {base : Nat} {e : TypeId} {enc : α → List Value} {sz : Nat} {v : Value} {l : List α}
theorem Own.sb {k : Nat} (h : Own w base e enc sz v l) (o : Obj) (hk : k < base) : Own (setBlock w k o) base e enc sz v l :=
  h.block fun g hg => sb_other w o (by have := (h.lt g hg).2; omega)
theorem Own.far {row : Option Nat} (h : Own w base e enc sz v l) (hg : w.grownBy w' row) (hr : ∀ k, v.ownBlock = some k → row ≠ some k) : Own w' base e enc sz v l :=
  h.block fun k hk => hg.block k (h.lt k hk).1 (fun e => hr k hk e.symm)
/-- Rows of different kinds lie apart. -/
theorem Own.ne {b2 : Nat} {e2 : TypeId} {enc2 : β → List Value} {sz2 : Nat} {v2 : Value} {l2 : List β} (h : Own w base e enc sz v l) (h2 : Own w b2 e2 enc2 sz2 v2 l2) (he : e ≠ e2) : ∀ k, v.ownBlock = some k → v2.ownBlock ≠ some k := by
  intro k hk hk2
  rcases h.2 with ⟨hv, _⟩ | ⟨g, cap, cur, hv, _, hg, _⟩
  · rw [hv] at hk; cases hk
  · rcases h2.2 with ⟨hv2, _⟩ | ⟨g2, cap2, cur2, hv2, _, hg2, _⟩
    · rw [hv2] at hk2; cases hk2
    · rw [hv] at hk; rw [hv2] at hk2
      cases hk; cases hk2
      rw [hg] at hg2; cases hg2; exact he rfl
/-- A row lies apart from a block of one's own kind. -/
theorem Own.neB {b : Nat} {e2 : TypeId} {cs : Array Value} (h : Own w base e enc sz v l) (hb : w.heap[b]? = some (.cells cs e2 (0, 0))) (he : e ≠ e2) : v.ownBlock ≠ some b := by
  intro hk
  rcases h.2 with ⟨hv, _⟩ | ⟨g, cap, cur, hv, _, hg, _⟩
  · rw [hv] at hk; cases hk
  · rw [hv] at hk; cases hk
    rw [hg] at hb; cases hb; exact he rfl
end
theorem GMap.far {κ : Type} [DecidableEq κ] {enc : κ → Value} {w w' : World} {b : Nat} {l : List (κ × Value)} {row : Option Nat} (h : GMap enc w b l) (hg : w.grownBy w' row) (hr : some b ≠ row) : GMap enc w' b l := h.of_block (hg.block b h.lt hr)
theorem gmap_obj {κ : Type} [DecidableEq κ] {enc : κ → Value} {w : World} {b : Nat} {l : List (κ × Value)} (h : GMap enc w b l) : ∃ o, w.heap[b]? = some o ∧ o.isCells = false := let ⟨es, c, h1, _⟩ := h; ⟨_, h1, rfl⟩
end Go.Proofs.YtjiojpoiocdnmaaGreat
/- Where a flight may be: occupancy.Possible never panics, and says whether all paths are valid. -/
set_option linter.unusedSimpArgs false
set_option linter.unusedVariables false
namespace Go.Proofs.YtjiojpoiocdnmaaGreat
open Go.RowKit Go.Shelf Go.ChangeMaps
def possE (t : Tab) (l : List Pth) : Int := if chkT t ≠ 0 then chkT t else if l.all (pathB t) then 0 else 160
/-- Rows of spans, one for each place, apart from each other. -/
structure MRows (W : World) (base : Nat) (L : List (Plc × Value)) (N : Nat) : Prop where
  row : ∀ p ∈ L, ∃ l : List Sp, Own W base 44 Sp.cells 2 p.2 l ∧ l.length ≤ N
  dis : ∀ p ∈ L, ∀ q ∈ L, p.1 ≠ q.1 → ∀ k, p.2.ownBlock = some k → q.2.ownBlock ≠ some k
/-- What Possible holds while it runs. -/
structure PSt (w : World) (t : Tab) (m N K : Nat) (W : World) : Prop where
  E : Below w.heap.size w W
  T : Blk W w.heap.size t.cells
  X : ∃ v l, Blk W (w.heap.size + 1) [v] ∧ Own W (m + 2) 113 Sty.cells 4 v l ∧ l.length ≤ K
  B : Blk W (m + 1) [.map (some m)]
  lo : w.heap.size + 1 < m
  hi : m + 2 ≤ W.heap.size
  M : ∃ L, GMap Plc.v W m L ∧ MRows W (m + 2) L N
theorem MRows.ext {W W' : World} {base N : Nat} {L : List (Plc × Value)} (h : MRows W base L N) (hb : Below W.heap.size W W') : MRows W' base L N :=
  ⟨fun p hp => let ⟨l, h1, h2⟩ := h.row p hp; ⟨l, h1.ext hb, h2⟩, h.dis⟩
theorem PSt.ext {w W W' : World} {t : Tab} {m N K : Nat} (h : PSt w t m N K W) (hb : Below W.heap.size W W') : PSt w t m N K W' := by
  obtain ⟨L, h1, h2⟩ := h.M
  obtain ⟨v, l, h3, h4, h5⟩ := h.X
  exact ⟨ext_trans h.E hb, h.T.ext hb, ⟨v, l, h3.ext hb, h4.ext hb, h5⟩, h.B.ext hb, h.lo, Nat.le_trans h.hi hb.size, L, h1.ext hb, h2.ext hb⟩
theorem zv114 (w : World) : (zeroValue 114).run Tryz.prog w = .ok (.slice none 0 0) w := by kernel_rfl
theorem MRows.get {W : World} {base N : Nat} {L : List (Plc × Value)} (h : MRows W base L N) (a : Plc) : ∃ l : List Sp, Own W base 44 Sp.cells 2 ((asc L a).getD (.slice none 0 0)) l ∧ l.length ≤ N ∧ ∀ k, ((asc L a).getD (.slice none 0 0)).ownBlock = some k → ∃ p ∈ L, p.1 = a ∧ p.2.ownBlock = some k := by
  unfold asc
  cases hf : L.find? (fun p => decide (p.1 = a)) with
  | none => exact ⟨[], Own.nil _ _ _ _ _, by simp, fun k hk => by cases hk⟩
  | some p =>
    obtain ⟨l, h1, h2⟩ := h.row p (List.mem_of_find?_eq_some hf)
    exact ⟨l, h1, h2, fun k hk => ⟨p, List.mem_of_find?_eq_some hf, by have := List.find?_some hf; simpa using this, hk⟩⟩
/-- minutes[k] = append(minutes[k], s). -/
theorem PSt.app {w W : World} {t : Tab} {m N K : Nat} (h : PSt w t m N K W) (a : Plc) (s : Sp) (hN : N < 1000000) :
    ∃ v0 st o1 v' W4 o2, (Instr.mapEntry 140 (.map (some m)) a.v).run Tryz.prog (W.alloc (.cells #[.int .i64 s.f, .int .i64 s.t] 44)) = .ok (.tuple #[v0, .int .i64 (st : Nat)]) (setBlock (W.alloc (.cells #[.int .i64 s.f, .int .i64 s.t] 44)) m o1) ∧
      (Builtin.append_ #[114, 114] 114 #[v0, .slice (some ⟨W.heap.size, 0, none⟩) 1 1]).run Tryz.prog (setBlock (W.alloc (.cells #[.int .i64 s.f, .int .i64 s.t] 44)) m o1) = .ok v' W4 ∧
      (Instr.entryStore 140 (.map (some m)) (.int .i64 (st : Nat)) v').run Tryz.prog W4 = .ok () (setBlock W4 m o2) ∧ PSt w t m (N + 1) K (setBlock W4 m o2) ∧
      (∀ {b : Nat} {u : Value} {l : List Sty}, Own W b 113 Sty.cells 4 u l → m + 2 ≤ b → Own (setBlock W4 m o2) b 113 Sty.cells 4 u l) := by
  obtain ⟨W2, hW2⟩ : ∃ W2, W.alloc (.cells #[.int .i64 s.f, .int .i64 s.t] 44) = W2 := ⟨_, rfl⟩
  have hb2 : Below W.heap.size W W2 := by rw [← hW2]; exact ext_alloc (ext_refl _) _
  have h2 := h.ext hb2
  have hs2 : W2.heap.size = W.heap.size + 1 := by rw [← hW2]; simp
  have hS : Slc W2 Sp.cells 2 (some ⟨W.heap.size, 0, none⟩) [s] := by rw [← hW2]; exact slc_litH W [s] #[.int .i64 s.f, .int .i64 s.t] 44 (enc := Sp.cells) (sz := 2) (fun _ => rfl) rfl W.heap.size rfl
  rw [hW2]
  obtain ⟨L, hM, hR⟩ := h2.M
  have hml : m < W2.heap.size := hM.lt
  obtain ⟨st, o1, e1, hc1, hst⟩ := hM.entry key144 Tryz.underlying140 zv114 a trivial (fun _ _ => trivial)
  obtain ⟨l0, hO0, hl0, hk0⟩ := hR.get a
  obtain ⟨v0, hv0⟩ : ∃ v0, (asc L a).getD (.slice none 0 0) = v0 := ⟨_, rfl⟩
  rw [hv0] at e1 hO0 hk0
  have hO0' : Own (setBlock W2 m o1) (m + 2) 44 Sp.cells 2 v0 l0 := hO0.sb o1 (by omega)
  have hS' : Slc (setBlock W2 m o1) Sp.cells 2 (some ⟨W.heap.size, 0, none⟩) [s] := fun i x hx => by
    obtain ⟨b, o, e, hlt, hc⟩ := hS i x hx
    have hbm : b ≠ m := by injection e with e; injection e with e; have := h.hi; omega
    exact ⟨b, o, e, by rw [sb_size]; exact hlt, fun j u hj => (World.cell?_of_block (w := W2) (a := ⟨b, o + i * 2 + j, none⟩) (sb_other W2 o1 hbm)).trans (hc j u hj)⟩
  obtain ⟨v', W4, e2, hO', hg, hat⟩ := hO0'.append I22 114 (ys := [s]) (m := 1) rfl 1 hS' (by simp; omega) (by unfold maxLen; simp; omega) (by rw [sb_size]; exact h2.hi)
  have hmr : some m ≠ v0.ownBlock := fun e => by have := (hO0.lt m e.symm).2; omega
  have hm4 : W4.heap[m]? = some o1 := (hg.block m (by rw [sb_size]; exact hml) hmr).trans (sb_same o1 hml)
  obtain ⟨o2, e3, hM', _⟩ := hst W4 v' hm4
  have hrow : ∀ r, v0.ownBlock = some r → m + 2 ≤ r := fun r e => (hO0.lt r e).2
  have hk : ∀ b, b < W2.heap.size → b ≠ m → (∀ r, v0.ownBlock = some r → b ≠ r) → (setBlock W4 m o2).heap[b]? = W2.heap[b]? := fun b hb hbm hbr =>
    ((sb_other W4 o2 hbm).trans (hg.block b (by rw [sb_size]; exact hb) (fun e => hbr b e.symm rfl))).trans (sb_other W2 o1 hbm)
  have hsz : W2.heap.size ≤ (setBlock W4 m o2).heap.size := by rw [sb_size]; have := hg.size; rw [sb_size] at this; exact this
  obtain ⟨vx, lx, hX, hOx, hlx⟩ := h2.X
  have hlo := h.lo
  have hw2 := h2.E
  refine ⟨v0, st, o1, v', W4, o2, e1, e2, e3, ?_, fun {b u q} ho hb => (ho.ext hb2).block fun k e => hk k ((ho.ext hb2).lt k e).1 (by have := (ho.lt k e).2; omega) (fun r e' q => by
    subst q
    exact (ho.ext hb2).ne hO0 (by decide) k e e')⟩
  refine ⟨⟨?_, ?_, ?_, Nat.le_trans hw2.size hsz, fun b hb => ?_⟩, h2.T.keepB (hk _ h2.T.lt (by omega) (fun r e => by have := hrow r e; omega)), ⟨vx, lx, hX.keepB (hk _ hX.lt (by omega) (fun r e => by have := hrow r e; omega)), ?_, hlx⟩, h2.B.keepB (hk _ h2.B.lt (by omega) (fun r e => by have := hrow r e; omega)), hlo, Nat.le_trans h2.hi hsz, _, hM', ⟨fun p hp => ?_, fun p hp q hq hne k hkp hkq => ?_⟩⟩
  · exact hg.os.trans hw2.os
  · exact hg.tape.trans hw2.tape
  · exact hg.output.trans hw2.output
  · exact (hk b (Nat.lt_of_lt_of_le hb hw2.size) (by omega) (fun r e => by have := hrow r e; omega)).trans (hw2.block b hb)
  · refine hOx.block fun k e => hk k (hOx.lt k e).1 (by have := (hOx.lt k e).2; omega) (fun r e' q => ?_)
    subst q
    exact hOx.ne hO0 (by decide) k e e'
  · rcases (mem_put (GMap.nd_ hM)).1 hp with rfl | ⟨hp, hpa⟩
    · exact ⟨l0 ++ [s], hO'.sb o2 (by omega), by simp; omega⟩
    · obtain ⟨lp, hOp, hlp⟩ := hR.row p hp
      refine ⟨lp, hOp.block fun k e => hk k (hOp.lt k e).1 (by have := (hOp.lt k e).2; omega) (fun r e' q => ?_), by omega⟩
      subst q
      obtain ⟨p0, hp0, e0, ek⟩ := hk0 k e'
      exact hR.dis p0 hp0 p hp (by rw [e0]; exact fun q => hpa q.symm) k ek e
  · have key : ∀ p ∈ L, p.1 ≠ a → ∀ k, v'.ownBlock = some k → p.2.ownBlock ≠ some k := fun p hp hpa k hk' hpk => by
      obtain ⟨lp, hOp, _⟩ := hR.row p hp
      rcases hat with e | e
      · rw [e] at hk'
        obtain ⟨p0, hp0, e0, ek⟩ := hk0 k hk'
        exact hR.dis p0 hp0 p hp (by rw [e0]; exact fun q => hpa q.symm) k ek hpk
      · rw [e, sb_size] at hk'
        cases hk'
        have := (hOp.lt _ hpk).1
        omega
    rcases (mem_put (GMap.nd_ hM)).1 hp with rfl | ⟨hp, hpa⟩ <;> rcases (mem_put (GMap.nd_ hM)).1 hq with rfl | ⟨hq, hqa⟩
    · exact hne rfl
    · exact key q hq hqa k hkp hkq
    · exact key p hp hpa k hkq hkp
    · exact hR.dis p hp q hq hne k hkp hkq
end Go.Proofs.YtjiojpoiocdnmaaGreat
