/- How arguments read: values that came in, in words of lists. No program in sight. -/
import Derived.Test.YtjiojpoiocdnmaaGreatU0
import Derived.Deep.Slices
import Derived.Deep.Fields
import Derived.ChangeSame
import Derived.ProofKit
import Derived.OpenShut
set_option linter.unusedSimpArgs false
set_option linter.unusedVariables false
namespace Go.Proofs.YtjiojpoiocdnmaaGreat
open Go.RowKit Go.ChangeShapes Go.WideShapes Go.Deep

/-- Whatever reads as a value of type t is enc a for some a that is ok. -/
def Reads {α : Type} (P : Program) (t : TypeId) (enc : α → List Value) (ok : World → α → Prop) : Prop :=
  ∀ (H : Type) (encH : TypeId × Value → H) (w : World) (base : Nat) (spare : Nat → Bool) (held : Bool) (fuel : Nat) (cs : List Value) (x : DataW H × List MemPlace),
    DataW.trod encH P w base spare held fuel t cs = some x → ∃ a, cs = enc a ∧ ok w a

theorem reads_int {P : Program} {t : TypeId} {k : IntKind} (ht : P.underlying t = some (.int k)) : Reads P t (fun n : Int => [.int k n]) (fun _ n => (Lit.int k n).wf = true) := by
  intro H encH w base spare held fuel cs x h
  obtain ⟨n, h1, _, h2⟩ := DataW.trod_int ht h
  exact ⟨n, h1, h2⟩
theorem reads_bool {P : Program} {t : TypeId} (ht : P.underlying t = some .bool) : Reads P t (fun b : Bool => [.bool b]) (fun _ _ => True) := by
  intro H encH w base spare held fuel cs x h
  obtain ⟨n, h1, _⟩ := DataW.trod_bool ht h
  exact ⟨n, h1, trivial⟩

/-- A slice that came in: where it lies, its capacity, what it holds. -/
structure SliceOf (α : Type) where
  A : Option Addr
  c : Nat
  l : List α
def SliceOf.enc {α : Type} (s : SliceOf α) : List Value := [.slice s.A s.l.length s.c]
def SliceOf.ok {α : Type} (enc : α → List Value) (sz : Nat) (ok : World → α → Prop) (w : World) (s : SliceOf α) : Prop :=
  Slc w enc sz s.A s.l ∧ s.l.length ≤ s.c ∧ s.c ≤ maxLen ∧ (s.A = none → s.c = 0) ∧ ∀ x ∈ s.l, ok w x

theorem list_of {α : Type} (n : Nat) (p : Nat → α → Prop) (h : ∀ i, i < n → ∃ a, p i a) : ∃ l : List α, l.length = n ∧ ∀ i a, l[i]? = some a → p i a := by
  induction n with
  | zero => exact ⟨[], rfl, by simp⟩
  | succ n ih =>
    obtain ⟨l, hl, hp⟩ := ih (fun i hi => h i (by omega))
    obtain ⟨a, ha⟩ := h n (by omega)
    refine ⟨l ++ [a], by simp [hl], fun i b hb => ?_⟩
    rw [List.getElem?_append] at hb
    split at hb
    · exact hp i b hb
    · rename_i hi
      have hb' := (List.getElem?_eq_some_iff.1 hb).1
      simp at hb'
      obtain rfl : i = n := by omega
      simp [hl] at hb
      subst hb; exact ha

theorem reads_slice {α : Type} {P : Program} {t e : TypeId} {enc : α → List Value} {ok : World → α → Prop} {sz : Nat} (ht : P.underlying t = some (.slice e)) (hR : Reads P e enc ok) (hC : P.cellsOf e = sz) (hz : 0 < sz) (hs : ∀ x, (enc x).length = sz) :
    Reads P t (SliceOf.enc (α := α)) (SliceOf.ok enc sz ok) := by
  intro H encH w base spare held fuel cs x h
  rcases open_slice ht h with ⟨h0, _⟩ | ⟨a, len, cap, m, n, D, Pl, hcs, hb, hl, hm, hmm, hx, hi⟩
  · exact ⟨⟨none, 0, []⟩, h0, Slc.nil, Nat.le_refl _, by simp, fun _ => rfl, by simp⟩
  · have hlm : len ≤ m := by rw [hmm]; split <;> omega
    obtain ⟨l, hll, hp⟩ := list_of len (fun i x => w.cells? base (a.add (i * sz)) sz = some (enc x) ∧ ok w x) (by
      intro i hil
      obtain ⟨cs', hc, ht'⟩ := hi i (by omega)
      rw [hC] at hc
      obtain ⟨y, rfl, hy⟩ := hR _ _ _ _ _ _ _ _ _ ht'
      exact ⟨y, hc, hy⟩)
    refine ⟨⟨some a, cap, l⟩, by rw [hcs, ← hll]; rfl, ?_, by simpa [hll] using hl, hm, (fun h => by cases h), ?_⟩
    · intro i x hx
      obtain ⟨hc, _⟩ := hp i x hx
      obtain ⟨_, _, hat⟩ := World.cells?_some hc
      have h0 := hat 0 hz
      have hv : (enc x)[0]? = some ((enc x)[0]'(by rw [hs]; exact hz)) := List.getElem?_eq_getElem _
      rw [hv] at h0
      obtain ⟨b, off, spot⟩ := a
      have hlt : b < w.heap.size := by
        have h1 := h0
        simp only [World.cell?] at h1
        split at h1
        · rename_i hh
          have hlt' := (Array.getElem?_eq_some_iff.1 hh).1
          have e1 : ∀ (x : Addr) (k : Nat), (x.add k).block = x.block := by intro x k; unfold Addr.add; split <;> rfl
          rw [e1, e1] at hlt'
          exact hlt'
        · cases h1
      -- the first element pays that the address bears no spot
      have hl0 : 0 < l.length := Nat.lt_of_le_of_lt (Nat.zero_le _) (List.getElem?_eq_some_iff.1 hx).1
      obtain ⟨hc0, _⟩ := hp 0 l[0] (List.getElem?_eq_getElem hl0)
      obtain ⟨_, _, hat0⟩ := World.cells?_some hc0
      have h00 := hat0 0 hz
      have hv0 : (enc l[0])[0]? = some ((enc l[0])[0]'(by rw [hs]; exact hz)) := List.getElem?_eq_getElem _
      rw [hv0] at h00
      have hspot : spot = none := by simpa [Addr.add] using World.cell?_spot h00
      subst hspot
      refine ⟨b, off, rfl, hlt, fun j v hj => ?_⟩
      have hjs : j < sz := by rw [← hs x]; exact (List.getElem?_eq_some_iff.1 hj).1
      have := (hat j hjs).trans hj
      rw [Go.WideShapes.add_plain, Go.WideShapes.add_plain] at this
      exact this
    · intro x hx
      obtain ⟨i, hi', rfl⟩ := List.getElem_of_mem hx
      exact (hp i l[i] (List.getElem?_eq_getElem hi')).2

/-- A field of a struct. -/
theorem seg {α H : Type} {P : Program} {t : TypeId} {enc : α → List Value} {ok : World → α → Prop} (hR : Reads P t enc ok) (o s : Nat) {f : Field} (ht : f.type = t) (ho : f.offset = o) (hs : P.cellsOf t = s)
    {encH : TypeId × Value → H} {w : World} {base : Nat} {spare : Nat → Bool} {held : Bool} {n : Nat} {cs : List Value} {xs : List (DataW H × List MemPlace)} {i : Nat}
    (hf : DataW.trod encH P w base spare held n f.type ((cs.drop f.offset).take (P.cellsOf f.type)) = xs[i]?) (hi : i < xs.length) : ∃ a, (cs.drop o).take s = enc a ∧ ok w a := by
  subst ht ho hs
  rw [List.getElem?_eq_getElem hi] at hf
  exact hR _ _ _ _ _ _ _ _ _ hf
/-- A parameter of one cell. -/
theorem open_cell {α H : Type} {encH : TypeId × Value → H} {P : Program} {t : TypeId} {enc : α → List Value} {ok : World → α → Prop} {w : World} {base : Nat} {spare : Nat → Bool} {held : Bool} {v : Value} {d : DataW H} {p : List MemPlace}
    (hR : Reads P t enc ok) (h : DataW.Trod encH P w base spare held t v d p) : ∃ a, v.cells.toList = enc a ∧ ok w a := by
  obtain ⟨fuel, hf⟩ := h
  exact hR _ _ _ _ _ _ _ _ _ hf
end Go.Proofs.YtjiojpoiocdnmaaGreat
/- Tables, schemes and forecasts, as they lie in memory. No program in sight. -/
set_option linter.unusedSimpArgs false
set_option linter.unusedVariables false
namespace Go.Proofs.YtjiojpoiocdnmaaGreat
open Go.RowKit
/-- A slice of which the length alone counts. -/
structure SH where
  A : Option Addr
  n : Nat
  c : Nat
def ic (n : Int) : List Value := [.int .i64 n]
structure Sp where
  f : Int
  t : Int
structure Lg where
  seg : Int
  vol : Int
  len : Int
  mi : SliceOf Sp
structure Wy where
  f : Int
  t : Int
  legs : SliceOf Lg
structure Kd where
  slow : Int
  fast : Int
  places : Int
  weight : Int
  longest : Int
  cur : SliceOf (SliceOf Sp)
structure Sec where
  nm : ByteArray
  ns : SH
  vs : SliceOf Int
  rad : Int
  pro : Int
structure Cfg where
  nm : ByteArray
  ns : SH
  ss : SliceOf Int
structure Chg where
  f : Int
  cfg : Int
  ms : SliceOf Int
structure Sch where
  ch : SliceOf Chg
structure Tab where
  n : Int
  ss : SliceOf Sec
  cs : SliceOf Cfg
  ws : SliceOf Wy
  ms : SliceOf (SliceOf Int)
  ks : SliceOf Kd
structure Cut where
  air : Bool
  ix : Int
  f : Int
  t : Int
  less : Int
structure Nd where
  p : Int
  f : Int
  cuts : SliceOf Cut
structure Cel where
  air : Bool
  ix : Int
  mi : Int
def Sp.cells (x : Sp) : List Value := [.int .i64 x.f, .int .i64 x.t]
abbrev Sp.v (x : Sp) : Value := .agg #[.int .i64 x.f, .int .i64 x.t]
theorem Sp.cells_len (x : Sp) : x.cells.length = 2 := rfl
def Sp.ok (w : World) (x : Sp) : Prop := True
def Lg.cells (x : Lg) : List Value := [.int .i64 x.seg, .int .i64 x.vol, .int .i64 x.len, .slice x.mi.A x.mi.l.length x.mi.c]
abbrev Lg.v (x : Lg) : Value := .agg #[.int .i64 x.seg, .int .i64 x.vol, .int .i64 x.len, .slice x.mi.A x.mi.l.length x.mi.c]
theorem Lg.cells_len (x : Lg) : x.cells.length = 4 := rfl
def Lg.ok (w : World) (x : Lg) : Prop := SliceOf.ok Sp.cells 2 Sp.ok w x.mi
def Wy.cells (x : Wy) : List Value := [.int .i64 x.f, .int .i64 x.t, .slice x.legs.A x.legs.l.length x.legs.c]
abbrev Wy.v (x : Wy) : Value := .agg #[.int .i64 x.f, .int .i64 x.t, .slice x.legs.A x.legs.l.length x.legs.c]
theorem Wy.cells_len (x : Wy) : x.cells.length = 3 := rfl
def Wy.ok (w : World) (x : Wy) : Prop := SliceOf.ok Lg.cells 4 Lg.ok w x.legs
def Kd.cells (x : Kd) : List Value := [.int .i64 x.slow, .int .i64 x.fast, .int .i64 x.places, .int .i64 x.weight, .int .i64 x.longest, .slice x.cur.A x.cur.l.length x.cur.c]
abbrev Kd.v (x : Kd) : Value := .agg #[.int .i64 x.slow, .int .i64 x.fast, .int .i64 x.places, .int .i64 x.weight, .int .i64 x.longest, .slice x.cur.A x.cur.l.length x.cur.c]
theorem Kd.cells_len (x : Kd) : x.cells.length = 6 := rfl
def Kd.ok (w : World) (x : Kd) : Prop := SliceOf.ok SliceOf.enc 1 (SliceOf.ok Sp.cells 2 Sp.ok) w x.cur
def Sec.cells (x : Sec) : List Value := [.string x.nm, .slice x.ns.A x.ns.n x.ns.c, .slice x.vs.A x.vs.l.length x.vs.c, .int .i64 x.rad, .int .i64 x.pro]
abbrev Sec.v (x : Sec) : Value := .agg #[.string x.nm, .slice x.ns.A x.ns.n x.ns.c, .slice x.vs.A x.vs.l.length x.vs.c, .int .i64 x.rad, .int .i64 x.pro]
theorem Sec.cells_len (x : Sec) : x.cells.length = 5 := rfl
def Sec.ok (w : World) (x : Sec) : Prop := x.ns.n ≤ x.ns.c ∧ x.ns.c ≤ maxLen ∧ SliceOf.ok ic 1 (fun _ n => (Lit.int .i64 n).wf = true) w x.vs
def Cfg.cells (x : Cfg) : List Value := [.string x.nm, .slice x.ns.A x.ns.n x.ns.c, .slice x.ss.A x.ss.l.length x.ss.c]
abbrev Cfg.v (x : Cfg) : Value := .agg #[.string x.nm, .slice x.ns.A x.ns.n x.ns.c, .slice x.ss.A x.ss.l.length x.ss.c]
theorem Cfg.cells_len (x : Cfg) : x.cells.length = 3 := rfl
def Cfg.ok (w : World) (x : Cfg) : Prop := x.ns.n ≤ x.ns.c ∧ x.ns.c ≤ maxLen ∧ SliceOf.ok ic 1 (fun _ n => (Lit.int .i64 n).wf = true) w x.ss
def Chg.cells (x : Chg) : List Value := [.int .i64 x.f, .int .i64 x.cfg, .slice x.ms.A x.ms.l.length x.ms.c]
abbrev Chg.v (x : Chg) : Value := .agg #[.int .i64 x.f, .int .i64 x.cfg, .slice x.ms.A x.ms.l.length x.ms.c]
theorem Chg.cells_len (x : Chg) : x.cells.length = 3 := rfl
def Chg.ok (w : World) (x : Chg) : Prop := SliceOf.ok ic 1 (fun _ n => (Lit.int .i64 n).wf = true) w x.ms
def Sch.cells (x : Sch) : List Value := [.slice x.ch.A x.ch.l.length x.ch.c]
abbrev Sch.v (x : Sch) : Value := .agg #[.slice x.ch.A x.ch.l.length x.ch.c]
theorem Sch.cells_len (x : Sch) : x.cells.length = 1 := rfl
def Sch.ok (w : World) (x : Sch) : Prop := SliceOf.ok Chg.cells 3 Chg.ok w x.ch
def Tab.cells (x : Tab) : List Value := [.int .i64 x.n, .slice x.ss.A x.ss.l.length x.ss.c, .slice x.cs.A x.cs.l.length x.cs.c, .slice x.ws.A x.ws.l.length x.ws.c, .slice x.ms.A x.ms.l.length x.ms.c, .slice x.ks.A x.ks.l.length x.ks.c]
abbrev Tab.v (x : Tab) : Value := .agg #[.int .i64 x.n, .slice x.ss.A x.ss.l.length x.ss.c, .slice x.cs.A x.cs.l.length x.cs.c, .slice x.ws.A x.ws.l.length x.ws.c, .slice x.ms.A x.ms.l.length x.ms.c, .slice x.ks.A x.ks.l.length x.ks.c]
theorem Tab.cells_len (x : Tab) : x.cells.length = 6 := rfl
def Tab.ok (w : World) (x : Tab) : Prop := SliceOf.ok Sec.cells 5 Sec.ok w x.ss ∧ SliceOf.ok Cfg.cells 3 Cfg.ok w x.cs ∧ SliceOf.ok Wy.cells 3 Wy.ok w x.ws ∧ SliceOf.ok SliceOf.enc 1 (SliceOf.ok ic 1 (fun _ n => (Lit.int .i64 n).wf = true)) w x.ms ∧ SliceOf.ok Kd.cells 6 Kd.ok w x.ks
def Cut.cells (x : Cut) : List Value := [.bool x.air, .int .i64 x.ix, .int .i64 x.f, .int .i64 x.t, .int .i64 x.less]
abbrev Cut.v (x : Cut) : Value := .agg #[.bool x.air, .int .i64 x.ix, .int .i64 x.f, .int .i64 x.t, .int .i64 x.less]
theorem Cut.cells_len (x : Cut) : x.cells.length = 5 := rfl
def Cut.ok (w : World) (x : Cut) : Prop := True
def Nd.cells (x : Nd) : List Value := [.int .i64 x.p, .int .i64 x.f, .slice x.cuts.A x.cuts.l.length x.cuts.c]
abbrev Nd.v (x : Nd) : Value := .agg #[.int .i64 x.p, .int .i64 x.f, .slice x.cuts.A x.cuts.l.length x.cuts.c]
theorem Nd.cells_len (x : Nd) : x.cells.length = 3 := rfl
def Nd.ok (w : World) (x : Nd) : Prop := SliceOf.ok Cut.cells 5 Cut.ok w x.cuts
def Cel.cells (x : Cel) : List Value := [.bool x.air, .int .i64 x.ix, .int .i64 x.mi]
abbrev Cel.v (x : Cel) : Value := .agg #[.bool x.air, .int .i64 x.ix, .int .i64 x.mi]
theorem Cel.cells_len (x : Cel) : x.cells.length = 3 := rfl
def Cel.ok (w : World) (x : Cel) : Prop := True
end Go.Proofs.YtjiojpoiocdnmaaGreat
/- What lies in memory keeps lying there. No program in sight. -/
set_option linter.unusedSimpArgs false
set_option linter.unusedVariables false
namespace Go.Proofs.YtjiojpoiocdnmaaGreat
open Go.RowKit
theorem SliceOf.ok.ext {α : Type} {enc : α → List Value} {sz : Nat} {ok : World → α → Prop} {w w' : World} {s : SliceOf α} (h : SliceOf.ok enc sz ok w s) (hb : Below w.heap.size w w') (hx : ∀ x, ok w x → ok w' x) : SliceOf.ok enc sz ok w' s :=
  ⟨h.1.ext hb, h.2.1, h.2.2.1, h.2.2.2.1, fun x hm => hx x (h.2.2.2.2 x hm)⟩
theorem SliceOf.ok.len {α : Type} {enc : α → List Value} {sz : Nat} {ok : World → α → Prop} {w : World} {s : SliceOf α} (h : SliceOf.ok enc sz ok w s) : s.l.length ≤ maxLen := Nat.le_trans h.2.1 h.2.2.1
theorem SliceOf.ok.slc {α : Type} {enc : α → List Value} {sz : Nat} {ok : World → α → Prop} {w : World} {s : SliceOf α} (h : SliceOf.ok enc sz ok w s) : Slc w enc sz s.A s.l := h.1
theorem SliceOf.ok.all {α : Type} {enc : α → List Value} {sz : Nat} {ok : World → α → Prop} {w : World} {s : SliceOf α} (h : SliceOf.ok enc sz ok w s) {x : α} (hx : x ∈ s.l) : ok w x := h.2.2.2.2 x hx
variable {w w' : World}
theorem Lg.ok.ext {x : Lg} (h : Lg.ok w x) (hb : Below w.heap.size w w') : Lg.ok w' x := SliceOf.ok.ext h hb (fun _ k => k)
theorem Wy.ok.ext {x : Wy} (h : Wy.ok w x) (hb : Below w.heap.size w w') : Wy.ok w' x := SliceOf.ok.ext h hb (fun _ k => k.ext hb)
theorem Kd.ok.ext {x : Kd} (h : Kd.ok w x) (hb : Below w.heap.size w w') : Kd.ok w' x := SliceOf.ok.ext h hb (fun _ k => SliceOf.ok.ext k hb (fun _ q => q))
theorem ints.ext {x : SliceOf Int} (h : SliceOf.ok ic 1 (fun _ n => (Lit.int .i64 n).wf = true) w x) (hb : Below w.heap.size w w') : SliceOf.ok ic 1 (fun _ n => (Lit.int .i64 n).wf = true) w' x := SliceOf.ok.ext h hb (fun _ k => k)
theorem Sec.ok.ext {x : Sec} (h : Sec.ok w x) (hb : Below w.heap.size w w') : Sec.ok w' x := ⟨h.1, h.2.1, ints.ext h.2.2 hb⟩
theorem Cfg.ok.ext {x : Cfg} (h : Cfg.ok w x) (hb : Below w.heap.size w w') : Cfg.ok w' x := ⟨h.1, h.2.1, ints.ext h.2.2 hb⟩
theorem Chg.ok.ext {x : Chg} (h : Chg.ok w x) (hb : Below w.heap.size w w') : Chg.ok w' x := ints.ext h hb
theorem Sch.ok.ext {x : Sch} (h : Sch.ok w x) (hb : Below w.heap.size w w') : Sch.ok w' x := SliceOf.ok.ext h hb (fun _ k => k.ext hb)
theorem Nd.ok.ext {x : Nd} (h : Nd.ok w x) (hb : Below w.heap.size w w') : Nd.ok w' x := SliceOf.ok.ext h hb (fun _ k => k)
theorem secs.ext {x : SliceOf Sec} (h : SliceOf.ok Sec.cells 5 Sec.ok w x) (hb : Below w.heap.size w w') : SliceOf.ok Sec.cells 5 Sec.ok w' x := SliceOf.ok.ext h hb (fun _ k => k.ext hb)
theorem cfgs.ext {x : SliceOf Cfg} (h : SliceOf.ok Cfg.cells 3 Cfg.ok w x) (hb : Below w.heap.size w w') : SliceOf.ok Cfg.cells 3 Cfg.ok w' x := SliceOf.ok.ext h hb (fun _ k => k.ext hb)
theorem wys.ext {x : SliceOf Wy} (h : SliceOf.ok Wy.cells 3 Wy.ok w x) (hb : Below w.heap.size w w') : SliceOf.ok Wy.cells 3 Wy.ok w' x := SliceOf.ok.ext h hb (fun _ k => k.ext hb)
theorem mds.ext {x : SliceOf (SliceOf Int)} (h : SliceOf.ok SliceOf.enc 1 (SliceOf.ok ic 1 (fun _ n => (Lit.int .i64 n).wf = true)) w x) (hb : Below w.heap.size w w') : SliceOf.ok SliceOf.enc 1 (SliceOf.ok ic 1 (fun _ n => (Lit.int .i64 n).wf = true)) w' x := SliceOf.ok.ext h hb (fun _ k => ints.ext k hb)
theorem kds.ext {x : SliceOf Kd} (h : SliceOf.ok Kd.cells 6 Kd.ok w x) (hb : Below w.heap.size w w') : SliceOf.ok Kd.cells 6 Kd.ok w' x := SliceOf.ok.ext h hb (fun _ k => k.ext hb)
theorem Tab.ok.ext {x : Tab} (h : Tab.ok w x) (hb : Below w.heap.size w w') : Tab.ok w' x :=
  ⟨secs.ext h.1 hb, cfgs.ext h.2.1 hb, wys.ext h.2.2.1 hb, mds.ext h.2.2.2.1 hb, kds.ext h.2.2.2.2 hb⟩
end Go.Proofs.YtjiojpoiocdnmaaGreat
/- Tracks, paths, stations, reports, as they lie in memory. No program in sight. -/
set_option linter.unusedSimpArgs false
set_option linter.unusedVariables false
namespace Go.Proofs.YtjiojpoiocdnmaaGreat
open Go.RowKit
structure Pth where
  way : Int
  ts : SliceOf Int
structure Opt where
  de : Int
  way : Int
  ho : Int
  cn : Bool
structure Flt where
  id : Int
  al : Int
  cl : Int
  call : ByteArray
  ws : SH
  wi : Sp
  cn : Bool
structure Trk where
  fl : Flt
  op : Opt
  ps : SliceOf Pth
  po : SH
structure Stn where
  vs : SliceOf Int
  sh : Int
  fa : Int
structure Rep where
  st : Int
  no : Int
  mi : Int
  ar : Int
  call : ByteArray
  vol : Int
structure Sty where
  air : Bool
  ix : Int
  mi : Sp
def Pth.cells (x : Pth) : List Value := [.int .i64 x.way, .slice x.ts.A x.ts.l.length x.ts.c]
abbrev Pth.v (x : Pth) : Value := .agg #[.int .i64 x.way, .slice x.ts.A x.ts.l.length x.ts.c]
theorem Pth.cells_len (x : Pth) : x.cells.length = 2 := rfl
def Pth.ok (w : World) (x : Pth) : Prop := SliceOf.ok ic 1 (fun _ n => (Lit.int .i64 n).wf = true) w x.ts
def Opt.cells (x : Opt) : List Value := [.int .i64 x.de, .int .i64 x.way, .int .i64 x.ho, .bool x.cn]
abbrev Opt.v (x : Opt) : Value := .agg #[.int .i64 x.de, .int .i64 x.way, .int .i64 x.ho, .bool x.cn]
theorem Opt.cells_len (x : Opt) : x.cells.length = 4 := rfl
def Opt.ok (w : World) (x : Opt) : Prop := True
def Flt.cells (x : Flt) : List Value := [.int .i64 x.id, .int .i64 x.al, .int .i64 x.cl, .string x.call, .slice x.ws.A x.ws.n x.ws.c, .int .i64 x.wi.f, .int .i64 x.wi.t, .bool x.cn]
abbrev Flt.v (x : Flt) : Value := .agg #[.int .i64 x.id, .int .i64 x.al, .int .i64 x.cl, .string x.call, .slice x.ws.A x.ws.n x.ws.c, .int .i64 x.wi.f, .int .i64 x.wi.t, .bool x.cn]
theorem Flt.cells_len (x : Flt) : x.cells.length = 8 := rfl
def Flt.ok (w : World) (x : Flt) : Prop := x.ws.n ≤ x.ws.c ∧ x.ws.c ≤ maxLen ∧ Sp.ok w x.wi
def Trk.cells (x : Trk) : List Value := [.int .i64 x.fl.id, .int .i64 x.fl.al, .int .i64 x.fl.cl, .string x.fl.call, .slice x.fl.ws.A x.fl.ws.n x.fl.ws.c, .int .i64 x.fl.wi.f, .int .i64 x.fl.wi.t, .bool x.fl.cn, .int .i64 x.op.de, .int .i64 x.op.way, .int .i64 x.op.ho, .bool x.op.cn, .slice x.ps.A x.ps.l.length x.ps.c, .slice x.po.A x.po.n x.po.c]
abbrev Trk.v (x : Trk) : Value := .agg #[.int .i64 x.fl.id, .int .i64 x.fl.al, .int .i64 x.fl.cl, .string x.fl.call, .slice x.fl.ws.A x.fl.ws.n x.fl.ws.c, .int .i64 x.fl.wi.f, .int .i64 x.fl.wi.t, .bool x.fl.cn, .int .i64 x.op.de, .int .i64 x.op.way, .int .i64 x.op.ho, .bool x.op.cn, .slice x.ps.A x.ps.l.length x.ps.c, .slice x.po.A x.po.n x.po.c]
theorem Trk.cells_len (x : Trk) : x.cells.length = 14 := rfl
def Trk.ok (w : World) (x : Trk) : Prop := Flt.ok w x.fl ∧ Opt.ok w x.op ∧ SliceOf.ok Pth.cells 2 Pth.ok w x.ps ∧ x.po.n ≤ x.po.c ∧ x.po.c ≤ maxLen
def Stn.cells (x : Stn) : List Value := [.slice x.vs.A x.vs.l.length x.vs.c, .int .i64 x.sh, .int .i64 x.fa]
abbrev Stn.v (x : Stn) : Value := .agg #[.slice x.vs.A x.vs.l.length x.vs.c, .int .i64 x.sh, .int .i64 x.fa]
theorem Stn.cells_len (x : Stn) : x.cells.length = 3 := rfl
def Stn.ok (w : World) (x : Stn) : Prop := SliceOf.ok ic 1 (fun _ n => (Lit.int .i64 n).wf = true) w x.vs
def Rep.cells (x : Rep) : List Value := [.int .i64 x.st, .int .i64 x.no, .int .i64 x.mi, .int .i64 x.ar, .string x.call, .int .i64 x.vol]
abbrev Rep.v (x : Rep) : Value := .agg #[.int .i64 x.st, .int .i64 x.no, .int .i64 x.mi, .int .i64 x.ar, .string x.call, .int .i64 x.vol]
theorem Rep.cells_len (x : Rep) : x.cells.length = 6 := rfl
def Rep.ok (w : World) (x : Rep) : Prop := True
def Sty.cells (x : Sty) : List Value := [.bool x.air, .int .i64 x.ix, .int .i64 x.mi.f, .int .i64 x.mi.t]
abbrev Sty.v (x : Sty) : Value := .agg #[.bool x.air, .int .i64 x.ix, .int .i64 x.mi.f, .int .i64 x.mi.t]
theorem Sty.cells_len (x : Sty) : x.cells.length = 4 := rfl
def Sty.ok (w : World) (x : Sty) : Prop := Sp.ok w x.mi
variable {w w' : World}
theorem Pth.ok.ext {x : Pth} (h : Pth.ok w x) (hb : Below w.heap.size w w') : Pth.ok w' x := ints.ext h hb
theorem Stn.ok.ext {x : Stn} (h : Stn.ok w x) (hb : Below w.heap.size w w') : Stn.ok w' x := ints.ext h hb
theorem pths.ext {x : SliceOf Pth} (h : SliceOf.ok Pth.cells 2 Pth.ok w x) (hb : Below w.heap.size w w') : SliceOf.ok Pth.cells 2 Pth.ok w' x := SliceOf.ok.ext h hb (fun _ k => k.ext hb)
theorem Trk.ok.ext {x : Trk} (h : Trk.ok w x) (hb : Below w.heap.size w w') : Trk.ok w' x := ⟨h.1, trivial, pths.ext h.2.2.1 hb, h.2.2.2⟩
end Go.Proofs.YtjiojpoiocdnmaaGreat
