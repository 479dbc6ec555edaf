/- Tables, schemes and forecasts, as they lie in memory. No program in sight. -/
import Derived.Test.YtilocjliplmmpaaGreatLA
set_option linter.unusedSimpArgs false
set_option linter.unusedVariables false
namespace Go.Proofs.YtilocjliplmmpaaGreat
open Go.RowKit
/-- A slice of which the length alone counts. -/
structure SH where
  A : Option Addr
  n : Nat
  c : Nat
def ic (n : Int) : List Value := [.int .i64 n]
def bc (b : Bool) : List Value := [.bool b]
structure Sp where
  f : Int
  t : Int
structure Lg where
  seg : Int
  vol : Int
  len : Int
  mi : SliceOf Sp
structure Wy where
  f : Int
  t : Int
  legs : SliceOf Lg
structure Kd where
  slow : Int
  fast : Int
  places : Int
  weight : Int
  longest : Int
  cur : SliceOf (SliceOf Sp)
structure Sec where
  nm : ByteArray
  ns : SH
  vs : SliceOf Int
  rad : Int
  pro : Int
structure Cfg where
  nm : ByteArray
  ns : SH
  ss : SliceOf Int
structure Chg where
  f : Int
  cfg : Int
  ms : SliceOf Int
structure Sch where
  ch : SliceOf Chg
structure Tab where
  n : Int
  ss : SliceOf Sec
  cs : SliceOf Cfg
  ws : SliceOf Wy
  ms : SliceOf (SliceOf Int)
  ks : SliceOf Kd
structure Cut where
  air : Bool
  ix : Int
  f : Int
  t : Int
  less : Int
structure Nd where
  p : Int
  f : Int
  cuts : SliceOf Cut
structure Cel where
  air : Bool
  ix : Int
  mi : Int
def Sp.cells (x : Sp) : List Value := [.int .i64 x.f, .int .i64 x.t]
abbrev Sp.v (x : Sp) : Value := .agg #[.int .i64 x.f, .int .i64 x.t]
theorem Sp.cells_len (x : Sp) : x.cells.length = 2 := rfl
def Sp.ok (w : World) (x : Sp) : Prop := True
def Lg.cells (x : Lg) : List Value := [.int .i64 x.seg, .int .i64 x.vol, .int .i64 x.len, .slice x.mi.A x.mi.l.length x.mi.c]
abbrev Lg.v (x : Lg) : Value := .agg #[.int .i64 x.seg, .int .i64 x.vol, .int .i64 x.len, .slice x.mi.A x.mi.l.length x.mi.c]
theorem Lg.cells_len (x : Lg) : x.cells.length = 4 := rfl
def Lg.ok (w : World) (x : Lg) : Prop := SliceOf.ok Sp.cells 2 Sp.ok w x.mi
def Wy.cells (x : Wy) : List Value := [.int .i64 x.f, .int .i64 x.t, .slice x.legs.A x.legs.l.length x.legs.c]
abbrev Wy.v (x : Wy) : Value := .agg #[.int .i64 x.f, .int .i64 x.t, .slice x.legs.A x.legs.l.length x.legs.c]
theorem Wy.cells_len (x : Wy) : x.cells.length = 3 := rfl
def Wy.ok (w : World) (x : Wy) : Prop := SliceOf.ok Lg.cells 4 Lg.ok w x.legs
def Kd.cells (x : Kd) : List Value := [.int .i64 x.slow, .int .i64 x.fast, .int .i64 x.places, .int .i64 x.weight, .int .i64 x.longest, .slice x.cur.A x.cur.l.length x.cur.c]
abbrev Kd.v (x : Kd) : Value := .agg #[.int .i64 x.slow, .int .i64 x.fast, .int .i64 x.places, .int .i64 x.weight, .int .i64 x.longest, .slice x.cur.A x.cur.l.length x.cur.c]
theorem Kd.cells_len (x : Kd) : x.cells.length = 6 := rfl
def Kd.ok (w : World) (x : Kd) : Prop := SliceOf.ok SliceOf.enc 1 (SliceOf.ok Sp.cells 2 Sp.ok) w x.cur
def Sec.cells (x : Sec) : List Value := [.string x.nm, .slice x.ns.A x.ns.n x.ns.c, .slice x.vs.A x.vs.l.length x.vs.c, .int .i64 x.rad, .int .i64 x.pro]
abbrev Sec.v (x : Sec) : Value := .agg #[.string x.nm, .slice x.ns.A x.ns.n x.ns.c, .slice x.vs.A x.vs.l.length x.vs.c, .int .i64 x.rad, .int .i64 x.pro]
theorem Sec.cells_len (x : Sec) : x.cells.length = 5 := rfl
def Sec.ok (w : World) (x : Sec) : Prop := x.ns.n ≤ x.ns.c ∧ x.ns.c ≤ maxLen ∧ SliceOf.ok ic 1 (fun _ n => (Lit.int .i64 n).wf = true) w x.vs
def Cfg.cells (x : Cfg) : List Value := [.string x.nm, .slice x.ns.A x.ns.n x.ns.c, .slice x.ss.A x.ss.l.length x.ss.c]
abbrev Cfg.v (x : Cfg) : Value := .agg #[.string x.nm, .slice x.ns.A x.ns.n x.ns.c, .slice x.ss.A x.ss.l.length x.ss.c]
theorem Cfg.cells_len (x : Cfg) : x.cells.length = 3 := rfl
def Cfg.ok (w : World) (x : Cfg) : Prop := x.ns.n ≤ x.ns.c ∧ x.ns.c ≤ maxLen ∧ SliceOf.ok ic 1 (fun _ n => (Lit.int .i64 n).wf = true) w x.ss
def Chg.cells (x : Chg) : List Value := [.int .i64 x.f, .int .i64 x.cfg, .slice x.ms.A x.ms.l.length x.ms.c]
abbrev Chg.v (x : Chg) : Value := .agg #[.int .i64 x.f, .int .i64 x.cfg, .slice x.ms.A x.ms.l.length x.ms.c]
theorem Chg.cells_len (x : Chg) : x.cells.length = 3 := rfl
def Chg.ok (w : World) (x : Chg) : Prop := SliceOf.ok ic 1 (fun _ n => (Lit.int .i64 n).wf = true) w x.ms
def Sch.cells (x : Sch) : List Value := [.slice x.ch.A x.ch.l.length x.ch.c]
abbrev Sch.v (x : Sch) : Value := .agg #[.slice x.ch.A x.ch.l.length x.ch.c]
theorem Sch.cells_len (x : Sch) : x.cells.length = 1 := rfl
def Sch.ok (w : World) (x : Sch) : Prop := SliceOf.ok Chg.cells 3 Chg.ok w x.ch
def Tab.cells (x : Tab) : List Value := [.int .i64 x.n, .slice x.ss.A x.ss.l.length x.ss.c, .slice x.cs.A x.cs.l.length x.cs.c, .slice x.ws.A x.ws.l.length x.ws.c, .slice x.ms.A x.ms.l.length x.ms.c, .slice x.ks.A x.ks.l.length x.ks.c]
abbrev Tab.v (x : Tab) : Value := .agg #[.int .i64 x.n, .slice x.ss.A x.ss.l.length x.ss.c, .slice x.cs.A x.cs.l.length x.cs.c, .slice x.ws.A x.ws.l.length x.ws.c, .slice x.ms.A x.ms.l.length x.ms.c, .slice x.ks.A x.ks.l.length x.ks.c]
theorem Tab.cells_len (x : Tab) : x.cells.length = 6 := rfl
def Tab.ok (w : World) (x : Tab) : Prop := SliceOf.ok Sec.cells 5 Sec.ok w x.ss ∧ SliceOf.ok Cfg.cells 3 Cfg.ok w x.cs ∧ SliceOf.ok Wy.cells 3 Wy.ok w x.ws ∧ SliceOf.ok SliceOf.enc 1 (SliceOf.ok ic 1 (fun _ n => (Lit.int .i64 n).wf = true)) w x.ms ∧ SliceOf.ok Kd.cells 6 Kd.ok w x.ks
def Cut.cells (x : Cut) : List Value := [.bool x.air, .int .i64 x.ix, .int .i64 x.f, .int .i64 x.t, .int .i64 x.less]
abbrev Cut.v (x : Cut) : Value := .agg #[.bool x.air, .int .i64 x.ix, .int .i64 x.f, .int .i64 x.t, .int .i64 x.less]
theorem Cut.cells_len (x : Cut) : x.cells.length = 5 := rfl
def Cut.ok (w : World) (x : Cut) : Prop := True
def Nd.cells (x : Nd) : List Value := [.int .i64 x.p, .int .i64 x.f, .slice x.cuts.A x.cuts.l.length x.cuts.c]
abbrev Nd.v (x : Nd) : Value := .agg #[.int .i64 x.p, .int .i64 x.f, .slice x.cuts.A x.cuts.l.length x.cuts.c]
theorem Nd.cells_len (x : Nd) : x.cells.length = 3 := rfl
def Nd.ok (w : World) (x : Nd) : Prop := SliceOf.ok Cut.cells 5 Cut.ok w x.cuts
def Cel.cells (x : Cel) : List Value := [.bool x.air, .int .i64 x.ix, .int .i64 x.mi]
abbrev Cel.v (x : Cel) : Value := .agg #[.bool x.air, .int .i64 x.ix, .int .i64 x.mi]
theorem Cel.cells_len (x : Cel) : x.cells.length = 3 := rfl
def Cel.ok (w : World) (x : Cel) : Prop := True
end Go.Proofs.YtilocjliplmmpaaGreat
/- What airspace.Check says of tables, and the scheme's words, in plain Lean. No program in sight. -/
set_option linter.unusedSimpArgs false
set_option linter.unusedVariables false
namespace Go.Proofs.YtilocjliplmmpaaGreat
open Go.RowKit
/-- A span that is no span of a day. -/
def badS (s : Sp) : Bool := decide (s.f < 0) || decide (s.t ≤ s.f) || decide (1440 < s.t)
def chkHE (l : List Sp) : Int := if l.any badS then 50 else 0
/-- The threes of 'within'. -/
def wit : List Int → Bool
  | a :: b :: c :: r => decide (b ≤ a) && decide (a ≤ c) && wit r
  | _ => true
def badCu (s : SliceOf Sp) : Bool := chkHE s.l != 0
structure Rng (k : Kd) : Prop where
  s0 : 1 ≤ k.slow
  s1 : k.slow ≤ 64
  f0 : k.slow ≤ k.fast
  f1 : k.fast ≤ 64
  p0 : 1 ≤ k.places
  p1 : k.places ≤ 8
  w0 : 1 ≤ k.weight
  w1 : k.weight ≤ 8
  l0 : 0 ≤ k.longest
  l1 : k.longest ≤ 60
  c1 : k.cur.l.length ≤ 16
def rngB (k : Kd) : Bool := wit [k.slow, 1, 64, k.fast, k.slow, 64, k.places, 1, 8, k.weight, 1, 8, k.longest, 0, 60, k.cur.l.length, 0, 16]
theorem rngB_iff (k : Kd) : rngB k = true ↔ Rng k := by
  simp only [rngB, wit, Bool.and_eq_true, decide_eq_true_eq, and_true]
  constructor
  · rintro ⟨⟨a, b⟩, ⟨c, d⟩, ⟨e, f⟩, ⟨g, h⟩, ⟨i, j⟩, ⟨m, n⟩⟩
    exact ⟨a, b, c, d, e, f, g, h, i, j, by omega⟩
  · rintro ⟨a, b, c, d, e, f, g, h, i, j, m⟩
    exact ⟨⟨a, b⟩, ⟨c, d⟩, ⟨e, f⟩, ⟨g, h⟩, ⟨i, j⟩, ⟨by omega, by omega⟩⟩
def vldK (k : Kd) : Bool := rngB k && k.longest % 10 == 0 && !k.cur.l.any badCu
def chkK (k : Kd) : Int := if vldK k then 0 else 120
def inn (n a b : Int) : Bool := decide (a ≤ n) && decide (n ≤ b)
def secB (s : Sec) : Bool := inn s.rad 0 64 && inn s.pro 0 s.rad
def plcB (n : Int) : Bool := inn n 0 64
def modeB (l : SliceOf Int) : Bool := inn l.l.length 1 16 && l.l.all plcB
def legB (n : Int) (x : Lg) : Bool := inn x.seg 0 127 && inn x.vol 0 (n - 1) && inn x.len 1 4096 && decide (0 < x.mi.l.length) && chkHE x.mi.l == 0
def apB (m n : Int) : Bool := inn n 0 (m - 1)
def wayB (n m : Int) (w : Wy) : Bool := apB m w.f && apB m w.t && inn w.legs.l.length 1 8 && w.legs.l.all (legB n)
def kindB (m : Nat) (k : Kd) : Bool := chkK k == 0 && k.cur.l.length == m
/-- The set of a sector's volumes, a bit for each; none: one is no volume, or listed twice. -/
def setGo (n : Nat) : Nat → List Int → Option Nat
  | x, [] => if x = 0 then none else some x
  | x, v :: r => if v < 0 ∨ (n : Int) ≤ v ∨ x &&& 2 ^ v.toNat ≠ 0 then none else setGo n (x ||| 2 ^ v.toNat) r
def setsGo (n : Nat) : List Sec → Option (List Nat)
  | [] => some []
  | s :: r => match setGo n 0 s.vs.l with
    | none => none
    | some x => (setsGo n r).map (x :: ·)
/-- The volumes of a row of sectors that do not meet. -/
def divGo (S : List Nat) : Nat → List Int → Option Nat
  | met, [] => some met
  | met, s :: r => if s < 0 ∨ (S.length : Int) ≤ s ∨ met &&& S.getD s.toNat 0 ≠ 0 then none else divGo S (met ||| S.getD s.toNat 0) r
def cfgB (n : Nat) (S : List Nat) (c : Cfg) : Bool := divGo S 0 c.ss.l == some (2 ^ n - 1)
def divT (n : Nat) (ss : List Sec) (cs : List Cfg) : Bool :=
  decide (1 ≤ n) && decide (n ≤ 64) && decide (ss.length ≤ 64) && decide (1 ≤ cs.length) && decide (cs.length ≤ 32) &&
    match setsGo n ss with
    | none => false
    | some S => cs.all (cfgB n S)
def chkT (t : Tab) : Int :=
  if inn t.n 1 64 && divT t.n.toNat t.ss.l t.cs.l && t.ss.l.all secB && decide (t.ms.l.length ≤ 16) && t.ms.l.all modeB && decide (t.ws.l.length ≤ 64) &&
    t.ws.l.all (wayB t.n t.ms.l.length) && decide (t.ks.l.length ≤ 8) && t.ks.l.all (kindB t.ms.l.length) then 0 else 140
/-- A change that is valid for tables. -/
def fitsB (t : Tab) (c : Chg) : Bool := decide (0 ≤ c.f) && decide (c.f < 1440) && decide (0 ≤ c.cfg) && decide (c.cfg < t.cs.l.length) && decide (c.ms.l.length = t.ms.l.length) &&
  (List.zip c.ms.l t.ms.l).all (fun p => decide (0 ≤ p.1) && decide (p.1 < p.2.l.length))
/-- The changes begin one behind the other. -/
def incB : List Chg → Bool
  | a :: b :: r => decide (a.f < b.f) && incB (b :: r)
  | _ => true
def vldS (t : Tab) (l : List Chg) : Bool :=
  match l with
  | [] => false
  | a :: _ => a.f == 0 && l.all (fitsB t) && incB l
def chkS (t : Tab) (l : List Chg) : Int := if chkT t ≠ 0 then chkT t else if vldS t l then 0 else 190
/-- The change in force at a minute. -/
def inGo (m : Int) : Option Chg → List Chg → Option Chg
  | c, [] => c
  | none, x :: r => if x.f ≤ m then inGo m (some x) r else inGo m none r
  | some c, x :: r => if x.f ≤ m ∧ c.f ≤ x.f then inGo m (some x) r else inGo m (some c) r
def noChg : Chg := ⟨0, 0, ⟨none, 0, []⟩⟩
def inS (l : List Chg) (m : Int) : Option Chg := inGo m none l
/-- The volumes of sector s. -/
def volsAt (ss : List Sec) (s : Int) : List Int := match ss[s.toNat]? with | some x => x.vs.l | none => []
/-- The sector of a volume among a configuration's. -/
def secOf (ss : List Sec) (v : Int) : List Int → Option Int
  | [] => none
  | s :: r => if 0 ≤ s ∧ s < ss.length ∧ (volsAt ss s).any (· == v) = true then some s else secOf ss v r
/-- The sector of a volume in configuration k. -/
def secIn (t : Tab) (k v : Int) : Option Int := if 0 ≤ k ∧ k < t.cs.l.length then (match t.cs.l[k.toNat]? with | some c => secOf t.ss.l v c.ss.l | none => none) else none
def secR (t : Tab) (l : List Chg) (v m : Int) : Option Int := match inS l m with | some c => secIn t c.cfg v | none => none
/-- A change is laid in its place. -/
def putC (l : List Chg) (c : Chg) : List Chg := l.filter (fun x => decide (x.f < c.f)) ++ c :: l.filter (fun x => decide (c.f < x.f))
def addE (t : Tab) (l : List Chg) (c : Chg) : Int :=
  if chkT t ≠ 0 then chkT t else if (l ≠ [] ∧ vldS t l = false) ∨ fitsB t c = false ∨ (l = [] ∧ c.f ≠ 0) then 190 else 0
def addL (t : Tab) (l : List Chg) (c : Chg) : List Chg := if addE t l c = 0 then putC l c else []
def sameI (a b : List Int) : Bool := decide (a.length = b.length) && (List.zip a b).all (fun p => p.1 == p.2)
def sameC (a b : Chg) : Bool := a.f == b.f && a.cfg == b.cfg && sameI a.ms.l b.ms.l
def sameS (a b : List Chg) : Bool := decide (a.length = b.length) && (List.zip a b).all (fun p => sameC p.1 p.2)
end Go.Proofs.YtilocjliplmmpaaGreat
/- What lies in memory keeps lying there. No program in sight. -/
set_option linter.unusedSimpArgs false
set_option linter.unusedVariables false
namespace Go.Proofs.YtilocjliplmmpaaGreat
open Go.RowKit
theorem SliceOf.ok.ext {α : Type} {enc : α → List Value} {sz : Nat} {ok : World → α → Prop} {w w' : World} {s : SliceOf α} (h : SliceOf.ok enc sz ok w s) (hb : Below w.heap.size w w') (hx : ∀ x, ok w x → ok w' x) : SliceOf.ok enc sz ok w' s :=
  ⟨h.1.ext hb, h.2.1, h.2.2.1, h.2.2.2.1, fun x hm => hx x (h.2.2.2.2 x hm)⟩
theorem SliceOf.ok.len {α : Type} {enc : α → List Value} {sz : Nat} {ok : World → α → Prop} {w : World} {s : SliceOf α} (h : SliceOf.ok enc sz ok w s) : s.l.length ≤ maxLen := Nat.le_trans h.2.1 h.2.2.1
theorem SliceOf.ok.slc {α : Type} {enc : α → List Value} {sz : Nat} {ok : World → α → Prop} {w : World} {s : SliceOf α} (h : SliceOf.ok enc sz ok w s) : Slc w enc sz s.A s.l := h.1
theorem SliceOf.ok.all {α : Type} {enc : α → List Value} {sz : Nat} {ok : World → α → Prop} {w : World} {s : SliceOf α} (h : SliceOf.ok enc sz ok w s) {x : α} (hx : x ∈ s.l) : ok w x := h.2.2.2.2 x hx
variable {w w' : World}
theorem Lg.ok.ext {x : Lg} (h : Lg.ok w x) (hb : Below w.heap.size w w') : Lg.ok w' x := SliceOf.ok.ext h hb (fun _ k => k)
theorem Wy.ok.ext {x : Wy} (h : Wy.ok w x) (hb : Below w.heap.size w w') : Wy.ok w' x := SliceOf.ok.ext h hb (fun _ k => k.ext hb)
theorem Kd.ok.ext {x : Kd} (h : Kd.ok w x) (hb : Below w.heap.size w w') : Kd.ok w' x := SliceOf.ok.ext h hb (fun _ k => SliceOf.ok.ext k hb (fun _ q => q))
theorem ints.ext {x : SliceOf Int} (h : SliceOf.ok ic 1 (fun _ n => (Lit.int .i64 n).wf = true) w x) (hb : Below w.heap.size w w') : SliceOf.ok ic 1 (fun _ n => (Lit.int .i64 n).wf = true) w' x := SliceOf.ok.ext h hb (fun _ k => k)
theorem Sec.ok.ext {x : Sec} (h : Sec.ok w x) (hb : Below w.heap.size w w') : Sec.ok w' x := ⟨h.1, h.2.1, ints.ext h.2.2 hb⟩
theorem Cfg.ok.ext {x : Cfg} (h : Cfg.ok w x) (hb : Below w.heap.size w w') : Cfg.ok w' x := ⟨h.1, h.2.1, ints.ext h.2.2 hb⟩
theorem Chg.ok.ext {x : Chg} (h : Chg.ok w x) (hb : Below w.heap.size w w') : Chg.ok w' x := ints.ext h hb
theorem Sch.ok.ext {x : Sch} (h : Sch.ok w x) (hb : Below w.heap.size w w') : Sch.ok w' x := SliceOf.ok.ext h hb (fun _ k => k.ext hb)
theorem Nd.ok.ext {x : Nd} (h : Nd.ok w x) (hb : Below w.heap.size w w') : Nd.ok w' x := SliceOf.ok.ext h hb (fun _ k => k)
theorem secs.ext {x : SliceOf Sec} (h : SliceOf.ok Sec.cells 5 Sec.ok w x) (hb : Below w.heap.size w w') : SliceOf.ok Sec.cells 5 Sec.ok w' x := SliceOf.ok.ext h hb (fun _ k => k.ext hb)
theorem cfgs.ext {x : SliceOf Cfg} (h : SliceOf.ok Cfg.cells 3 Cfg.ok w x) (hb : Below w.heap.size w w') : SliceOf.ok Cfg.cells 3 Cfg.ok w' x := SliceOf.ok.ext h hb (fun _ k => k.ext hb)
theorem wys.ext {x : SliceOf Wy} (h : SliceOf.ok Wy.cells 3 Wy.ok w x) (hb : Below w.heap.size w w') : SliceOf.ok Wy.cells 3 Wy.ok w' x := SliceOf.ok.ext h hb (fun _ k => k.ext hb)
theorem mds.ext {x : SliceOf (SliceOf Int)} (h : SliceOf.ok SliceOf.enc 1 (SliceOf.ok ic 1 (fun _ n => (Lit.int .i64 n).wf = true)) w x) (hb : Below w.heap.size w w') : SliceOf.ok SliceOf.enc 1 (SliceOf.ok ic 1 (fun _ n => (Lit.int .i64 n).wf = true)) w' x := SliceOf.ok.ext h hb (fun _ k => ints.ext k hb)
theorem kds.ext {x : SliceOf Kd} (h : SliceOf.ok Kd.cells 6 Kd.ok w x) (hb : Below w.heap.size w w') : SliceOf.ok Kd.cells 6 Kd.ok w' x := SliceOf.ok.ext h hb (fun _ k => k.ext hb)
theorem Tab.ok.ext {x : Tab} (h : Tab.ok w x) (hb : Below w.heap.size w w') : Tab.ok w' x :=
  ⟨secs.ext h.1 hb, cfgs.ext h.2.1 hb, wys.ext h.2.2.1 hb, mds.ext h.2.2.2.1 hb, kds.ext h.2.2.2.2 hb⟩
end Go.Proofs.YtilocjliplmmpaaGreat
/- What a division says: each volume is in one sector. No program in sight. -/
set_option linter.unusedSimpArgs false
set_option linter.unusedVariables false
namespace Go.Proofs.YtilocjliplmmpaaGreat
theorem and_two_zero {x k : Nat} : x &&& 2 ^ k = 0 ↔ x.testBit k = false := by
  constructor
  · intro h
    have := congrArg (fun z => z.testBit k) h
    simpa [Nat.testBit_and, Nat.testBit_two_pow] using this
  · intro h
    refine Nat.eq_of_testBit_eq fun i => ?_
    rw [Nat.testBit_and, Nat.testBit_two_pow, Nat.zero_testBit]
    by_cases e : k = i
    · subst e; simp [h]
    · simp [e]
theorem setGo_some {n : Nat} : ∀ {vs : List Int} {x y : Nat}, setGo n x vs = some y →
    y ≠ 0 ∧ (∀ v ∈ vs, 0 ≤ v ∧ v < n ∧ x.testBit v.toNat = false) ∧ vs.Nodup ∧ ∀ i : Nat, y.testBit i = (x.testBit i || decide ((i : Int) ∈ vs))
  | [], x, y, h => by
    simp only [setGo] at h
    split at h
    · cases h
    · cases h; exact ⟨by assumption, by simp, List.nodup_nil, by simp⟩
  | v :: r, x, y, h => by
    simp only [setGo] at h
    split at h
    · cases h
    · rename_i hc
      simp only [not_or, Int.not_lt, Int.not_le, Decidable.not_not] at hc
      obtain ⟨h0, h1, h2⟩ := hc
      have hx : x.testBit v.toNat = false := and_two_zero.1 h2
      obtain ⟨e0, e1, e2, e3⟩ := setGo_some h
      have hor : ∀ i, (x ||| 2 ^ v.toNat).testBit i = (x.testBit i || decide (v.toNat = i)) := fun i => by rw [Nat.testBit_or, Nat.testBit_two_pow]
      refine ⟨e0, ?_, ?_, ?_⟩
      · intro u hu
        rcases List.mem_cons.1 hu with rfl | hu
        · exact ⟨h0, h1, hx⟩
        · obtain ⟨a, b, c⟩ := e1 u hu
          rw [hor, Bool.or_eq_false_iff] at c
          exact ⟨a, b, c.1⟩
      · refine List.nodup_cons.2 ⟨fun hm => ?_, e2⟩
        have := (e1 v hm).2.2
        rw [hor, Bool.or_eq_false_iff] at this
        simp at this
      · intro i
        rw [e3, hor, Bool.or_assoc]
        congr 1
        rw [Bool.eq_iff_iff]
        simp only [Bool.or_eq_true, decide_eq_true_eq, List.mem_cons]
        constructor
        · rintro (h | h)
          · left; omega
          · exact .inr h
        · rintro (h | h)
          · left; omega
          · exact .inr h
theorem and_zero_bits {x y : Nat} (h : x &&& y = 0) (i : Nat) : (x ||| y).testBit i = (x.testBit i || y.testBit i) ∧ (x.testBit i && y.testBit i) = false := by
  refine ⟨Nat.testBit_or .., ?_⟩
  have := congrArg (fun z => z.testBit i) h
  simpa only [Nat.testBit_and, Nat.zero_testBit] using this
theorem divGo_some {S : List Nat} : ∀ {ss : List Int} {met y : Nat}, divGo S met ss = some y →
    (∀ s ∈ ss, 0 ≤ s ∧ s < S.length) ∧ ∀ i : Nat, ss.countP (fun s => (S.getD s.toNat 0).testBit i) + (met.testBit i).toNat = (y.testBit i).toNat
  | [], met, y, h => by
    simp only [divGo, Option.some.injEq] at h
    subst h
    exact ⟨by simp, fun i => by simp⟩
  | s :: r, met, y, h => by
    simp only [divGo] at h
    split at h
    · cases h
    · rename_i hc
      simp only [not_or, Int.not_lt, Int.not_le, Decidable.not_not] at hc
      obtain ⟨h0, h1, h2⟩ := hc
      obtain ⟨e1, e2⟩ := divGo_some h
      refine ⟨fun u hu => ?_, fun i => ?_⟩
      · rcases List.mem_cons.1 hu with rfl | hu
        · exact ⟨h0, h1⟩
        · exact e1 u hu
      · obtain ⟨b1, b2⟩ := and_zero_bits h2 i
        have := e2 i
        rw [b1] at this
        rw [← this, List.countP_cons]
        revert b2
        cases met.testBit i <;> cases (S.getD s.toNat 0).testBit i <;> simp
theorem setsGo_some {n : Nat} : ∀ {ss : List Sec} {S : List Nat}, setsGo n ss = some S → S.length = ss.length ∧ ∀ (k : Nat) (s : Sec), ss[k]? = some s → ∃ y, S[k]? = some y ∧ setGo n 0 s.vs.l = some y
  | [], S, h => by
    simp only [setsGo, Option.some.injEq] at h
    subst h
    exact ⟨rfl, fun k s hk => by simp at hk⟩
  | s :: r, S, h => by
    simp only [setsGo] at h
    split at h
    · cases h
    · rename_i x hx
      rw [Option.map_eq_some_iff] at h
      obtain ⟨S', h', rfl⟩ := h
      obtain ⟨e1, e2⟩ := setsGo_some h'
      refine ⟨by simp [e1], fun k u hk => ?_⟩
      cases k with
      | zero => simp at hk; subst hk; exact ⟨x, rfl, hx⟩
      | succ k => simpa using e2 k u (by simpa using hk)
theorem count_nodup {l : List Int} (h : l.Nodup) (v : Int) : l.count v = if v ∈ l then 1 else 0 := by
  induction l with
  | nil => simp
  | cons x r ih =>
    obtain ⟨h1, h2⟩ := List.nodup_cons.1 h
    rw [List.count_cons, ih h2]
    by_cases e : x = v
    · subst e; simp [h1]
    · have e' : ¬ v = x := fun q => e q.symm
      simp [e, e']
theorem ones_bit (n i : Nat) : (2 ^ n - 1).testBit i = decide (i < n) := Nat.testBit_two_pow_sub_one ..
structure Div (n : Nat) (ss : List Sec) (c : Cfg) : Prop where
  inx : ∀ s ∈ c.ss.l, 0 ≤ s ∧ s < ss.length
  nod : ∀ s ∈ c.ss.l, (volsAt ss s).Nodup
  vol : ∀ s ∈ c.ss.l, ∀ v ∈ volsAt ss s, 0 ≤ v ∧ v < n
  one : ∀ v : Int, 0 ≤ v → v < n → c.ss.l.countP (fun s => decide (v ∈ volsAt ss s)) = 1
theorem div_of {n : Nat} {ss : List Sec} {cs : List Cfg} (h : divT n ss cs = true) {c : Cfg} (hc : c ∈ cs) : Div n ss c := by
  unfold divT at h
  rw [Bool.and_eq_true] at h
  obtain ⟨_, h⟩ := h
  split at h
  · cases h
  · rename_i S hS
    obtain ⟨eL, eS⟩ := setsGo_some hS
    have hd := List.all_eq_true.1 h c hc
    simp only [cfgB, beq_iff_eq] at hd
    obtain ⟨d1, d2⟩ := divGo_some hd
    have key : ∀ s ∈ c.ss.l, ∃ y, S.getD s.toNat 0 = y ∧ setGo n 0 (volsAt ss s) = some y := fun s hs => by
      obtain ⟨a, b⟩ := d1 s hs
      have hk : s.toNat < ss.length := by omega
      obtain ⟨y, e1, e2⟩ := eS s.toNat _ (List.getElem?_eq_getElem hk)
      refine ⟨y, by simp [List.getD, e1], ?_⟩
      simpa [volsAt, List.getElem?_eq_getElem hk] using e2
    refine ⟨fun s hs => by have := d1 s hs; omega, fun s hs => ?_, fun s hs v hv => ?_, fun v h0 h1 => ?_⟩
    · obtain ⟨y, _, e⟩ := key s hs
      exact (setGo_some e).2.2.1
    · obtain ⟨y, _, e⟩ := key s hs
      have := (setGo_some e).2.1 v hv
      exact ⟨this.1, this.2.1⟩
    · have := d2 v.toNat
      rw [ones_bit] at this
      have hv : v.toNat < n := by omega
      simp only [Nat.zero_testBit, Bool.toNat_false, Nat.add_zero, hv, decide_true, Bool.toNat_true] at this
      rw [← this]
      refine List.countP_congr fun s hs => ?_
      obtain ⟨y, e1, e2⟩ := key s hs
      have := (setGo_some e2).2.2.2 v.toNat
      rw [e1, this]
      have hvv : (v.toNat : Int) = v := by omega
      simp [hvv]
theorem secOf_mem {ss : List Sec} {v : Int} : ∀ {l : List Int} {s : Int}, secOf ss v l = some s → s ∈ l ∧ 0 ≤ s ∧ s < ss.length ∧ v ∈ volsAt ss s
  | [], s, h => by simp [secOf] at h
  | x :: r, s, h => by
    simp only [secOf] at h
    split at h
    · rename_i hc
      cases h
      obtain ⟨a, b, c⟩ := hc
      refine ⟨List.mem_cons_self, a, b, ?_⟩
      simpa using c
    · obtain ⟨a, b⟩ := secOf_mem h
      exact ⟨List.mem_cons_of_mem _ a, b⟩
theorem secOf_some {ss : List Sec} {v : Int} : ∀ {l : List Int} {x : Int}, x ∈ l → 0 ≤ x → x < ss.length → v ∈ volsAt ss x → ∃ s, secOf ss v l = some s
  | y :: r, x, hx, h0, h1, hv => by
    simp only [secOf]
    split
    · exact ⟨_, rfl⟩
    · rename_i hn
      rcases List.mem_cons.1 hx with rfl | hx
      · exact absurd ⟨h0, h1, by simpa using hv⟩ hn
      · exact secOf_some hx h0 h1 hv
/-- Each volume has its sector. -/
theorem Div.sec {n : Nat} {ss : List Sec} {c : Cfg} (h : Div n ss c) {v : Int} (h0 : 0 ≤ v) (h1 : v < n) : ∃ s, secOf ss v c.ss.l = some s := by
  have := h.one v h0 h1
  obtain ⟨x, hx, hv⟩ := List.countP_pos_iff.1 (by omega : 0 < c.ss.l.countP (fun s => decide (v ∈ volsAt ss s)))
  obtain ⟨a, b⟩ := h.inx x hx
  exact secOf_some hx a b (by simpa using hv)
/-- The number of places at which a volume is listed. -/
def manyS (ss : List Sec) (v : Int) (l : List Int) : Nat := (l.map (fun s => (volsAt ss s).count v)).sum
theorem manyS_count {ss : List Sec} {v : Int} : ∀ {l : List Int}, (∀ s ∈ l, (volsAt ss s).Nodup) → manyS ss v l = l.countP (fun s => decide (v ∈ volsAt ss s))
  | [], _ => rfl
  | x :: r, h => by
    have ih := manyS_count (ss := ss) (v := v) (l := r) (fun s hs => h s (List.mem_cons_of_mem _ hs))
    unfold manyS at ih ⊢
    rw [List.map_cons, List.sum_cons, ih, count_nodup (h x List.mem_cons_self), List.countP_cons]
    by_cases e : v ∈ volsAt ss x <;> simp [e]; omega
theorem Div.many {n : Nat} {ss : List Sec} {c : Cfg} (h : Div n ss c) {v : Int} (h0 : 0 ≤ v) (h1 : v < n) : manyS ss v c.ss.l = 1 := (manyS_count h.nod).trans (h.one v h0 h1)
end Go.Proofs.YtilocjliplmmpaaGreat
/- What Add and In say of each other. No program in sight. -/
set_option linter.unusedSimpArgs false
set_option linter.unusedVariables false
namespace Go.Proofs.YtilocjliplmmpaaGreat
abbrev Inc (l : List Chg) : Prop := l.Pairwise (fun x y => x.f < y.f)
theorem inc_of : ∀ {l : List Chg}, incB l = true → Inc l
  | [], _ => List.Pairwise.nil
  | [a], _ => List.pairwise_singleton _ _
  | a :: b :: r, h => by
    simp only [incB, Bool.and_eq_true, decide_eq_true_eq] at h
    have ih := inc_of h.2
    refine List.pairwise_cons.2 ⟨fun x hx => ?_, ih⟩
    rcases List.mem_cons.1 hx with rfl | hx
    · exact h.1
    · have := (List.pairwise_cons.1 ih).1 x hx; omega
theorem of_inc : ∀ {l : List Chg}, Inc l → incB l = true
  | [], _ => rfl
  | [a], _ => rfl
  | a :: b :: r, h => by
    obtain ⟨h1, h2⟩ := List.pairwise_cons.1 h
    simp only [incB, Bool.and_eq_true, decide_eq_true_eq]
    exact ⟨h1 b List.mem_cons_self, of_inc h2⟩
structure VS (t : Tab) (l : List Chg) : Prop where
  hd : ∃ a r, l = a :: r ∧ a.f = 0
  fit : ∀ x ∈ l, fitsB t x = true
  inc : Inc l
theorem vldS_iff {t : Tab} {l : List Chg} : vldS t l = true ↔ VS t l := by
  cases l with
  | nil => exact ⟨fun h => by simp [vldS] at h, fun h => by obtain ⟨a, r, e, _⟩ := h.hd; cases e⟩
  | cons a r =>
    simp only [vldS, Bool.and_eq_true, beq_iff_eq, List.all_eq_true]
    constructor
    · rintro ⟨⟨h1, h2⟩, h3⟩
      exact ⟨⟨a, r, rfl, h1⟩, h2, inc_of h3⟩
    · intro h
      obtain ⟨a', r', e, h1⟩ := h.hd
      cases e
      exact ⟨⟨h1, h.fit⟩, of_inc h.inc⟩
theorem fits_f {t : Tab} {c : Chg} (h : fitsB t c = true) : 0 ≤ c.f ∧ c.f < 1440 ∧ 0 ≤ c.cfg ∧ c.cfg < t.cs.l.length := by
  simp only [fitsB, Bool.and_eq_true, decide_eq_true_eq] at h
  obtain ⟨⟨⟨⟨⟨a, b⟩, d⟩, e⟩, _⟩, _⟩ := h
  exact ⟨a, b, d, e⟩
theorem mem_putC {l : List Chg} {c x : Chg} : x ∈ putC l c ↔ x = c ∨ (x ∈ l ∧ x.f ≠ c.f) := by
  simp only [putC, List.mem_append, List.mem_cons, List.mem_filter, decide_eq_true_eq]
  constructor
  · rintro (⟨h1, h2⟩ | h | ⟨h1, h2⟩)
    · exact .inr ⟨h1, by omega⟩
    · exact .inl h
    · exact .inr ⟨h1, by omega⟩
  · rintro (h | ⟨h1, h2⟩)
    · exact .inr (.inl h)
    · by_cases e : x.f < c.f
      · exact .inl ⟨h1, e⟩
      · exact .inr (.inr ⟨h1, by omega⟩)
theorem inc_putC {l : List Chg} {c : Chg} (h : Inc l) : Inc (putC l c) := by
  refine List.pairwise_append.2 ⟨h.sublist List.filter_sublist, List.pairwise_cons.2 ⟨fun x hx => ?_, h.sublist List.filter_sublist⟩, fun x hx y hy => ?_⟩
  · simpa using (List.mem_filter.1 hx).2
  · have h1 : x.f < c.f := by simpa using (List.mem_filter.1 hx).2
    rcases List.mem_cons.1 hy with rfl | hy
    · exact h1
    · have h2 : c.f < y.f := by simpa using (List.mem_filter.1 hy).2
      omega
structure AddOk (t : Tab) (l : List Chg) (c : Chg) : Prop where
  tab : chkT t = 0
  old : l = [] ∨ VS t l
  fit : fitsB t c = true
  first : l = [] → c.f = 0
theorem addE_ok {t : Tab} {l : List Chg} {c : Chg} : addE t l c = 0 ↔ AddOk t l c := by
  unfold addE
  constructor
  · intro h
    split at h
    · rename_i hn; exact absurd h hn
    · rename_i hn
      simp only [ne_eq, Decidable.not_not] at hn
      split at h
      · cases h
      · rename_i hc
        simp only [ne_eq, not_or, not_and, Bool.not_eq_false, Decidable.not_not] at hc
        obtain ⟨h1, h2, h3⟩ := hc
        exact ⟨hn, by by_cases e : l = []; exact .inl e; exact .inr (vldS_iff.1 (h1 e)), h2, h3⟩
  · rintro ⟨h1, h2, h3, h4⟩
    rw [if_neg (by simpa using h1), if_neg]
    simp only [ne_eq, not_or, not_and, Bool.not_eq_false, Decidable.not_not]
    refine ⟨fun e => ?_, h3, h4⟩
    rcases h2 with h2 | h2
    · exact absurd h2 e
    · exact vldS_iff.2 h2
theorem AddOk.vs {t : Tab} {l : List Chg} {c : Chg} (h : AddOk t l c) : VS t (putC l c) := by
  have hinc : Inc l := by rcases h.old with rfl | h; exact List.Pairwise.nil; exact h.inc
  refine ⟨?_, fun x hx => ?_, inc_putC hinc⟩
  · rcases h.old with rfl | hv
    · exact ⟨c, [], by simp [putC], h.first rfl⟩
    · obtain ⟨a, r, rfl, h0⟩ := hv.hd
      have c0 := (fits_f h.fit).1
      by_cases e : c.f = 0
      · refine ⟨c, (a :: r).filter (fun x => decide (c.f < x.f)), ?_, e⟩
        have : (a :: r).filter (fun x => decide (x.f < c.f)) = [] := List.filter_eq_nil_iff.2 fun x hx => by
          have := (fits_f (hv.fit x hx)).1
          simp; omega
        simp [putC, this]
      · refine ⟨a, r.filter (fun x => decide (x.f < c.f)) ++ c :: (a :: r).filter (fun x => decide (c.f < x.f)), ?_, h0⟩
        have : decide (a.f < c.f) = true := by simp; omega
        simp [putC, List.filter_cons, this]
  · rcases mem_putC.1 hx with rfl | ⟨hx, _⟩
    · exact h.fit
    · rcases h.old with rfl | hv
      · cases hx
      · exact hv.fit x hx
theorem AddOk.again {t : Tab} {l : List Chg} {c : Chg} (h : AddOk t l c) : AddOk t (putC l c) c ∧ putC (putC l c) c = putC l c := by
  refine ⟨⟨h.tab, .inr h.vs, h.fit, fun e => by obtain ⟨a, r, e', _⟩ := h.vs.hd; rw [e] at e'; cases e'⟩, ?_⟩
  have f1 : (putC l c).filter (fun x => decide (x.f < c.f)) = l.filter (fun x => decide (x.f < c.f)) := by
    unfold putC
    rw [List.filter_append, List.filter_cons, List.filter_filter, List.filter_filter]
    simp only [Int.lt_irrefl, decide_false, Bool.false_eq_true, if_false, Bool.and_self]
    have : l.filter (fun x => decide (x.f < c.f) && decide (c.f < x.f)) = [] := List.filter_eq_nil_iff.2 fun x _ => by simp; omega
    rw [this, List.append_nil]
  have f2 : (putC l c).filter (fun x => decide (c.f < x.f)) = l.filter (fun x => decide (c.f < x.f)) := by
    unfold putC
    rw [List.filter_append, List.filter_cons, List.filter_filter, List.filter_filter]
    simp only [Int.lt_irrefl, decide_false, Bool.false_eq_true, if_false, Bool.and_self]
    have : l.filter (fun x => decide (c.f < x.f) && decide (x.f < c.f)) = [] := List.filter_eq_nil_iff.2 fun x _ => by simp; omega
    rw [this, List.nil_append]
  have e : putC (putC l c) c = (putC l c).filter (fun x => decide (x.f < c.f)) ++ c :: (putC l c).filter (fun x => decide (c.f < x.f)) := rfl
  rw [e, f1, f2]
  rfl
/-- In a row that grows, the change in force is the last one that has begun. -/
theorem inGo_last {m : Int} : ∀ {l : List Chg} {o : Option Chg}, Inc l → (∀ c, o = some c → ∀ x ∈ l, c.f < x.f) → inGo m o l = (match (l.filter (fun x => decide (x.f ≤ m))).getLast? with | some x => some x | none => o)
  | [], o, _, _ => by cases o <;> rfl
  | x :: r, o, h, ho => by
    obtain ⟨h1, h2⟩ := List.pairwise_cons.1 h
    have hx : inGo m o (x :: r) = inGo m (if x.f ≤ m then some x else o) r := by
      cases o with
      | none => simp only [inGo]; split <;> rfl
      | some c =>
        have := ho c rfl x List.mem_cons_self
        simp only [inGo]
        by_cases e : x.f ≤ m
        · rw [if_pos ⟨e, by omega⟩, if_pos e]
        · rw [if_neg (fun q => e q.1), if_neg e]
    rw [hx, List.filter_cons]
    by_cases e : x.f ≤ m
    · rw [if_pos e, inGo_last h2 (fun c hc y hy => by cases hc; exact h1 y hy)]
      simp only [e, decide_true, if_true]
      cases hl : (r.filter (fun x => decide (x.f ≤ m))) with
      | nil => simp
      | cons a b => simp [List.getLast?_cons]
    · rw [if_neg e, inGo_last h2 (fun c hc y hy => ho c hc y (List.mem_cons_of_mem _ hy))]
      simp [e]
theorem inS_last {l : List Chg} (h : Inc l) (m : Int) : inS l m = (l.filter (fun x => decide (x.f ≤ m))).getLast? := by
  unfold inS
  rw [inGo_last h (fun c hc => by cases hc)]
  cases (l.filter (fun x => decide (x.f ≤ m))).getLast? <;> rfl
theorem inc_split {l : List Chg} (h : Inc l) (k : Int) : l = l.filter (fun x => decide (x.f ≤ k)) ++ l.filter (fun x => decide (k < x.f)) := by
  induction l with
  | nil => rfl
  | cons x r ih =>
    obtain ⟨h1, h2⟩ := List.pairwise_cons.1 h
    by_cases e : x.f ≤ k
    · have e' : ¬ k < x.f := by omega
      simp only [List.filter_cons, e, e', decide_true, decide_false, if_true, Bool.false_eq_true, if_false, List.cons_append]
      rw [← ih h2]
    · have e' : k < x.f := by omega
      have : r.filter (fun x => decide (x.f ≤ k)) = [] := List.filter_eq_nil_iff.2 fun y hy => by have := h1 y hy; simp; omega
      have h3 : r.filter (fun x => decide (k < x.f)) = r := List.filter_eq_self.2 fun y hy => by have := h1 y hy; simp; omega
      simp [List.filter_cons, e, e', this, h3]
/-- Before the change, and behind the next one, all is as before; in between the change is in force. -/
theorem in_putC {l : List Chg} {c : Chg} (h : Inc l) (m : Int) :
    inS (putC l c) m = if c.f ≤ m ∧ ∀ x ∈ l, c.f < x.f → m < x.f then some c else inS l m := by
  rw [inS_last (inc_putC h), inS_last h]
  by_cases hm : c.f ≤ m
  · have e1 : (putC l c).filter (fun x => decide (x.f ≤ m)) = l.filter (fun x => decide (x.f < c.f)) ++ c :: l.filter (fun x => decide (x.f ≤ m) && decide (c.f < x.f)) := by
      unfold putC
      rw [List.filter_append, List.filter_cons, List.filter_filter, List.filter_filter]
      simp only [hm, decide_true, if_true]
      congr 1
      refine List.filter_congr fun x _ => ?_
      rw [Bool.eq_iff_iff]; simp; omega
    rw [e1]
    by_cases hn : ∀ x ∈ l, c.f < x.f → m < x.f
    · rw [if_pos ⟨hm, hn⟩]
      have : l.filter (fun x => decide (x.f ≤ m) && decide (c.f < x.f)) = [] := List.filter_eq_nil_iff.2 fun x hx => by
        have := hn x hx
        simp; omega
      rw [this]; simp
    · rw [if_neg (fun q => hn q.2)]
      have hne : l.filter (fun x => decide (x.f ≤ m) && decide (c.f < x.f)) ≠ [] := fun q => hn fun x hx hc => by
        have := List.filter_eq_nil_iff.1 q x hx
        simp at this; omega
      have e2 : l.filter (fun x => decide (x.f ≤ m)) = l.filter (fun x => decide (x.f ≤ m) && decide (x.f ≤ c.f)) ++ l.filter (fun x => decide (x.f ≤ m) && decide (c.f < x.f)) := by
        conv => lhs; rw [inc_split h c.f]
        rw [List.filter_append, List.filter_filter, List.filter_filter]
      rw [e2]
      obtain ⟨z, hz⟩ : ∃ z, (l.filter (fun x => decide (x.f ≤ m) && decide (c.f < x.f))).getLast? = some z := by
        cases hq : (l.filter (fun x => decide (x.f ≤ m) && decide (c.f < x.f))).getLast? with
        | none => exact absurd (List.getLast?_eq_none_iff.1 hq) hne
        | some z => exact ⟨z, rfl⟩
      rw [List.getLast?_append, List.getLast?_append, List.getLast?_cons, hz]
      simp
  · rw [if_neg (fun q => hm q.1)]
    congr 1
    unfold putC
    rw [List.filter_append, List.filter_cons, List.filter_filter, List.filter_filter]
    simp only [hm, decide_false, Bool.false_eq_true, if_false]
    have : l.filter (fun x => decide (x.f ≤ m) && decide (c.f < x.f)) = [] := List.filter_eq_nil_iff.2 fun x _ => by simp; omega
    rw [this, List.append_nil]
    refine List.filter_congr fun x _ => ?_
    rw [Bool.eq_iff_iff]; simp; omega
/-- In a valid scheme something is in force at every minute. -/
theorem VS.at_ {t : Tab} {l : List Chg} (h : VS t l) {m : Int} (hm : 0 ≤ m) : ∃ c, inS l m = some c ∧ c ∈ l := by
  rw [inS_last h.inc]
  obtain ⟨a, r, rfl, h0⟩ := h.hd
  have ha : a ∈ (a :: r).filter (fun x => decide (x.f ≤ m)) := List.mem_filter.2 ⟨List.mem_cons_self, by simp; omega⟩
  cases hq : ((a :: r).filter (fun x => decide (x.f ≤ m))).getLast? with
  | none => rw [List.getLast?_eq_none_iff] at hq; rw [hq] at ha; cases ha
  | some z => exact ⟨z, rfl, (List.mem_filter.1 (List.mem_of_getLast? hq)).1⟩
theorem sameI_refl (a : List Int) : sameI a a = true := by
  simp only [sameI, decide_true, Bool.true_and, List.all_eq_true, beq_iff_eq]
  intro p hp
  induction a with
  | nil => simp at hp
  | cons x r ih =>
    rcases List.mem_cons.1 hp with rfl | hp
    · rfl
    · exact ih hp
theorem sameC_refl (a : Chg) : sameC a a = true := by simp [sameC, sameI_refl]
theorem sameS_refl (a : List Chg) : sameS a a = true := by
  simp only [sameS, decide_true, Bool.true_and, List.all_eq_true]
  intro p hp
  induction a with
  | nil => simp at hp
  | cons x r ih =>
    rcases List.mem_cons.1 hp with rfl | hp
    · exact sameC_refl _
    · exact ih hp
end Go.Proofs.YtilocjliplmmpaaGreat
/- The reference's check of tables says what chkT says. No program in sight. -/
set_option linter.unusedSimpArgs false
set_option linter.unusedVariables false
namespace Go.Proofs.YtilocjliplmmpaaGreat
/-- Different indices below a bound. -/
def idxB (n : Nat) (l : List Int) : Bool := l.all (fun x => inn x 0 (n - 1)) && decide l.Nodup
def cntS (ss : List Sec) (v : Int) (l : List Int) : Nat := l.countP (fun s => (volsAt ss s).any (· == v))
def dvdB (n : Nat) (ss : List Sec) (c : Cfg) : Bool := idxB ss.length c.ss.l && (List.range n).all (fun v => cntS ss v c.ss.l == 1)
def volB (n : Nat) (s : Sec) : Bool := decide (0 < s.vs.l.length) && idxB n s.vs.l
def chkD (n : Nat) (ss : List Sec) (cs : List Cfg) : Bool :=
  decide (1 ≤ n) && decide (n ≤ 64) && decide (ss.length ≤ 64) && decide (1 ≤ cs.length) && decide (cs.length ≤ 32) && (ss.all (volB n) && cs.all (dvdB n ss))
theorem idxB_iff {n : Nat} {l : List Int} : idxB n l = true ↔ (∀ x ∈ l, 0 ≤ x ∧ x < n) ∧ l.Nodup := by
  simp only [idxB, Bool.and_eq_true, List.all_eq_true, decide_eq_true_eq, inn]
  constructor
  · rintro ⟨h1, h2⟩; exact ⟨fun x hx => by have := h1 x hx; omega, h2⟩
  · rintro ⟨h1, h2⟩; exact ⟨fun x hx => by have := h1 x hx; omega, h2⟩
theorem setGo_of {n : Nat} : ∀ {vs : List Int} {x : Nat}, (∀ v ∈ vs, 0 ≤ v ∧ v < n ∧ x.testBit v.toNat = false) → vs.Nodup → (x ≠ 0 ∨ vs ≠ []) → ∃ y, setGo n x vs = some y
  | [], x, _, _, h => by
    rcases h with h | h
    · exact ⟨x, by simp [setGo, h]⟩
    · exact absurd rfl h
  | v :: r, x, h, hn, _ => by
    obtain ⟨a, b, c⟩ := h v List.mem_cons_self
    obtain ⟨n1, n2⟩ := List.nodup_cons.1 hn
    have hb : (x ||| 2 ^ v.toNat).testBit v.toNat = true := by rw [Nat.testBit_or, Nat.testBit_two_pow]; simp
    obtain ⟨y, hy⟩ := setGo_of (n := n) (vs := r) (x := x ||| 2 ^ v.toNat) (fun u hu => by
      obtain ⟨p, q, s⟩ := h u (List.mem_cons_of_mem _ hu)
      refine ⟨p, q, ?_⟩
      rw [Nat.testBit_or, Nat.testBit_two_pow, s]
      have : ¬ v.toNat = u.toNat := fun e => n1 (by have : v = u := by omega
                                                    rw [this]; exact hu)
      simp [this]) n2 (.inl fun e => by rw [e] at hb; simp at hb)
    refine ⟨y, ?_⟩
    simp only [setGo]
    rw [if_neg (by simp only [not_or, Int.not_lt, Int.not_le, Decidable.not_not]; exact ⟨a, b, and_two_zero.2 c⟩)]
    exact hy
theorem setsGo_of {n : Nat} : ∀ {ss : List Sec}, (∀ s ∈ ss, ∃ y, setGo n 0 s.vs.l = some y) → ∃ S, setsGo n ss = some S
  | [], _ => ⟨[], rfl⟩
  | s :: r, h => by
    obtain ⟨y, hy⟩ := h s List.mem_cons_self
    obtain ⟨S, hS⟩ := setsGo_of (ss := r) fun u hu => h u (List.mem_cons_of_mem _ hu)
    exact ⟨y :: S, by simp only [setsGo, hy, hS, Option.map_some]⟩
theorem divGo_of {S : List Nat} : ∀ {ss : List Int} {met : Nat}, (∀ s ∈ ss, 0 ≤ s ∧ s < S.length) → (∀ i : Nat, ss.countP (fun s => (S.getD s.toNat 0).testBit i) + (met.testBit i).toNat ≤ 1) → ∃ y, divGo S met ss = some y
  | [], met, _, _ => ⟨met, rfl⟩
  | s :: r, met, h, hc => by
    obtain ⟨a, b⟩ := h s List.mem_cons_self
    have hz : met &&& S.getD s.toNat 0 = 0 := by
      refine Nat.eq_of_testBit_eq fun i => ?_
      have := hc i
      rw [List.countP_cons] at this
      rw [Nat.testBit_and, Nat.zero_testBit]
      revert this
      cases met.testBit i <;> cases (S.getD s.toNat 0).testBit i <;> simp
    obtain ⟨y, hy⟩ := divGo_of (S := S) (ss := r) (met := met ||| S.getD s.toNat 0) (fun u hu => h u (List.mem_cons_of_mem _ hu)) fun i => by
      have := hc i
      rw [List.countP_cons] at this
      have hb := (and_zero_bits hz i).2
      rw [Nat.testBit_or]
      revert this hb
      cases met.testBit i <;> cases (S.getD s.toNat 0).testBit i <;> simp
    refine ⟨y, ?_⟩
    simp only [divGo]
    rw [if_neg (by simp only [not_or, Int.not_lt, Int.not_le, Decidable.not_not]; exact ⟨a, b, hz⟩)]
    exact hy
theorem nodup_count {α : Type} {P : Nat → α → Bool} : ∀ {l : List α}, (∀ i, l.countP (P i) ≤ 1) → (∀ s ∈ l, ∃ i, P i s = true) → l.Nodup
  | [], _, _ => List.nodup_nil
  | s :: r, h, hx => by
    refine List.nodup_cons.2 ⟨fun hm => ?_, nodup_count (fun i => by have := h i; rw [List.countP_cons] at this; omega) fun u hu => hx u (List.mem_cons_of_mem _ hu)⟩
    obtain ⟨i, hi⟩ := hx s List.mem_cons_self
    have := h i
    rw [List.countP_cons, hi, if_pos rfl] at this
    have h2 : 0 < r.countP (P i) := List.countP_pos_iff.2 ⟨s, hm, hi⟩
    omega
/-- The reference's division is the program's. -/
theorem chkD_eq (n : Nat) (ss : List Sec) (cs : List Cfg) : chkD n ss cs = divT n ss cs := by
  unfold chkD divT
  congr 1
  rw [Bool.eq_iff_iff, Bool.and_eq_true, List.all_eq_true, List.all_eq_true]
  constructor
  · rintro ⟨h1, h2⟩
    have hset : ∀ s ∈ ss, ∃ y, setGo n 0 s.vs.l = some y := fun s hs => by
      have := h1 s hs
      simp only [volB, Bool.and_eq_true, decide_eq_true_eq] at this
      obtain ⟨q1, q2⟩ := this
      rw [idxB_iff] at q2
      exact setGo_of (fun v hv => ⟨(q2.1 v hv).1, (q2.1 v hv).2, by simp⟩) q2.2 (.inr fun e => by rw [e] at q1; simp at q1)
    obtain ⟨S, hS⟩ := setsGo_of hset
    obtain ⟨eL, eS⟩ := setsGo_some hS
    rw [hS]
    simp only [List.all_eq_true]
    intro c hc
    have := h2 c hc
    simp only [dvdB, Bool.and_eq_true, List.all_eq_true, List.mem_range, beq_iff_eq] at this
    obtain ⟨q1, q2⟩ := this
    rw [idxB_iff] at q1
    have key : ∀ s ∈ c.ss.l, ∃ y, S.getD s.toNat 0 = y ∧ setGo n 0 (volsAt ss s) = some y := fun s hs => by
      obtain ⟨a, b⟩ := q1.1 s hs
      have hk : s.toNat < ss.length := by omega
      obtain ⟨y, e1, e2⟩ := eS s.toNat _ (List.getElem?_eq_getElem hk)
      refine ⟨y, by simp [List.getD, e1], ?_⟩
      simpa [volsAt, List.getElem?_eq_getElem hk] using e2
    have hcnt : ∀ i : Nat, c.ss.l.countP (fun s => (S.getD s.toNat 0).testBit i) = if i < n then 1 else 0 := fun i => by
      by_cases hi : i < n
      · rw [if_pos hi, ← q2 i hi]
        unfold cntS
        refine List.countP_congr fun s hs => ?_
        obtain ⟨y, e1, e2⟩ := key s hs
        have := (setGo_some e2).2.2.2 i
        rw [e1, this]
        simp
      · rw [if_neg hi, List.countP_eq_zero]
        intro s hs
        obtain ⟨y, e1, e2⟩ := key s hs
        have := (setGo_some e2).2.2.2 i
        rw [e1, this]
        simp only [Nat.zero_testBit, Bool.false_or, decide_eq_true_eq]
        intro hm
        have := ((setGo_some e2).2.1 _ hm).2.1
        omega
    obtain ⟨y, hy⟩ := divGo_of (S := S) (ss := c.ss.l) (met := 0) (fun s hs => by have := q1.1 s hs; omega) fun i => by
      rw [hcnt i]; simp only [Nat.zero_testBit, Bool.toNat_false]; split <;> omega
    have hyb := (divGo_some hy).2
    have : y = 2 ^ n - 1 := Nat.eq_of_testBit_eq fun i => by
      have h3 := hyb i
      rw [hcnt i] at h3
      simp only [Nat.zero_testBit, Bool.toNat_false, Nat.add_zero] at h3
      rw [ones_bit]
      by_cases hi : i < n
      · rw [if_pos hi] at h3
        cases hb : y.testBit i
        · rw [hb] at h3; simp at h3
        · simp [hi]
      · rw [if_neg hi] at h3
        cases hb : y.testBit i
        · simp [hi]
        · rw [hb] at h3; simp at h3
    simp only [cfgB, hy, this, beq_self_eq_true]
  · intro h
    split at h
    · cases h
    · rename_i S hS
      obtain ⟨eL, eS⟩ := setsGo_some hS
      rw [List.all_eq_true] at h
      have hvol : ∀ s ∈ ss, ∃ y, setGo n 0 s.vs.l = some y := fun s hs => by
        obtain ⟨k, hk, rfl⟩ := List.getElem_of_mem hs
        obtain ⟨y, _, e⟩ := eS k _ (List.getElem?_eq_getElem hk)
        exact ⟨y, e⟩
      refine ⟨fun s hs => ?_, fun c hc => ?_⟩
      · obtain ⟨y, hy⟩ := hvol s hs
        obtain ⟨a, b, c, d⟩ := setGo_some hy
        simp only [volB, Bool.and_eq_true, decide_eq_true_eq]
        refine ⟨?_, idxB_iff.2 ⟨fun v hv => ⟨(b v hv).1, (b v hv).2.1⟩, c⟩⟩
        cases hv : s.vs.l with
        | nil => rw [hv] at hy; simp [setGo] at hy
        | cons _ _ => simp
      · have hd := h c hc
        simp only [cfgB, beq_iff_eq] at hd
        obtain ⟨d1, d2⟩ := divGo_some hd
        have key : ∀ s ∈ c.ss.l, ∃ y, S.getD s.toNat 0 = y ∧ setGo n 0 (volsAt ss s) = some y := fun s hs => by
          obtain ⟨a, b⟩ := d1 s hs
          have hk : s.toNat < ss.length := by omega
          obtain ⟨y, e1, e2⟩ := eS s.toNat _ (List.getElem?_eq_getElem hk)
          refine ⟨y, by simp [List.getD, e1], ?_⟩
          simpa [volsAt, List.getElem?_eq_getElem hk] using e2
        have hnd : c.ss.l.Nodup := nodup_count (P := fun i s => (S.getD s.toNat 0).testBit i) (fun i => by
          have := d2 i
          rw [Nat.zero_testBit] at this
          have h2 := Bool.toNat_le ((2 ^ n - 1).testBit i)
          simp only [Bool.toNat_false, Nat.add_zero] at this
          omega) fun s hs => by
            obtain ⟨y, e1, e2⟩ := key s hs
            have hy0 := (setGo_some e2).1
            obtain ⟨i, hi⟩ := Nat.exists_testBit_of_ne_zero hy0
            exact ⟨i, by rw [e1]; exact hi⟩
        simp only [dvdB, Bool.and_eq_true, List.all_eq_true, List.mem_range, beq_iff_eq]
        refine ⟨idxB_iff.2 ⟨fun s hs => by have := d1 s hs; omega, hnd⟩, fun v hv => ?_⟩
        have := d2 v
        rw [ones_bit] at this
        simp only [Nat.zero_testBit, Bool.toNat_false, Nat.add_zero, hv, decide_true, Bool.toNat_true] at this
        rw [← this]
        unfold cntS
        refine List.countP_congr fun s hs => ?_
        obtain ⟨y, e1, e2⟩ := key s hs
        have := (setGo_some e2).2.2.2 v
        rw [e1, this]
        simp
/-- The reference's check of tables. -/
def rchkT (t : Tab) : Int :=
  if inn t.n 1 64 && chkD t.n.toNat t.ss.l t.cs.l && decide (t.ms.l.length ≤ 16) && decide (t.ws.l.length ≤ 64) && decide (t.ks.l.length ≤ 8) && t.ss.l.all secB && t.ms.l.all modeB &&
    t.ws.l.all (wayB t.n t.ms.l.length) && t.ks.l.all (kindB t.ms.l.length) then 0 else 140
theorem rchkT_eq (t : Tab) : rchkT t = chkT t := by
  unfold rchkT chkT
  rw [chkD_eq]
  congr 1
  simp only [Bool.and_eq_true, eq_iff_iff]
  constructor <;> rintro ⟨⟨⟨⟨⟨⟨⟨⟨a, b⟩, c⟩, d⟩, e⟩, f⟩, g⟩, h⟩, i⟩
  · exact ⟨⟨⟨⟨⟨⟨⟨⟨a, b⟩, f⟩, c⟩, g⟩, d⟩, h⟩, e⟩, i⟩
  · exact ⟨⟨⟨⟨⟨⟨⟨⟨a, b⟩, d⟩, f⟩, h⟩, c⟩, e⟩, g⟩, i⟩
theorem idx_snoc {n : Nat} {l : List Int} {x : Int} : idxB n (l ++ [x]) = (idxB n l && inn x 0 (n - 1) && !(l.any (· == x))) := by
  rw [Bool.eq_iff_iff, Bool.and_eq_true, Bool.and_eq_true, idxB_iff, idxB_iff]
  simp only [List.mem_append, List.mem_singleton, List.nodup_append, Bool.not_eq_true', List.any_eq_false, beq_iff_eq, inn, Bool.and_eq_true, decide_eq_true_eq]
  constructor
  · rintro ⟨h1, h2, h3, h4⟩
    refine ⟨⟨⟨fun y hy => h1 y (.inl hy), h2⟩, ?_⟩, fun y hy e => ?_⟩
    · have := h1 x (.inr rfl); omega
    · exact h4 y hy x rfl e
  · rintro ⟨⟨⟨h1, h2⟩, h3⟩, h4⟩
    refine ⟨?_, h2, by simp, ?_⟩
    · rintro y (hy | rfl)
      · exact h1 y hy
      · omega
    · rintro a ha b rfl e
      exact h4 a ha e
theorem idx_pre {n : Nat} {l r : List Int} (h : idxB n (l ++ r) = true) : idxB n l = true := by
  rw [idxB_iff] at h ⊢
  exact ⟨fun x hx => h.1 x (List.mem_append_left _ hx), (List.nodup_append.1 h.2).1⟩
end Go.Proofs.YtilocjliplmmpaaGreat
/- What the reference's Add does, change by change. No program in sight. -/
set_option linter.unusedSimpArgs false
set_option linter.unusedVariables false
namespace Go.Proofs.YtilocjliplmmpaaGreat
def stepX (c : Chg) (p : Bool × List Chg) (y : Chg) : Bool × List Chg :=
  let q := if !p.1 && decide (y.f ≥ c.f) then (true, p.2 ++ [c]) else p
  (q.1, if y.f = c.f then q.2 else q.2 ++ [y])
def foldX (c : Chg) (l : List Chg) (k : Nat) : Bool × List Chg := (l.take k).foldl (stepX c) (false, [])
theorem foldX_succ {c : Chg} {l : List Chg} {k : Nat} {y : Chg} (h : l[k]? = some y) : foldX c l (k + 1) = stepX c (foldX c l k) y := by
  unfold foldX
  rw [List.take_add_one, h, Option.toList_some, List.foldl_append]; rfl
theorem foldX_len (c : Chg) (l : List Chg) : ∀ k, (foldX c l k).2.length ≤ 2 * k
  | 0 => by simp [foldX]
  | k + 1 => by
    cases h : l[k]? with
    | none =>
      have : foldX c l (k + 1) = foldX c l k := by unfold foldX; rw [List.take_add_one, h]; simp
      rw [this]; have := foldX_len c l k; omega
    | some y =>
      rw [foldX_succ h]
      have := foldX_len c l k
      unfold stepX
      dsimp only
      split <;> split <;> simp <;> omega
theorem putC_snoc {L : List Chg} {c y : Chg} (h : c.f < y.f) : putC (L ++ [y]) c = putC L c ++ [y] := by
  unfold putC
  have : ¬ y.f < c.f := by omega
  simp [List.filter_append, List.filter_cons, h, this]
theorem putC_all {L : List Chg} {c : Chg} (h : ∀ y ∈ L, y.f < c.f) : putC L c = L ++ [c] := by
  unfold putC
  rw [List.filter_eq_self.2 (fun y hy => by simpa using h y hy), List.filter_eq_nil_iff.2 (fun y hy => by have := h y hy; simp; omega)]
theorem putC_eq {L : List Chg} {c y : Chg} (h : y.f = c.f) : putC (L ++ [y]) c = putC L c := by
  unfold putC
  have h1 : ¬ y.f < c.f := by omega
  have h2 : ¬ c.f < y.f := by omega
  simp [List.filter_append, List.filter_cons, h1, h2]
structure FX (c : Chg) (L : List Chg) (p : Bool × List Chg) : Prop where
  no : p.1 = false → p.2 = L ∧ ∀ y ∈ L, y.f < c.f
  yes : p.1 = true → p.2 = putC L c ∧ ∃ z ∈ L, c.f ≤ z.f
theorem FX.step {c : Chg} {L : List Chg} {p : Bool × List Chg} (h : FX c L p) {y : Chg} (hy : ∀ z ∈ L, z.f < y.f) : FX c (L ++ [y]) (stepX c p y) := by
  obtain ⟨d, X⟩ := p
  cases d with
  | true =>
    obtain ⟨h1, z, hz, h2⟩ := h.yes rfl
    have := hy z hz
    have hn : ¬ y.f = c.f := by omega
    have e : stepX c (true, X) y = (true, X ++ [y]) := by simp [stepX, hn]
    rw [e]
    refine ⟨fun q => (by cases q), fun _ => ⟨?_, z, List.mem_append_left _ hz, h2⟩⟩
    rw [putC_snoc (by omega)]
    have h1' : X = putC L c := h1
    rw [← h1']
  | false =>
    obtain ⟨h1, h2⟩ := h.no rfl
    have h1' : X = L := h1
    subst h1'
    by_cases hge : y.f ≥ c.f
    · by_cases hn : y.f = c.f
      · have e : stepX c (false, X) y = (true, X ++ [c]) := by simp [stepX, hn]
        rw [e]
        exact ⟨fun q => (by cases q), fun _ => ⟨by rw [putC_eq hn, putC_all h2], y, by simp, hge⟩⟩
      · have e : stepX c (false, X) y = (true, X ++ [c] ++ [y]) := by simp [stepX, hn, hge]
        rw [e]
        exact ⟨fun q => (by cases q), fun _ => ⟨by rw [putC_snoc (by omega), putC_all h2], y, by simp, hge⟩⟩
    · have hn : ¬ y.f = c.f := by omega
      have e : stepX c (false, X) y = (false, X ++ [y]) := by simp [stepX, hn, hge]
      rw [e]
      refine ⟨fun _ => ⟨rfl, fun z hz => ?_⟩, fun q => (by cases q)⟩
      rcases List.mem_append.1 hz with hz | hz
      · exact h2 z hz
      · simp at hz; subst hz; omega
theorem foldX_ok {c : Chg} {l : List Chg} (h : Inc l) : ∀ k, k ≤ l.length → FX c (l.take k) (foldX c l k)
  | 0, _ => ⟨fun _ => ⟨by simp [foldX], by simp⟩, fun q => by simp [foldX] at q⟩
  | k + 1, hk => by
    have ih := foldX_ok (c := c) h k (by omega)
    have hy := List.getElem?_eq_getElem (show k < l.length by omega)
    rw [foldX_succ hy, List.take_add_one, hy, Option.toList_some]
    refine ih.step fun z hz => ?_
    obtain ⟨i, hi⟩ := List.mem_iff_getElem?.1 hz
    rw [List.getElem?_take] at hi
    split at hi
    · obtain ⟨hi2, rfl⟩ := List.getElem?_eq_some_iff.1 hi
      exact List.pairwise_iff_getElem.1 h i k hi2 (by omega) (by assumption)
    · cases hi
/-- At the end: the change is laid in its place. -/
theorem foldX_put {c : Chg} {l : List Chg} (h : Inc l) {k : Nat} (hk : k = l.length) {d : Bool} {X : List Chg} (hf : foldX c l k = (d, X)) : (if d then X else X ++ [c]) = putC l c := by
  subst hk
  have hh := foldX_ok (c := c) h l.length (Nat.le_refl _)
  rw [hf, List.take_length] at hh
  cases d
  · obtain ⟨h1, h2⟩ := hh.no rfl
    have h1' : X = l := h1
    subst h1'
    rw [putC_all h2]; rfl
  · exact (hh.yes rfl).1
theorem stepX_push {c : Chg} {X : List Chg} {y : Chg} (h : y.f ≥ c.f) : stepX c (false, X) y = (true, if y.f = c.f then X ++ [c] else X ++ [c] ++ [y]) := by simp [stepX, h]
theorem stepX_no {c : Chg} {d : Bool} {X : List Chg} {y : Chg} (h : d = true ∨ ¬ y.f ≥ c.f) : stepX c (d, X) y = (d, if y.f = c.f then X else X ++ [y]) := by
  rcases h with rfl | h <;> simp [stepX, *]
end Go.Proofs.YtilocjliplmmpaaGreat
