/- Contracts: a message that was sent is delivered; what a step leaves. -/
import Derived.Test.YtmnbeikhjbjpiaaT2
import Derived.Test.YtmnbeikhjbjpiaaPm
set_option linter.unusedSimpArgs false
set_option linter.unusedVariables false
namespace Go.Proofs.Ytmnbeikhjbjpiaa
open Go.RowKit
/-- What the delivery of a message leaves. -/
structure Told (L : Nat) (m : Lt) (p q : Pr) : Prop where
  two : Two q
  lx : LenS (L + 1) q.x
  ly : LenS (L + 1) q.y
  sent : q.sent = p.sent
  mono : ∀ i a, a ∈ (p.s i).ag → a ∈ (q.s i).ag
  mem : m.acc = true → m.a ∈ (q.s m.to).ag
theorem deliver_two {x y : Bd} {A : Option Addr} {n c P L : Nat} {l : List Lt} {m : Lt} {w : World} (hP : Blk w P (Pc x y A n c)) (hp : PR w P x y A n c l) (h2 : Two ⟨x.bl, y.bl, l⟩) (hm : m ∈ l) (hx : LenS L x.bl) (hy : LenS L y.bl) (hL : L ≤ 900) :
    Calls Try.prog 29 #[.pointer (some ⟨P, 0, none⟩), m.v] w (fun e w' => ∃ q : Pr, PsR w P A n c q e w' ∧ Told L m ⟨x.bl, y.bl, l⟩ q) := by
  have lx : Lens x := hx.lens (by omega)
  have ly : Lens y := hy.lens (by omega)
  obtain ⟨to, acc, a⟩ := m
  cases acc with
  | false =>
    obtain ⟨e1, e2⟩ := h2.hearOk hm rfl
    cases to with
    | false =>
      refine (deliver_h0 x y A n c P l a _ w hP hp rfl e1 lx).mono fun e w' h => ⟨_, h, e2, hx.heaB a, hy.up (Nat.le_succ _), rfl, fun i b hb => ?_, fun h => by cases h⟩
      obtain ⟨g, s⟩ := hea_grew e1
      cases i with
      | false => exact g.ag b hb
      | true => exact hb
    | true =>
      refine (deliver_h1 x y A n c P l a _ w hP hp rfl e1 ly).mono fun e w' h => ⟨_, h, e2, hx.up (Nat.le_succ _), hy.heaB a, rfl, fun i b hb => ?_, fun h => by cases h⟩
      obtain ⟨g, s⟩ := hea_grew e1
      cases i with
      | false => exact hb
      | true => exact g.ag b hb
  | true =>
    obtain ⟨e1, e2⟩ := h2.confirmOk hm rfl
    cases to with
    | false =>
      obtain ⟨g, s⟩ := con_grew e1
      refine (deliver_o0 x y A n c P l a _ w hP hp rfl e1 lx).mono fun e w' h => ⟨_, h, e2, hx.conB a, hy.up (Nat.le_succ _), rfl, fun i b hb => ?_, fun _ => (s a).2 (.inr rfl)⟩
      cases i with
      | false => exact g.ag b hb
      | true => exact hb
    | true =>
      obtain ⟨g, s⟩ := con_grew e1
      refine (deliver_o1 x y A n c P l a _ w hP hp rfl e1 ly).mono fun e w' h => ⟨_, h, e2, hx.up (Nat.le_succ _), hy.conB a, rfl, fun i b hb => ?_, fun _ => (s a).2 (.inr rfl)⟩
      cases i with
      | false => exact hb
      | true => exact g.ag b hb
/-- A step of the script. -/
structure Sp where
  k : Int
  si : Int
  n : Int
  back : Bool
  mi : Int
  ra : Int
def Sp.cells (s : Sp) : List Value := [.int .u8 s.k, .int .u8 s.si, .int .u8 s.n, .bool s.back, .int .i64 s.mi, .int .i64 s.ra]
abbrev Sp.v (s : Sp) : Value := .agg #[.int .u8 s.k, .int .u8 s.si, .int .u8 s.n, .bool s.back, .int .i64 s.mi, .int .i64 s.ra]
def u8 (n : Int) : Prop := (Lit.int .u8 n).wf = true
def Sp.ok (s : Sp) : Prop := u8 s.k ∧ u8 s.si ∧ u8 s.n
theorem wrap_u8 {a : Int} (h : u8 a) : 0 ≤ a ∧ a < 256 := by
  simp [u8, Lit.wf, IntKind.min, IntKind.max, IntKind.signed, IntKind.bits] at h; omega
/-- What a step leaves: a pair in which nothing has gone wrong. -/
def Went (w : World) (P L n : Nat) (e : Ending) (w' : World) : Prop :=
  ∃ q : Pr, PrR w P q e w' ∧ Two q ∧ LenS (L + 1) q.x ∧ LenS (L + 1) q.y ∧ q.sent.length ≤ n + 1
theorem PsR.toPr {w w' : World} {P : Nat} {A : Option Addr} {n c : Nat} {q : Pr} {e : Ending} (h : PsR w P A n c q e w') : PrR w P q e w' := by
  obtain ⟨h1, x, y, h2⟩ := h
  exact ⟨h1, x, y, A, n, c, h2⟩
/-- Nothing has happened to the pair. -/
theorem went_same {w w' : World} {P L : Nat} {x y : Bd} {A : Option Addr} {n c : Nat} {l : List Lt} (h2 : Two ⟨x.bl, y.bl, l⟩) (hx : LenS L x.bl) (hy : LenS L y.bl) (hP : Blk w' P (Pc x y A n c)) (hp : PR w' P x y A n c l) (hb : Below P w w') : Went w P L n (.returned (.bool true)) w' :=
  ⟨⟨x.bl, y.bl, l⟩, ⟨rfl, x, y, A, n, c, rfl, rfl, hP, hp, hb⟩, h2, hx.up (Nat.le_succ _), hy.up (Nat.le_succ _), by rw [hp.hn]; exact Nat.le_succ _⟩
/-- An offer was made at the first | the second side, and sent. -/
theorem went_offer0 {w w' : World} {P L : Nat} {x y m : Bd} {A' : Option Addr} {n c' : Nat} {l : List Lt} {f t mi r : Int} (h2 : Two ⟨x.bl, y.bl, l⟩) (hx : LenS L x.bl) (hy : LenS L y.bl) (hn : l.length = n) (he : x.bl.offE f t mi r = 0) (hm : m.bl = x.bl.offB f t mi r)
    (hP : Blk w' P (Pc m y A' (n + 1) c')) (hp : PR w' P m y A' (n + 1) c' (l ++ [⟨true, false, x.bl.offX f t mi r⟩])) (hb : Below P w w') : Went w P L n (.returned (.bool true)) w' :=
  ⟨⟨x.bl.offB f t mi r, y.bl, l ++ [Lt.mk true false (x.bl.offX f t mi r)]⟩, ⟨rfl, m, y, A', n + 1, c', hm, rfl, hP, hp, hb⟩, h2.offer (i := false) he, hx.offB _ _ _ _, hy.up (Nat.le_succ _), by simp [hn]⟩
theorem went_offer1 {w w' : World} {P L : Nat} {x y m : Bd} {A' : Option Addr} {n c' : Nat} {l : List Lt} {f t mi r : Int} (h2 : Two ⟨x.bl, y.bl, l⟩) (hx : LenS L x.bl) (hy : LenS L y.bl) (hn : l.length = n) (he : y.bl.offE f t mi r = 0) (hm : m.bl = y.bl.offB f t mi r)
    (hP : Blk w' P (Pc x m A' (n + 1) c')) (hp : PR w' P x m A' (n + 1) c' (l ++ [⟨false, false, y.bl.offX f t mi r⟩])) (hb : Below P w w') : Went w P L n (.returned (.bool true)) w' :=
  ⟨⟨x.bl, y.bl.offB f t mi r, l ++ [Lt.mk false false (y.bl.offX f t mi r)]⟩, ⟨rfl, x, m, A', n + 1, c', rfl, hm, hP, hp, hb⟩, h2.offer (i := true) he, hx.up (Nat.le_succ _), hy.offB _ _ _ _, by simp [hn]⟩
/-- An offer is accepted at a side: the contract, and what it leaves. -/
theorem taken_two0 {x y : Bd} {A : Option Addr} {n c P L : Nat} {l : List Lt} {a : Ag} {w : World} (hP : Blk w P (Pc x y A n c)) (hp : PR w P x y A n c l) (h2 : Two ⟨x.bl, y.bl, l⟩) (ha : a ∈ x.op.l) (ho : offd a.no x.ot x.own = true) (hx : LenS L x.bl) (hy : LenS L y.bl) (hL : L ≤ 900) (hn : n ≤ 1000) :
    Calls Try.prog 49 #[.pointer (some ⟨P, 0, none⟩), .int .i64 0, .int .i64 a.no] w (Went w P L n) := by
  obtain ⟨e1, e2⟩ := h2.acceptOk (i := false) ha ho
  refine (taken_0 x y A n c P l a.no _ _ w hP hp rfl rfl e1 (hx.lens (by omega)) hn).mono fun e w' h => ⟨_, h, e2, hx.accB _, hy.up (Nat.le_succ _), by simp [hp.hn]⟩
theorem taken_two1 {x y : Bd} {A : Option Addr} {n c P L : Nat} {l : List Lt} {a : Ag} {w : World} (hP : Blk w P (Pc x y A n c)) (hp : PR w P x y A n c l) (h2 : Two ⟨x.bl, y.bl, l⟩) (ha : a ∈ y.op.l) (ho : offd a.no y.ot y.own = true) (hx : LenS L x.bl) (hy : LenS L y.bl) (hL : L ≤ 900) (hn : n ≤ 1000) :
    Calls Try.prog 49 #[.pointer (some ⟨P, 0, none⟩), .int .i64 1, .int .i64 a.no] w (Went w P L n) := by
  obtain ⟨e1, e2⟩ := h2.acceptOk (i := true) ha ho
  refine (taken_1 x y A n c P l a.no _ _ w hP hp rfl rfl e1 (hy.lens (by omega)) hn).mono fun e w' h => ⟨_, h, e2, hx.up (Nat.le_succ _), hy.accB _, by simp [hp.hn]⟩
/-- A message that was sent, delivered. -/
theorem told_two {x y : Bd} {A : Option Addr} {n c P L : Nat} {l : List Lt} {m : Lt} {w : World} (hP : Blk w P (Pc x y A n c)) (hp : PR w P x y A n c l) (h2 : Two ⟨x.bl, y.bl, l⟩) (hm : m ∈ l) (hx : LenS L x.bl) (hy : LenS L y.bl) (hL : L ≤ 900) :
    Calls Try.prog 29 #[.pointer (some ⟨P, 0, none⟩), .agg #[.int .i64 (bi m.to), .bool m.acc, .int .i64 m.a.no, .int .i64 m.a.f, .int .i64 m.a.t, .int .i64 m.a.m, .int .i64 m.a.r]] w (Went w P L n) :=
  (deliver_two hP hp h2 hm hx hy hL).mono fun e w' ⟨q, h, t⟩ => ⟨q, h.toPr, t.two, t.lx, t.ly, by rw [t.sent]; show l.length ≤ _; rw [hp.hn]; exact Nat.le_succ _⟩
/-- .. and the world as the caller knows it. -/
theorem Went.low {w0 w w' : World} {P L n : Nat} {e : Ending} (h : Went w P L n e w') (hb : Below P w0 w) : Went w0 P L n e w' := by
  obtain ⟨q, ⟨h1, x, y, A, n1, c, h2, h3, h4, h5, h6⟩, hq⟩ := h
  exact ⟨q, ⟨h1, x, y, A, n1, c, h2, h3, h4, h5, hb.trans h6⟩, hq⟩
end Go.Proofs.Ytmnbeikhjbjpiaa
