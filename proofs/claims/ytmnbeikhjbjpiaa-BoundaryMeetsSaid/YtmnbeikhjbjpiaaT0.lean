/- Two neighbours in memory, and the messages that were sent. No program's text. -/
import Derived.Test.YtmnbeikhjbjpiaaQ0
import Derived.Test.YtmnbeikhjbjpiaaN
set_option linter.unusedSimpArgs false
set_option linter.unusedVariables false
namespace Go.Proofs.Ytmnbeikhjbjpiaa
open Go.RowKit
def bi (i : Bool) : Int := match i with | false => 0 | true => 1
def Lt.cells (x : Lt) : List Value := [.int .i64 (bi x.to), .bool x.acc, .int .i64 x.a.no, .int .i64 x.a.f, .int .i64 x.a.t, .int .i64 x.a.m, .int .i64 x.a.r]
abbrev Lt.v (x : Lt) : Value := .agg #[.int .i64 (bi x.to), .bool x.acc, .int .i64 x.a.no, .int .i64 x.a.f, .int .i64 x.a.t, .int .i64 x.a.m, .int .i64 x.a.r]
theorem lt_info : (Try.prog.info? 53).map (fun i => (i.zero, i.size, i.bytes)) = some (some (.agg #[.int .i64 0, .bool false, .int .i64 0, .int .i64 0, .int .i64 0, .int .i64 0, .int .i64 0]), 7, 56) := by kernel_rfl
theorem ltI : EInfo Try.prog 46 53 Lt.cells 7 56 := by
  obtain ⟨i, h1, h2, h3, h4⟩ := info_parts lt_info
  exact ⟨Try.underlying46, ⟨i, _, h1, h2, h3, h4, rfl⟩, by decide, fun _ => rfl, fun x u hu => by simp [Lt.cells] at hu; rcases hu with rfl | rfl | rfl | rfl | rfl | rfl | rfl <;> rfl⟩
/-- The cells of the pair. -/
def Pc (x y : Bd) (A : Option Addr) (n c : Nat) : List Value := [.int .i64 x.own, .int .i64 x.ot, .slice x.ag.A x.ag.l.length x.ag.c, .slice x.op.A x.op.l.length x.op.c, .int .i64 y.own, .int .i64 y.ot, .slice y.ag.A y.ag.l.length y.ag.c, .slice y.op.A y.op.l.length y.op.c, .slice A n c]
/-- What the cells of the pair (in block P) point to. -/
structure PR (w : World) (P : Nat) (x y : Bd) (A : Option Addr) (n c : Nat) (l : List Lt) : Prop where
  lt : P < w.heap.size
  hx : BOk w x
  hy : BOk w y
  ox : x.off P
  oy : y.off P
  own : Own w (P + 1) 53 Lt.cells 7 (.slice A n c) l
  fx : ∀ g, (Value.slice A n c).ownBlock = some g → x.off g ∧ y.off g
  hn : l.length = n
  hc : n ≤ c
  hm : c ≤ maxLen
section
variable {w w' : World} {P : Nat} {x y m : Bd} {A : Option Addr} {n c : Nat} {l : List Lt}
theorem PR.ext (h : PR w P x y A n c l) (hb : Below w.heap.size w w') : PR w' P x y A n c l :=
  ⟨Nat.lt_of_lt_of_le h.lt hb.size, h.hx.ext hb, h.hy.ext hb, h.ox, h.oy, h.own.ext hb, h.fx, h.hn, h.hc, h.hm⟩
theorem PR.alloc (h : PR w P x y A n c l) (o : Obj) : PR (w.alloc o) P x y A n c l := h.ext (ext_alloc (ext_refl w) o)
theorem PR.set (h : PR w P x y A n c l) (j : Nat) (v : Value) : PR (w.setCell ⟨P, j, none⟩ v) P x y A n c l :=
  ⟨by simpa using h.lt, h.hx.set v h.ox, h.hy.set v h.oy, h.ox, h.oy, h.own.block (fun k hk => Below.heap_setCell w _ v k (by have := (h.own.lt k hk).2; show k ≠ P; omega)), h.fx, h.hn, h.hc, h.hm⟩
theorem PR.side0 (h : PR w P x y A n c l) (hm : BOk w m) (ho : m.off P) (hf : ∀ g, (Value.slice A n c).ownBlock = some g → m.off g) : PR w P m y A n c l :=
  ⟨h.lt, hm, h.hy, ho, h.oy, h.own, fun g hg => ⟨hf g hg, (h.fx g hg).2⟩, h.hn, h.hc, h.hm⟩
theorem PR.side1 (h : PR w P x y A n c l) (hm : BOk w m) (ho : m.off P) (hf : ∀ g, (Value.slice A n c).ownBlock = some g → m.off g) : PR w P x m A n c l :=
  ⟨h.lt, h.hx, hm, h.ox, ho, h.own, fun g hg => ⟨(h.fx g hg).1, hf g hg⟩, h.hn, h.hc, h.hm⟩
/-- The rows of what a call hands back lie where those of the side lay, or are new. -/
theorem PR.off0 (h : PR w P x y A n c l) (hF : ∀ b, b < w.heap.size → x.off b → m.off b) : m.off P ∧ ∀ g, (Value.slice A n c).ownBlock = some g → m.off g :=
  ⟨hF P h.lt h.ox, fun g hg => hF g (h.own.lt g hg).1 (h.fx g hg).1⟩
theorem PR.off1 (h : PR w P x y A n c l) (hF : ∀ b, b < w.heap.size → y.off b → m.off b) : m.off P ∧ ∀ g, (Value.slice A n c).ownBlock = some g → m.off g :=
  ⟨hF P h.lt h.oy, fun g hg => hF g (h.own.lt g hg).1 (h.fx g hg).2⟩
theorem BOk.grown {r : Option Nat} (h : BOk w x) (hg : w.grownBy w' r) (ho : ∀ g, r = some g → x.off g) : BOk w' x :=
  ⟨h.ag.grown2 hg (fun g e => (ho g e).1), h.op.grown2 hg (fun g e => (ho g e).2), h.agl, h.agc, h.opl, h.opc⟩
/-- A message is added. -/
theorem PR.say (h : PR w P x y A n c l) {cs : List Value} (hP : Blk w P cs) {B : Option Addr} {t : Lt} (hs : Slc w Lt.cells 7 B [t]) (hn : n ≤ 1000) :
    ∃ v' w', (Builtin.append_ #[46, 46] 46 #[.slice A n c, .slice B 1 1]).run Try.prog w = .ok v' w' ∧ ∃ A' c', v' = .slice A' (n + 1) c' ∧ PR w' P x y A' (n + 1) c' (l ++ [t]) ∧ Blk w' P cs ∧ Below P w w' ∧ w.grownBy w' (Value.slice A n c).ownBlock := by
  have hl := h.hn
  obtain ⟨v', w', h1, h2, h3, h4⟩ := h.own.append ltI 46 (ys := [t]) (m := 1) rfl 1 hs (by simp; omega) (by unfold maxLen; simp; omega) h.lt
  obtain ⟨A', c', rfl, k1, k2, _⟩ := h2.cap
  have hk : (l ++ [t]).length = n + 1 := by simp [hl]
  rw [hk] at h2 k1 h4
  have hlow : ∀ g, (Value.slice A n c).ownBlock = some g → P + 1 ≤ g := fun g e => (h.own.lt g e).2
  refine ⟨_, w', h1, A', c', by rw [hk], ⟨Nat.lt_of_lt_of_le h.lt h3.size, h.hx.grown h3 (fun g e => (h.fx g e).1), h.hy.grown h3 (fun g e => (h.fx g e).2), h.ox, h.oy, h2, fun g e => ?_, hk, k1, k2⟩, ?_, ?_, h3⟩
  · rcases h4 with h4 | h4
    · exact h.fx g (h4.symm.trans e)
    · rw [h4] at e; injection e with e; subst e; exact ⟨h.hx.off (Nat.le_refl _), h.hy.off (Nat.le_refl _)⟩
  · exact hP.keepB (h3.block P h.lt (fun e => by have := hlow P e.symm; omega))
  · exact ⟨h3.os, h3.tape, h3.output, h3.size, fun b hb => h3.block b (Nat.lt_trans hb h.lt) (fun e => by have := hlow b e.symm; omega)⟩
/-- The list of messages, read. -/
theorem PR.row (h : PR w P x y A n c l) : Slc w Lt.cells 7 A l := h.own.slc (fun _ => rfl) (by decide)
end
/-- What the functions on the pair hand back: that it went well, and the pair. -/
def PrR (w : World) (P : Nat) (q : Pr) (e : Ending) (w' : World) : Prop :=
  e = .returned (.bool true) ∧ ∃ (x y : Bd) (A : Option Addr) (n c : Nat), x.bl = q.x ∧ y.bl = q.y ∧ Blk w' P (Pc x y A n c) ∧ PR w' P x y A n c q.sent ∧ Below P w w'
/-- .. while the list of messages stays where it was. -/
def PsR (w : World) (P : Nat) (A : Option Addr) (n c : Nat) (q : Pr) (e : Ending) (w' : World) : Prop :=
  e = .returned (.bool true) ∧ ∃ (x y : Bd), x.bl = q.x ∧ y.bl = q.y ∧ Blk w' P (Pc x y A n c) ∧ PR w' P x y A n c q.sent ∧ Below P w w'
end Go.Proofs.Ytmnbeikhjbjpiaa
