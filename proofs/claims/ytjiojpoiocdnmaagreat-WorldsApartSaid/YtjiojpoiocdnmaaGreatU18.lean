/- The world's first n blocks: a base for slices of the call's own. No program in sight. -/
import Derived.Test.YtjiojpoiocdnmaaGreatU3
import Derived.Test.YtjiojpoiocdnmaaGreatNW
import Derived.Test.YtjiojpoiocdnmaaGreatNQ
import Derived.Test.YtjiojpoiocdnmaaGreatU4
import Derived.CallsIn
import Derived.RangeFuncCalls
import Derived.TacticsIn
import Derived.OrdersIn
set_option linter.unusedSimpArgs false
set_option linter.unusedVariables false
namespace Go.Proofs.YtjiojpoiocdnmaaGreat
open Go.RowKit
def cutW (W : World) (n : Nat) : World := { W with heap := W.heap.extract 0 n }
theorem cut_size {W : World} {n : Nat} (h : n ≤ W.heap.size) : (cutW W n).heap.size = n := by simp [cutW]; omega
theorem cut_get {W : World} {n b : Nat} (h : n ≤ W.heap.size) (hb : b < n) : (cutW W n).heap[b]? = W.heap[b]? := by
  have h1 : b < (cutW W n).heap.size := by rw [cut_size h]; exact hb
  rw [Array.getElem?_eq_getElem h1, Array.getElem?_eq_getElem (show b < W.heap.size by omega)]
  simp [cutW]
theorem cut_below {W : World} {n : Nat} (h : n ≤ W.heap.size) : Below (cutW W n).heap.size (cutW W n) W := by
  rw [cut_size h]
  exact ⟨rfl, rfl, rfl, by rw [cut_size h]; exact h, fun b hb => (cut_get h hb).symm⟩
theorem Own.far_set {α : Type} {w : World} {base : Nat} {e : TypeId} {enc : α → List Value} {sz : Nat} {v u : Value} {l : List α} (h : Own w base e enc sz v l) {p : Addr} (hp : p.block < base) : Own (w.setCell p u) base e enc sz v l :=
  h.block fun k hk => Below.heap_setCell w p u k (by have := (h.lt k hk).2; omega)
end Go.Proofs.YtjiojpoiocdnmaaGreat
/- The steps by which a scene is laid. No program in sight. -/
set_option linter.unusedSimpArgs false
set_option linter.unusedVariables false
namespace Go.Proofs.YtjiojpoiocdnmaaGreat
open Go.RowKit Go.ChangeMaps
theorem heap_set0 {W : World} {b : Nat} {u0 u1 : Value} {t : TypeId} (v : Value) (h : W.heap[b]? = some (.cells #[u0, u1] t (0, 0))) : (W.setCell ⟨b, 0, none⟩ v).heap[b]? = some (.cells #[v, u1] t (0, 0)) := by
  obtain ⟨hlt, hk⟩ := Array.getElem?_eq_some_iff.1 h
  show (W.heap.modify b _)[b]? = _
  rw [Array.getElem?_eq_getElem (by rw [Array.size_modify]; exact hlt), Array.getElem_modify_self, hk]
  rfl
theorem heap_set1 {W : World} {b : Nat} {u0 u1 : Value} {t : TypeId} (v : Value) (h : W.heap[b]? = some (.cells #[u0, u1] t (0, 0))) : (W.setCell ⟨b, 1, none⟩ v).heap[b]? = some (.cells #[u0, v] t (0, 0)) := by
  obtain ⟨hlt, hk⟩ := Array.getElem?_eq_some_iff.1 h
  show (W.heap.modify b _)[b]? = _
  rw [Array.getElem?_eq_getElem (by rw [Array.size_modify]; exact hlt), Array.getElem_modify_self, hk]
  rfl
theorem heap_cell {W : World} {b : Nat} {cs : Array Value} {t : TypeId} (h : W.heap[b]? = some (.cells cs t (0, 0))) : (∀ j v, cs[j]? = some v → W.cell? ⟨b, j, none⟩ = some v) ∧ (∀ j, W.frozen? ⟨b, j, none⟩ = false) ∧ b < W.heap.size :=
  ⟨fun j v hj => by simp [World.cell?, h, hj], fun j => by simp [World.frozen?, h], (Array.getElem?_eq_some_iff.1 h).1⟩
theorem Own.kind {α : Type} {w : World} {base : Nat} {e : TypeId} {enc : α → List Value} {sz : Nat} {v : Value} {l : List α} (h : Own w base e enc sz v l) : ∀ k, v.ownBlock = some k → base ≤ k ∧ ∃ cur e', w.heap[k]? = some (.cells cur e' (0, 0)) ∧ e' = e := by
  intro k hk
  rcases h.2 with ⟨hv, _⟩ | ⟨g, cap, cur, hv, hb, hg, _⟩
  · rw [hv] at hk; cases hk
  · rw [hv] at hk; cases hk; exact ⟨hb, cur, e, hg, rfl⟩
variable {w W wc W4 : World} {tv sv : List Value} {bx B0 : Nat} {X : Scn}
theorem SetS.addT (h : SetS w tv sv bx B0 X W) {g : Grp} (hg : g ∈ X.G) (n : Nat) {A4 : Option Addr} {n4 c4 : Nat} (hB : Below W.heap.size W wc) (hA : AP 3 ic 1 B0 wc g.tv (nums g.ts) [(n : Int)] (.slice A4 n4 c4) W4) (hn : n4 = (nums g.ts ++ [(n : Int)]).length) :
    (W4.cell? ⟨g.b, 0, none⟩ = some g.tv ∧ W4.frozen? ⟨g.b, 0, none⟩ = false ∧ g.b < W4.heap.size ∧ W4.cell? ⟨bx, 1, none⟩ = some (.map (some X.m)) ∧ GMap encC W4 X.m X.grps) ∧
      SetS w tv sv bx B0 { X with G := updG X.G { g with tA := A4, tc := c4, ts := g.ts ++ [n] } } (W4.setCell ⟨g.b, 0, none⟩ (.slice A4 n4 c4)) := by
  have hG := h.g1 g hg
  have hk4 : ∀ k, k < W.heap.size → g.tv.ownBlock ≠ some k → W4.heap[k]? = W.heap[k]? := fun k hk hne => (hA.g.block k (Nat.lt_of_lt_of_le hk hB.size) (fun e => hne e.symm)).trans (hB.block k hk)
  have hb4 : W4.heap[g.b]? = some (.cells #[g.tv, g.rv] 94 (0, 0)) := (hk4 _ hG.lt (hG.t.neB hG.b (by decide))).trans hG.b
  obtain ⟨q1, q2, q3⟩ := heap_cell hb4
  obtain ⟨m1, m2, m3, m4⟩ := h.mid
  have hlow : ∀ k, k < B0 → g.tv.ownBlock ≠ some k := fun k hk e => by have := (hG.t.lt k e).2; omega
  have hhi := h.hi
  have hnum : nums (g.ts ++ [n]) = nums g.ts ++ [(n : Int)] := by simp [nums]
  have hn' : n4 = (g.ts ++ [n]).length := by rw [hn]; simp [nums]
  subst hn'
  refine ⟨⟨q1 0 _ rfl, q2 0, q3, (World.cell?_of_block (a := ⟨bx, 1, none⟩) (hk4 bx (by omega) (hlow bx m1))).trans (h.XB.c 1 _ rfl), h.g0.of_block (hk4 _ (by omega) (hlow _ m2))⟩, ?_⟩
  have hsz : W.heap.size ≤ (W4.setCell ⟨g.b, 0, none⟩ (.slice A4 (g.ts ++ [n]).length c4)).heap.size := by simpa [World.setCell] using Nat.le_trans hB.size hA.g.size
  have hk : ∀ k, k < W.heap.size → k ≠ g.b → g.tv.ownBlock ≠ some k → (W4.setCell ⟨g.b, 0, none⟩ (.slice A4 (g.ts ++ [n]).length c4)).heap[k]? = W.heap[k]? := fun k hk h1 h2 => (Below.heap_setCell W4 ⟨g.b, 0, none⟩ _ k h1).trans (hk4 k hk h2)
  have hfr : ∀ k, (Value.slice A4 (g.ts ++ [n]).length c4).ownBlock = some k → g.tv.ownBlock = some k ∨ W.heap.size ≤ k := fun k e => by
    rcases hA.way with ⟨q, _⟩ | ⟨q, _⟩
    · exact .inl (q ▸ e)
    · exact .inr (Nat.le_trans hB.size (q k e))
  have hg4 : ∀ k, k ≠ g.b → (W4.setCell ⟨g.b, 0, none⟩ (.slice A4 (g.ts ++ [n]).length c4)).heap[k]? = W4.heap[k]? := fun k hk => Below.heap_setCell W4 ⟨g.b, 0, none⟩ _ k hk
  refine h.upd (ev := g.tv) hg rfl rfl ⟨hA.g.os.trans hB.os, hA.g.tape.trans hB.tape, hA.g.output.trans hB.output, hsz⟩ hk (fun k e => by
      obtain ⟨h1, cur, e', h2, h3⟩ := hG.t.kind k e
      exact ⟨h1, cur, e', h2, .inl h3⟩) ⟨hG.lo, heap_set0 _ hb4, ?_, ?_⟩ (fun q hq hne => ⟨(h.gd q hq g hg hne).2.1, fun k e e' => (h.g1 q hq).r.ne hG.t (by decide) k e e'⟩) (fun q hq hne => ⟨fun k e e' => ?_, (h.gd g hg q hq (fun e => hne e.symm)).2.2⟩)
  · show Own _ B0 3 ic 1 (.slice A4 (g.ts ++ [n]).length c4) (nums (g.ts ++ [n]))
    rw [hnum]
    refine hA.o.block fun k e => hg4 k (fun e' => ?_)
    subst e'
    exact hA.o.neB hb4 (by decide) e
  · refine hG.r.block fun k e => hk k (hG.r.lt k e).1 (fun e' => ?_) (fun e' => hG.t.ne hG.r (by decide) k e' e)
    subst e'
    exact hG.r.neB hG.b (by decide) e
  · rcases hfr k e with q1 | q1
    · exact (h.gd g hg q hq (fun e => hne e.symm)).2.1 k q1 e'
    · have := ((h.g1 q hq).t.lt k e').1; omega
theorem SetS.addR (h : SetS w tv sv bx B0 X W) {g : Grp} (hg : g ∈ X.G) (r : Rep) {A4 : Option Addr} {n4 c4 : Nat} (hB : Below W.heap.size W wc) (hA : AP 55 Rep.cells 6 B0 wc g.rv g.rs [r] (.slice A4 n4 c4) W4) (hn : n4 = (g.rs ++ [r]).length) :
    (W4.cell? ⟨g.b, 1, none⟩ = some g.rv ∧ W4.frozen? ⟨g.b, 1, none⟩ = false ∧ g.b < W4.heap.size) ∧
      SetS w tv sv bx B0 { X with G := updG X.G { g with rA := A4, rc := c4, rs := g.rs ++ [r] } } (W4.setCell ⟨g.b, 1, none⟩ (.slice A4 n4 c4)) := by
  have hG := h.g1 g hg
  have hk4 : ∀ k, k < W.heap.size → g.rv.ownBlock ≠ some k → W4.heap[k]? = W.heap[k]? := fun k hk hne => (hA.g.block k (Nat.lt_of_lt_of_le hk hB.size) (fun e => hne e.symm)).trans (hB.block k hk)
  have hb4 : W4.heap[g.b]? = some (.cells #[g.tv, g.rv] 94 (0, 0)) := (hk4 _ hG.lt (hG.r.neB hG.b (by decide))).trans hG.b
  obtain ⟨q1, q2, q3⟩ := heap_cell hb4
  have hhi := h.hi
  subst hn
  refine ⟨⟨q1 1 _ rfl, q2 1, q3⟩, ?_⟩
  have hsz : W.heap.size ≤ (W4.setCell ⟨g.b, 1, none⟩ (.slice A4 (g.rs ++ [r]).length c4)).heap.size := by simpa [World.setCell] using Nat.le_trans hB.size hA.g.size
  have hk : ∀ k, k < W.heap.size → k ≠ g.b → g.rv.ownBlock ≠ some k → (W4.setCell ⟨g.b, 1, none⟩ (.slice A4 (g.rs ++ [r]).length c4)).heap[k]? = W.heap[k]? := fun k hk h1 h2 => (Below.heap_setCell W4 ⟨g.b, 1, none⟩ _ k h1).trans (hk4 k hk h2)
  have hfr : ∀ k, (Value.slice A4 (g.rs ++ [r]).length c4).ownBlock = some k → g.rv.ownBlock = some k ∨ W.heap.size ≤ k := fun k e => by
    rcases hA.way with ⟨q, _⟩ | ⟨q, _⟩
    · exact .inl (q ▸ e)
    · exact .inr (Nat.le_trans hB.size (q k e))
  have hg4 : ∀ k, k ≠ g.b → (W4.setCell ⟨g.b, 1, none⟩ (.slice A4 (g.rs ++ [r]).length c4)).heap[k]? = W4.heap[k]? := fun k hk => Below.heap_setCell W4 ⟨g.b, 1, none⟩ _ k hk
  refine h.upd (ev := g.rv) hg rfl rfl ⟨hA.g.os.trans hB.os, hA.g.tape.trans hB.tape, hA.g.output.trans hB.output, hsz⟩ hk (fun k e => by
      obtain ⟨h1, cur, e', h2, h3⟩ := hG.r.kind k e
      exact ⟨h1, cur, e', h2, .inr h3⟩) ⟨hG.lo, heap_set1 _ hb4, ?_, ?_⟩ (fun q hq hne => ⟨fun k e e' => (h.g1 q hq).t.ne hG.r (by decide) k e e', (h.gd q hq g hg hne).2.2⟩) (fun q hq hne => ⟨(h.gd g hg q hq (fun e => hne e.symm)).2.1, fun k e e' => ?_⟩)
  · refine hG.t.block fun k e => hk k (hG.t.lt k e).1 (fun e' => ?_) (fun e' => hG.r.ne hG.t (by decide) k e' e)
    subst e'
    exact hG.t.neB hG.b (by decide) e
  · refine hA.o.block fun k e => hg4 k (fun e' => ?_)
    subst e'
    exact hA.o.neB hb4 (by decide) e
  · rcases hfr k e with q1 | q1
    · exact (h.gd g hg q hq (fun e => hne e.symm)).2.2 k q1 e'
    · have := ((h.g1 q hq).r.lt k e').1; omega
/-- The stays of a track are added. -/
theorem SetS.addS (h : SetS w tv sv bx B0 X W) (row : SliceOf (SliceOf Sty)) (hr : Own W B0 95 SliceOf.enc 1 row.v row.l) (hq : ∀ q ∈ row.l, Own W B0 113 Sty.cells 4 q.v q.l) {A4 : Option Addr} {n4 c4 : Nat} (hB : Below W.heap.size W wc)
    (hA : AP 135 SliceOf.enc 1 B0 wc X.sv X.st [row] (.slice A4 n4 c4) W4) (hn : n4 = (X.st ++ [row]).length) :
    (W4.cell? ⟨bx, 0, none⟩ = some X.sv ∧ W4.frozen? ⟨bx, 0, none⟩ = false ∧ bx < W4.heap.size) ∧ SetS w tv sv bx B0 { X with sA := A4, sc := c4, st := X.st ++ [row] } (W4.setCell ⟨bx, 0, none⟩ (.slice A4 n4 c4)) := by
  obtain ⟨m1, m2, m3, m4⟩ := h.mid
  have hhi := h.hi
  have hlo := h.lo
  have hk4 : ∀ k, k < W.heap.size → X.sv.ownBlock ≠ some k → W4.heap[k]? = W.heap[k]? := fun k hk hne => (hA.g.block k (Nat.lt_of_lt_of_le hk hB.size) (fun e => hne e.symm)).trans (hB.block k hk)
  have hlow : ∀ k, k < B0 → X.sv.ownBlock ≠ some k := fun k hk e => by have := (h.s0.lt k e).2; omega
  have hX4 : Blk W4 bx X.cells := h.XB.keepB (hk4 bx (by omega) (hlow bx m1))
  subst hn
  refine ⟨⟨hX4.c 0 _ rfl, hX4.f 0, hX4.lt⟩, ?_⟩
  have hsz : W.heap.size ≤ (W4.setCell ⟨bx, 0, none⟩ (.slice A4 (X.st ++ [row]).length c4)).heap.size := by simpa [World.setCell] using Nat.le_trans hB.size hA.g.size
  have hk : ∀ k, k < W.heap.size → k ≠ bx → X.sv.ownBlock ≠ some k → (W4.setCell ⟨bx, 0, none⟩ (.slice A4 (X.st ++ [row]).length c4)).heap[k]? = W.heap[k]? := fun k hk h1 h2 => (Below.heap_setCell W4 ⟨bx, 0, none⟩ _ k h1).trans (hk4 k hk h2)
  have own : ∀ {α : Type} {e : TypeId} {enc : α → List Value} {sz : Nat} {v : Value} {l : List α}, Own W B0 e enc sz v l → e ≠ 135 → Own (W4.setCell ⟨bx, 0, none⟩ (.slice A4 (X.st ++ [row]).length c4)) B0 e enc sz v l := fun {α e enc sz v l} ho he => ho.block fun k e' => hk k (ho.lt k e').1 (by have := (ho.lt k e').2; omega) (fun q => h.s0.ne ho (fun q => he q.symm) k q e')
  have hf : Fix w W (W4.setCell ⟨bx, 0, none⟩ (.slice A4 (X.st ++ [row]).length c4)) B0 := ⟨hA.g.os.trans hB.os, hA.g.tape.trans hB.tape, hA.g.output.trans hB.output, hsz⟩
  refine ⟨h.below hf (fun k hk' => hk k (by omega) (by omega) (hlow k (by omega))), h.T.keepB (hk _ (by omega) (by omega) (hlow _ (by omega))), h.S.keepB (hk _ (by omega) (by omega) (hlow _ (by omega))), hX4.set (j := 0) (by simp [Scn.cells]) _, hlo, ⟨m1, m2, m3, m4⟩, Nat.le_trans hhi hsz, ?_, fun r hr' => ?_, fun r hr' q hq' => ?_, h.g0.of_block (hk _ (by omega) (fun e => m4 e.symm) (hlow _ m2)), fun g hg => ?_, h.gd⟩
  · exact hA.o.block fun k e => Below.heap_setCell W4 ⟨bx, 0, none⟩ _ k (by have := (hA.o.lt k e).2; show k ≠ bx; omega)
  · rcases List.mem_append.1 hr' with hr' | hr'
    · exact own (h.s1 r hr') (by decide)
    · obtain rfl := List.mem_singleton.1 hr'; exact own hr (by decide)
  · rcases List.mem_append.1 hr' with hr' | hr'
    · exact own (h.s2 r hr' q hq') (by decide)
    · obtain rfl := List.mem_singleton.1 hr'; exact own (hq q hq') (by decide)
  · have hG := h.g1 g hg
    exact ⟨hG.lo, (hk _ hG.lt (by have := hG.lo; omega) (h.s0.neB hG.b (by decide))).trans hG.b, own hG.t (by decide), own hG.r (by decide)⟩
/-- A number of the scene's own is stored. -/
theorem SetS.num (h : SetS w tv sv bx B0 X W) (j : Nat) (v : Value) (X' : Scn) (hc : X'.cells = X.cells.set j v) (hj : j < 11) (h1 : X'.sv = X.sv) (h1' : X'.st = X.st) (h2 : X'.m = X.m) (h3 : X'.G = X.G) :
    SetS w tv sv bx B0 X' (W.setCell ⟨bx, j, none⟩ v) := by
  obtain ⟨m1, m2, m3, m4⟩ := h.mid
  have hlo := h.lo
  have hk : ∀ k, k ≠ bx → (W.setCell ⟨bx, j, none⟩ v).heap[k]? = W.heap[k]? := fun k hk => Below.heap_setCell W ⟨bx, j, none⟩ v k hk
  have own : ∀ {α : Type} {e : TypeId} {enc : α → List Value} {sz : Nat} {v' : Value} {l : List α}, Own W B0 e enc sz v' l → Own (W.setCell ⟨bx, j, none⟩ v) B0 e enc sz v' l := fun ho => ho.far_set (by show bx < B0; exact m1)
  have hg : X'.grps = X.grps := by unfold Scn.grps; rw [h3]
  refine ⟨below_set h.E _ _ (by show w.heap.size ≤ bx; omega), h.T.keepB (hk _ (by omega)), h.S.keepB (hk _ (by omega)), by rw [hc]; exact h.XB.set (j := j) (by simpa [Scn.cells] using hj) v, hlo, by rw [h2]; exact ⟨m1, m2, m3, m4⟩, by simpa [World.setCell] using h.hi, by rw [h1, h1']; exact own h.s0, by rw [h1']; exact fun r hr => own (h.s1 r hr), by rw [h1']; exact fun r hr q hq => own (h.s2 r hr q hq), by rw [h2, hg]; exact h.g0.of_block (hk _ (fun e => m4 e.symm)), by rw [h3]; exact fun g hg => (by
    have := h.g1 g hg
    exact ⟨this.lo, (hk _ (by have := this.lo; omega)).trans this.b, own this.t, own this.r⟩), by rw [h3]; exact h.gd⟩
end Go.Proofs.YtjiojpoiocdnmaaGreat
/- A drawn region inside a fence, and in a round of a range over a function. No program in sight. -/
set_option linter.unusedSimpArgs false
set_option linter.unusedVariables false
namespace Go.Proofs.YtjiojpoiocdnmaaGreat
/-- A drawn region inside a fence: the post at its end alone. -/
def OnlyN (Q : Exit → Act → World → Prop) : Exit → Act → World → Prop
  | .normal, a, w => Q .normal a w
  | _, _, _ => False
theorem onlyN {Q : Exit → Act → World → Prop} {a : Act} {w : World} (h : Q .normal a w) : OnlyN Q .normal a w := h
theorem region_in {n : Nat} {P : Program} {id : Nat} {ops : Array Oper} {Q : Exit → Act → World → Prop} {a : Act} {w : World} (h : (Code.region id ops true).wp P (OnlyN Q) a w) : (Code.region id ops true).wpIn Fence.wide n P Q a w :=
  wpIn_wide.2 (wp_mono h (fun e a w h => by cases e <;> first | exact h | exact h.elim))
theorem op_round {l n : Nat} {P : Program} {o : Oper} {a : Act} {w : World} {K : Act → World → Prop} {Q : Exit → Act → World → Prop} (hd : ∀ c, o.op ≠ .defer c) (h : o.wp P a w K (OnlyN Q)) : o.wpIn (Fence.wide.inRound l) n P a w K Q := by
  refine ⟨fun _ _ => trivial, ?_⟩
  rw [show (Fence.wide.inRound l).round = some l from rfl, Oper.semAt_some l a.eval o hd]
  unfold Oper.wp at h
  cases hr : (execOp a.eval o).run P w with
  | ok nx w' =>
    rw [hr] at h
    cases nx with
    | value v => exact h
    | skip => exact h
    | defer d => exact h
    | enter f args =>
      refine ⟨(fun e => by cases e), CallsIn.inRound l (callsIn_wide.2 (Calls.mono h ?_))⟩
      intro e w'' g
      cases e with
      | returned v => exact g
      | panicked c => exact g.elim
      | outgrown => obtain ⟨_, _, g⟩ := g; exact g.elim
    | row row args =>
      refine ⟨(fun e => by cases e), fun c cs _ => ?_⟩
      obtain ⟨v, w'', r, s⟩ := h c cs
      exact ⟨v, w'', r, stepsIn_wide.2 s⟩
    | _ => exact h.elim
  | halt x w' =>
    rw [hr] at h
    cases x with
    | panic v => exact h.elim
    | _ => exact h.elim
theorem ops_round {l n : Nat} {P : Program} {ops : Array Oper} {Q : Exit → Act → World → Prop} (hd : ∀ (j : Nat) (o : Oper), ops[j]? = some o → ∀ c, o.op ≠ .defer c) :
    ∀ (s : List Nat) (a : Act) (w : World), wpOps P ops (OnlyN Q) s a w → wpOpsIn (Fence.wide.inRound l) n P ops Q s a w
  | [], _, _, h => h
  | i :: s, a, w, h => by
    unfold wpOps at h
    unfold wpOpsIn
    cases ho : ops[i]? with
    | none => rw [ho] at h; exact ops_round hd s a w h
    | some o =>
      rw [ho] at h
      simp only at h ⊢
      split at h
      · rename_i hw
        rw [if_pos hw]
        rcases h with h | ⟨-, _, _, h⟩
        · exact op_round (hd i o ho) (Oper.wp_mono (fun a w h => ops_round hd s a w h) h)
        · exact h.elim
      · rename_i hw
        rw [if_neg hw]
        exact ⟨fun _ _ => trivial, ops_round hd s _ w h⟩
def noDefer (ops : Array Oper) : Bool := ops.toList.all (fun o => match o.op with | .defer _ => false | _ => true)
theorem noDefer_of {ops : Array Oper} (h : noDefer ops = true) : ∀ (j : Nat) (o : Oper), ops[j]? = some o → ∀ c, o.op ≠ .defer c := by
  intro j o hj c e
  have h1 := List.all_eq_true.1 h o (by rw [Array.mem_toList_iff]; exact Array.mem_of_getElem? hj)
  rw [e] at h1
  cases h1
theorem rg_beginR {P : Program} {ops : Array Oper} {Q : Exit → Act → World → Prop} {S : World → Prop} {l n id : Nat} {a : Act} {w : World} (k : Nat) (hm : P.follows .mixedOrders = true) (hQ : Calm (OnlyN Q)) (hS : S w.drew)
    (h : ∀ Q' : Exit → Act → World → Prop, Calm Q' → (∀ a w, OnlyN Q .normal a w → Q' .normal a w) → S w.drew → WT P .any ops Q' k S ops.size (Array.replicate ops.size false) a w.drew)
    (hd : noDefer ops = true := by rfl) : (Code.region id ops true).wpIn (Fence.wide.inRound l) n P Q a w :=
  wpIn_region_draw fun t => ops_round (noDefer_of hd) _ _ _ (by
    simp only [Region.schedule, hm, Bool.true_or, if_true]
    exact wpAny_sound ops.size t _ a _ (WT.any _ _ _ _ (h (OnlyN Q) hQ (fun _ _ h => h) hS)))
end Go.Proofs.YtjiojpoiocdnmaaGreat
/- A drawn region inside a fence, the loads taken first; one late operation (number k: the call of yield) behind which all is over. No program in sight. -/
set_option linter.unusedSimpArgs false
set_option linter.unusedVariables false
namespace Go.Proofs.YtjiojpoiocdnmaaGreat
variable {F : Fence} {n : Nat} {P : Program} {md : Region.Mode} {ops : Array Oper} {Q : Exit → Act → World → Prop} {S : World → Prop} {k : Nat}
def YIF (P : Program) (ops : Array Oper) (S : World → Prop) (o : Oper) (v : Value) (a : Act) : Prop := YieldsIf P ops S o v a ∧ ∀ w, o.about P w a.eval = none
theorem YIF.same {o : Oper} {v : Value} {a a' : Act} (hy : YIF P ops S o v a) (he : execOp a'.eval o = execOp a.eval o)
    (hw : Region.wanted o (yielded ops a'.tmps) = Region.wanted o (yielded ops a.tmps)) (hb : ∀ w, o.about P w a'.eval = o.about P w a.eval) : YIF P ops S o v a' :=
  ⟨hy.1.of_same he hw, fun w => by rw [hb w]; exact hy.2 w⟩
theorem YIF.op {i : Nat} {o : Oper} {v : Value} {a : Act} (hro : F.round = none) (hi : ops[i]? = some o) (hy : YIF P ops S o v a) {K : Act → World → Prop} {w : World} (hS : S w) (h : K (a.put o.dst v) w) : wpOpIn F n P ops Q i K a w := by
  unfold wpOpIn
  simp only [hi]
  have hab : ∀ f, o.about P w a.eval = some f → F.fn f := fun f hf => by rw [hy.2 w] at hf; cases hf
  rcases hy.1 with ⟨hw, hv⟩ | ⟨hw, rfl⟩
  · simp only [hw, if_true, Oper.wpIn, hro, Oper.semAt_none, hv w hS, Oper.uponIn]; exact ⟨hab, h⟩
  · simp only [hw, Bool.false_eq_true, if_false]; exact ⟨hab, h⟩
/-- Another operation, apart from it, does not mind whether its value lies there. -/
theorem yif_put {j : Nat} {oi oj : Oper} {v : Value} (hro : F.round = none) (hj : ops[j]? = some oj) (hap : oi.apart ops oj = true)
    (hsi : ∀ cs b, oi.op ≠ .select cs b) (hsj : ∀ cs b, oj.op ≠ .select cs b)
    (hQ : ∀ c a w, Q (.panic c) (a.put oi.dst v) w → Q (.panic c) a w) {K : Act → World → Prop} {a : Act} {w : World}
    (hy : YIF P ops S oi v a) (h : wpOpIn F n P ops Q j K (a.put oi.dst v) w) :
    wpOpIn F n P ops Q j (fun a' w' => YIF P ops S oi v a' ∧ K (a'.put oi.dst v) w') a w := by
  obtain ⟨h1, h2, h3⟩ := Oper.apart_spec hap
  have keep : ∀ (a : Act), YIF P ops S oi v a → ∀ u, YIF P ops S oi v (a.put oj.dst u) := fun a hy u =>
    hy.same (execOp_put oi hsi a oj.dst u h3) (wanted_put oi a oj.dst u h3) (fun w => about_put oi w a oj.dst u h3)
  have keepD : ∀ d, YIF P ops S oi v { a with defers := d :: a.defers } := fun d => hy.same rfl rfl (fun _ => rfl)
  unfold wpOpIn at *
  simp only [hj] at *
  rw [wanted_put oj a oi.dst v h1, about_put oj w a oi.dst v h1] at h
  split
  · rename_i hw
    simp only [hw, if_true] at h
    unfold Oper.wpIn at *
    rw [about_put oj w a oi.dst v h1] at h
    refine ⟨h.1, ?_⟩
    have h := h.2
    rw [hro, Oper.semAt_none, execOp_put oj hsj a oi.dst v h1] at h
    rw [hro, Oper.semAt_none]
    generalize (execOp a.eval oj).run P w = r at *
    cases r with
    | ok x w' =>
      cases x <;> simp only [Oper.uponIn] at h ⊢
      case value u => exact ⟨keep a hy u, by rw [← Act.put_comm a v u h2]; exact h⟩
      case skip => exact ⟨keep a hy _, by rw [← Act.put_comm a v undef h2]; exact h⟩
      case defer d =>
        refine ⟨keep _ (keepD d) _, ?_⟩
        rw [← Act.put_comm _ v undef h2, ← Act.put_defers]
        exact h
      case enter f args =>
        refine ⟨h.1, CallsIn.mono h.2 fun e w'' he => ?_⟩
        cases e with
        | returned u => exact ⟨keep a hy u, by rw [← Act.put_comm a v u h2]; exact he⟩
        | panicked c => exact hQ _ _ _ he
        | outgrown => exact he
      case row row args => exact ⟨h.1, RowsIn.mono h.2 fun u w'' he => ⟨keep a hy u, by rw [← Act.put_comm a v u h2]; exact he⟩⟩
      case round l f tmps assign body =>
        refine ⟨h.1, RoundIn.mono h.2 fun e w'' he => ?_⟩
        cases e with
        | returned u => exact ⟨keep a hy u, by rw [← Act.put_comm a v u h2]; exact he⟩
        | panicked c => exact hQ _ _ _ he
        | outgrown => exact he
    | halt x w' =>
      cases x <;> simp only [Oper.uponIn] at h ⊢
      case panic u => exact hQ _ _ _ h
  · rename_i hw
    simp only [hw] at h
    exact ⟨h.1, keep a hy _, by rw [← Act.put_comm a v undef h2]; exact h.2⟩
def WF (F : Fence) (n : Nat) (P : Program) (md : Region.Mode) (ops : Array Oper) (Q : Exit → Act → World → Prop) (k : Nat) (S : World → Prop) : Nat → Array Bool → Act → World → Prop
  | 0, l, a, w => Region.ready md ops l = [] ∧ Q .normal a w
  | f + 1, l, a, w => (Region.ready md ops l = [] → Q .normal a w) ∧
      ∀ i ∈ Region.ready md ops l, wpOpIn F n P ops Q i (fun a' w' => ((l.setIfInBounds i true).getD k false = true ∨ S w') ∧ WF F n P md ops Q k S f (l.setIfInBounds i true) a' w') a w
theorem WF.any : ∀ (f : Nat) (l : Array Bool) (a : Act) (w : World), WF F n P md ops Q k S f l a w → wpAnyIn F n P md ops Q f l a w
  | 0, _, _, _, h => h
  | f + 1, _, _, _, h => ⟨h.1, fun i hi => wpOpIn_mono (fun a' w' h' => WF.any f _ a' w' h'.2) (h.2 i hi)⟩
theorem WF.first {i : Nat} {oi : Oper} {v : Value} (hro : F.round = none) (hi : ops[i]? = some oi) (hsel : ∀ (j : Nat) (o : Oper) cs b, ops[j]? = some o → o.op ≠ .select cs b)
    (hQ : ∀ c a w, Q (.panic c) (a.put oi.dst v) w → Q (.panic c) a w) (hki : i ≠ k) (hbf : Before md ops k i) :
    ∀ (f : Nat) (l : Array Bool) (a : Act) (w : World), Closed md ops l → l.getD k false = false →
      (∀ j oj, ops[j]? = some oj → j ≠ i → l.getD j true = false → (∀ e ∈ oj.after, Region.binds md e = true → e.on ≠ i) → oi.apart ops oj = true) →
      i ∈ Region.ready md ops l → YIF P ops S oi v a → S w →
      WF F n P md ops Q k S f (l.setIfInBounds i true) (a.put oi.dst v) w → WF F n P md ops Q k S (f + 1) l a w := by
  intro f
  induction f with
  | zero =>
    intro l a w _ _ _ hr hy hS H
    refine ⟨fun h => (by rw [h] at hr; cases hr), fun j hj => ?_⟩
    by_cases hji : j = i
    · subst hji; exact hy.op hro hi hS ⟨.inr hS, H⟩
    · have := ready_mono hj hji
      rw [H.1] at this
      cases this
  | succ f ih =>
    intro l a w hc hk hfree hr hy hS H
    refine ⟨fun h => (by rw [h] at hr; cases hr), fun j hj => ?_⟩
    by_cases hji : j = i
    · subst hji; exact hy.op hro hi hS ⟨.inr hS, H⟩
    · have h1 := H.2 j (ready_mono hj hji)
      obtain ⟨hjun, oj, hoj, hall⟩ := mem_ready.1 hj
      have hi0 : l.getD i false = false := by
        have h0 := (mem_ready.1 hr).1
        rcases Nat.lt_or_ge i l.size with h' | h'
        · simp [h'] at h0 ⊢; exact h0
        · simp [Array.getElem?_eq_none h']
      have hnot : ∀ e ∈ oj.after, Region.binds md e = true → e.on ≠ i := fun e he hb heq => by
        have h1 := hall e he hb
        rw [heq, hi0] at h1
        cases h1
      have hjk : j ≠ k := fun e => by
        subst e
        have := hbf l hc hj
        rw [hi0] at this; cases this
      have h2 := yif_put hro hoj (hfree j oj hoj hji hjun hnot) (fun cs b => hsel i oi cs b hi) (fun cs b => hsel j oj cs b hoj) hQ hy h1
      have hfree' : ∀ q oq, ops[q]? = some oq → q ≠ i → (l.setIfInBounds j true).getD q true = false →
          (∀ e ∈ oq.after, Region.binds md e = true → e.on ≠ i) → oi.apart ops oq = true := fun q oq hq hqi hun hno => by
        refine hfree q oq hq hqi ?_ hno
        by_cases hjq : j = q
        · subst hjq; exact hjun
        · rw [getD_set_other hjq] at hun; exact hun
      have hc' : Closed md ops (l.setIfInBounds j true) := fun q oq hq hl e he hb => by
        by_cases hje : j = e.on
        · rw [← hje]
          have hjl : j < l.size := by
            rcases Nat.lt_or_ge j l.size with h' | h'
            · exact h'
            · have := hjun; simp [Array.getElem?_eq_none h'] at this
          simp [hjl]
        · rw [getD_set_other hje]
          by_cases hjq : j = q
          · subst hjq; rw [hoj] at hq; cases hq; exact hall e he hb
          · rw [getD_set_other hjq] at hl; exact hc q oq hq hl e he hb
      have hk' : (l.setIfInBounds j true).getD k false = false := by rw [getD_set_other hjk]; exact hk
      have hk'' : ((l.setIfInBounds i true).setIfInBounds j true).getD k false = false := by rw [getD_set_other hjk, getD_set_other hki]; exact hk
      refine wpOpIn_mono (fun a' w' h3 => ?_) h2
      have hS' : S w' := h3.2.1.resolve_left (by rw [hk'']; simp)
      refine ⟨.inr hS', ih (l.setIfInBounds j true) a' w' hc' hk' hfree' (ready_mono hr (Ne.symm hji)) h3.1 hS' ?_⟩
      rw [Array.setIfInBounds_comm _ _ hji]
      exact h3.2.2
/-! The moves. -/
theorem rf_begin {id : Nat} {a : Act} {w : World} (k : Nat) (hm : P.follows .mixedOrders = true) (hQ : Calm Q) (hS : S w.drew)
    (h : ∀ Q' : Exit → Act → World → Prop, Calm Q' → (∀ a w, Q .normal a w → Q' .normal a w) → S w.drew → WF F n P .any ops Q' k S ops.size (Array.replicate ops.size false) a w.drew) : (Code.region id ops true).wpIn F n P Q a w :=
  wpIn_region_any hm (WF.any _ _ _ _ (h Q hQ (fun _ _ h => h) hS))
theorem rf_end {l : Array Bool} {a : Act} {w : World} (hr : Region.ready md ops l = []) (h : Q .normal a w) : ∀ f, WF F n P md ops Q k S f l a w
  | 0 => ⟨hr, h⟩
  | _ + 1 => ⟨fun _ => h, by rw [hr]; simp⟩
theorem rf_take {i : Nat} {oi : Oper} (d : Option Tmp) {v : Value} {f : Nat} {l : Array Bool} {a : Act} {w : World} (hro : F.round = none) (hi : ops[i]? = some oi) (hd : oi.dst = d) (hok : okTake md ops l k i = true)
    (hw : Region.wanted oi (yielded ops a.tmps) = true) (hab : ∀ w, oi.about P w a.eval = none) (hQ : Calm Q) (hS : S w) (hy : ∀ w, S w → (execOp a.eval oi).run P w = .ok (.value v) w)
    (h : WF F n P md ops Q k S f (l.setIfInBounds i true) (a.put d v) w) : WF F n P md ops Q k S (f + 1) l a w := by
  subst hd
  unfold okTake at hok
  simp only [Bool.and_eq_true, Bool.not_eq_true', bne_iff_ne, ne_eq] at hok
  obtain ⟨⟨⟨⟨⟨⟨h1, h2⟩, h3⟩, h4⟩, h5⟩, h6⟩, h7⟩ := hok
  exact WF.first hro hi (Region.noSelect_spec h1) (hQ _ _) h6 (before_of h7) f l a w (closed_of h4) h5 (Region.free_spec hi h2) (by simpa using h3) ⟨.inl ⟨hw, hy⟩, hab⟩ hS h
/-- The late operation alone. -/
theorem rf_late {i : Nat} {oi : Oper} {f : Nat} {l : Array Bool} {a : Act} {w : World} (hr : Region.ready md ops l = [i]) (hi : ops[i]? = some oi) (hw : Region.wanted oi (yielded ops a.tmps) = true) (hk : (l.setIfInBounds i true).getD k false = true)
    (h : ∀ K' : Act → World → Prop, (∀ a w, WF F n P md ops Q k S f (l.setIfInBounds i true) a w → K' a w) → Oper.wpIn F n P oi a w K' Q) : WF F n P md ops Q k S (f + 1) l a w :=
  ⟨fun h0 => absurd (hr ▸ h0) (by simp), fun j hj => by
    rw [hr] at hj
    obtain rfl := List.mem_singleton.1 hj
    unfold wpOpIn
    simp only [hi, hw, if_true]
    exact h _ (fun a w hW => ⟨.inl hk, hW⟩)⟩
end Go.Proofs.YtjiojpoiocdnmaaGreat
