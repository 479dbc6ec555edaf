/- The steps by which a scene is laid. No program in sight. -/
import Derived.Test.YtjiojpoiocdnmaaGreatU19
import Derived.Test.YtjiojpoiocdnmaaGreatNQ
import Derived.Test.YtjiojpoiocdnmaaGreatU10
import Derived.Test.YtjiojpoiocdnmaaGreatU17
set_option linter.unusedSimpArgs false
set_option linter.unusedVariables false
namespace Go.Proofs.YtjiojpoiocdnmaaGreat
open Go.RowKit Go.ChangeMaps
theorem heap_set0 {W : World} {b : Nat} {u0 u1 : Value} {t : TypeId} (v : Value) (h : W.heap[b]? = some (.cells #[u0, u1] t (0, 0))) : (W.setCell ⟨b, 0, none⟩ v).heap[b]? = some (.cells #[v, u1] t (0, 0)) := by
  obtain ⟨hlt, hk⟩ := Array.getElem?_eq_some_iff.1 h
  show (W.heap.modify b _)[b]? = _
  rw [Array.getElem?_eq_getElem (by rw [Array.size_modify]; exact hlt), Array.getElem_modify_self, hk]
  rfl
theorem heap_set1 {W : World} {b : Nat} {u0 u1 : Value} {t : TypeId} (v : Value) (h : W.heap[b]? = some (.cells #[u0, u1] t (0, 0))) : (W.setCell ⟨b, 1, none⟩ v).heap[b]? = some (.cells #[u0, v] t (0, 0)) := by
  obtain ⟨hlt, hk⟩ := Array.getElem?_eq_some_iff.1 h
  show (W.heap.modify b _)[b]? = _
  rw [Array.getElem?_eq_getElem (by rw [Array.size_modify]; exact hlt), Array.getElem_modify_self, hk]
  rfl
theorem heap_cell {W : World} {b : Nat} {cs : Array Value} {t : TypeId} (h : W.heap[b]? = some (.cells cs t (0, 0))) : (∀ j v, cs[j]? = some v → W.cell? ⟨b, j, none⟩ = some v) ∧ (∀ j, W.frozen? ⟨b, j, none⟩ = false) ∧ b < W.heap.size :=
  ⟨fun j v hj => by simp [World.cell?, h, hj], fun j => by simp [World.frozen?, h], (Array.getElem?_eq_some_iff.1 h).1⟩
theorem Own.kind {α : Type} {w : World} {base : Nat} {e : TypeId} {enc : α → List Value} {sz : Nat} {v : Value} {l : List α} (h : Own w base e enc sz v l) : ∀ k, v.ownBlock = some k → base ≤ k ∧ ∃ cur e', w.heap[k]? = some (.cells cur e' (0, 0)) ∧ e' = e := by
  intro k hk
  rcases h.2 with ⟨hv, _⟩ | ⟨g, cap, cur, hv, hb, hg, _⟩
  · rw [hv] at hk; cases hk
  · rw [hv] at hk; cases hk; exact ⟨hb, cur, e, hg, rfl⟩
variable {w W wc W4 : World} {tv sv : List Value} {bx B0 : Nat} {X : Scn}
theorem SetS.addT (h : SetS w tv sv bx B0 X W) {g : Grp} (hg : g ∈ X.G) (n : Nat) {A4 : Option Addr} {n4 c4 : Nat} (hB : Below W.heap.size W wc) (hA : AP 3 ic 1 B0 wc g.tv (nums g.ts) [(n : Int)] (.slice A4 n4 c4) W4) (hn : n4 = (nums g.ts ++ [(n : Int)]).length) :
    (W4.cell? ⟨g.b, 0, none⟩ = some g.tv ∧ W4.frozen? ⟨g.b, 0, none⟩ = false ∧ g.b < W4.heap.size ∧ W4.cell? ⟨bx, 1, none⟩ = some (.map (some X.m)) ∧ GMap encC W4 X.m X.grps) ∧
      SetS w tv sv bx B0 { X with G := updG X.G { g with tA := A4, tc := c4, ts := g.ts ++ [n] } } (W4.setCell ⟨g.b, 0, none⟩ (.slice A4 n4 c4)) := by
  have hG := h.g1 g hg
  have hk4 : ∀ k, k < W.heap.size → g.tv.ownBlock ≠ some k → W4.heap[k]? = W.heap[k]? := fun k hk hne => (hA.g.block k (Nat.lt_of_lt_of_le hk hB.size) (fun e => hne e.symm)).trans (hB.block k hk)
  have hb4 : W4.heap[g.b]? = some (.cells #[g.tv, g.rv] 94 (0, 0)) := (hk4 _ hG.lt (hG.t.neB hG.b (by decide))).trans hG.b
  obtain ⟨q1, q2, q3⟩ := heap_cell hb4
  obtain ⟨m1, m2, m3, m4⟩ := h.mid
  have hlow : ∀ k, k < B0 → g.tv.ownBlock ≠ some k := fun k hk e => by have := (hG.t.lt k e).2; omega
  have hhi := h.hi
  have hnum : nums (g.ts ++ [n]) = nums g.ts ++ [(n : Int)] := by simp [nums]
  have hn' : n4 = (g.ts ++ [n]).length := by rw [hn]; simp [nums]
  subst hn'
  refine ⟨⟨q1 0 _ rfl, q2 0, q3, (World.cell?_of_block (a := ⟨bx, 1, none⟩) (hk4 bx (by omega) (hlow bx m1))).trans (h.XB.c 1 _ rfl), h.g0.of_block (hk4 _ (by omega) (hlow _ m2))⟩, ?_⟩
  have hsz : W.heap.size ≤ (W4.setCell ⟨g.b, 0, none⟩ (.slice A4 (g.ts ++ [n]).length c4)).heap.size := by simpa [World.setCell] using Nat.le_trans hB.size hA.g.size
  have hk : ∀ k, k < W.heap.size → k ≠ g.b → g.tv.ownBlock ≠ some k → (W4.setCell ⟨g.b, 0, none⟩ (.slice A4 (g.ts ++ [n]).length c4)).heap[k]? = W.heap[k]? := fun k hk h1 h2 => (Below.heap_setCell W4 ⟨g.b, 0, none⟩ _ k h1).trans (hk4 k hk h2)
  have hfr : ∀ k, (Value.slice A4 (g.ts ++ [n]).length c4).ownBlock = some k → g.tv.ownBlock = some k ∨ W.heap.size ≤ k := fun k e => by
    rcases hA.way with ⟨q, _⟩ | ⟨q, _⟩
    · exact .inl (q ▸ e)
    · exact .inr (Nat.le_trans hB.size (q k e))
  have hg4 : ∀ k, k ≠ g.b → (W4.setCell ⟨g.b, 0, none⟩ (.slice A4 (g.ts ++ [n]).length c4)).heap[k]? = W4.heap[k]? := fun k hk => Below.heap_setCell W4 ⟨g.b, 0, none⟩ _ k hk
  refine h.upd (ev := g.tv) hg rfl rfl ⟨hA.g.os.trans hB.os, hA.g.tape.trans hB.tape, hA.g.output.trans hB.output, hsz⟩ hk (fun k e => by
      obtain ⟨h1, cur, e', h2, h3⟩ := hG.t.kind k e
      exact ⟨h1, cur, e', h2, .inl h3⟩) ⟨hG.lo, heap_set0 _ hb4, ?_, ?_⟩ (fun q hq hne => ⟨(h.gd q hq g hg hne).2.1, fun k e e' => (h.g1 q hq).r.ne hG.t (by decide) k e e'⟩) (fun q hq hne => ⟨fun k e e' => ?_, (h.gd g hg q hq (fun e => hne e.symm)).2.2⟩)
  · show Own _ B0 3 ic 1 (.slice A4 (g.ts ++ [n]).length c4) (nums (g.ts ++ [n]))
    rw [hnum]
    refine hA.o.block fun k e => hg4 k (fun e' => ?_)
    subst e'
    exact hA.o.neB hb4 (by decide) e
  · refine hG.r.block fun k e => hk k (hG.r.lt k e).1 (fun e' => ?_) (fun e' => hG.t.ne hG.r (by decide) k e' e)
    subst e'
    exact hG.r.neB hG.b (by decide) e
  · rcases hfr k e with q1 | q1
    · exact (h.gd g hg q hq (fun e => hne e.symm)).2.1 k q1 e'
    · have := ((h.g1 q hq).t.lt k e').1; omega
theorem SetS.addR (h : SetS w tv sv bx B0 X W) {g : Grp} (hg : g ∈ X.G) (r : Rep) {A4 : Option Addr} {n4 c4 : Nat} (hB : Below W.heap.size W wc) (hA : AP 55 Rep.cells 6 B0 wc g.rv g.rs [r] (.slice A4 n4 c4) W4) (hn : n4 = (g.rs ++ [r]).length) :
    (W4.cell? ⟨g.b, 1, none⟩ = some g.rv ∧ W4.frozen? ⟨g.b, 1, none⟩ = false ∧ g.b < W4.heap.size) ∧
      SetS w tv sv bx B0 { X with G := updG X.G { g with rA := A4, rc := c4, rs := g.rs ++ [r] } } (W4.setCell ⟨g.b, 1, none⟩ (.slice A4 n4 c4)) := by
  have hG := h.g1 g hg
  have hk4 : ∀ k, k < W.heap.size → g.rv.ownBlock ≠ some k → W4.heap[k]? = W.heap[k]? := fun k hk hne => (hA.g.block k (Nat.lt_of_lt_of_le hk hB.size) (fun e => hne e.symm)).trans (hB.block k hk)
  have hb4 : W4.heap[g.b]? = some (.cells #[g.tv, g.rv] 94 (0, 0)) := (hk4 _ hG.lt (hG.r.neB hG.b (by decide))).trans hG.b
  obtain ⟨q1, q2, q3⟩ := heap_cell hb4
  have hhi := h.hi
  subst hn
  refine ⟨⟨q1 1 _ rfl, q2 1, q3⟩, ?_⟩
  have hsz : W.heap.size ≤ (W4.setCell ⟨g.b, 1, none⟩ (.slice A4 (g.rs ++ [r]).length c4)).heap.size := by simpa [World.setCell] using Nat.le_trans hB.size hA.g.size
  have hk : ∀ k, k < W.heap.size → k ≠ g.b → g.rv.ownBlock ≠ some k → (W4.setCell ⟨g.b, 1, none⟩ (.slice A4 (g.rs ++ [r]).length c4)).heap[k]? = W.heap[k]? := fun k hk h1 h2 => (Below.heap_setCell W4 ⟨g.b, 1, none⟩ _ k h1).trans (hk4 k hk h2)
  have hfr : ∀ k, (Value.slice A4 (g.rs ++ [r]).length c4).ownBlock = some k → g.rv.ownBlock = some k ∨ W.heap.size ≤ k := fun k e => by
    rcases hA.way with ⟨q, _⟩ | ⟨q, _⟩
    · exact .inl (q ▸ e)
    · exact .inr (Nat.le_trans hB.size (q k e))
  have hg4 : ∀ k, k ≠ g.b → (W4.setCell ⟨g.b, 1, none⟩ (.slice A4 (g.rs ++ [r]).length c4)).heap[k]? = W4.heap[k]? := fun k hk => Below.heap_setCell W4 ⟨g.b, 1, none⟩ _ k hk
  refine h.upd (ev := g.rv) hg rfl rfl ⟨hA.g.os.trans hB.os, hA.g.tape.trans hB.tape, hA.g.output.trans hB.output, hsz⟩ hk (fun k e => by
      obtain ⟨h1, cur, e', h2, h3⟩ := hG.r.kind k e
      exact ⟨h1, cur, e', h2, .inr h3⟩) ⟨hG.lo, heap_set1 _ hb4, ?_, ?_⟩ (fun q hq hne => ⟨fun k e e' => (h.g1 q hq).t.ne hG.r (by decide) k e e', (h.gd q hq g hg hne).2.2⟩) (fun q hq hne => ⟨(h.gd g hg q hq (fun e => hne e.symm)).2.1, fun k e e' => ?_⟩)
  · refine hG.t.block fun k e => hk k (hG.t.lt k e).1 (fun e' => ?_) (fun e' => hG.r.ne hG.t (by decide) k e' e)
    subst e'
    exact hG.t.neB hG.b (by decide) e
  · refine hA.o.block fun k e => hg4 k (fun e' => ?_)
    subst e'
    exact hA.o.neB hb4 (by decide) e
  · rcases hfr k e with q1 | q1
    · exact (h.gd g hg q hq (fun e => hne e.symm)).2.2 k q1 e'
    · have := ((h.g1 q hq).r.lt k e').1; omega
/-- The stays of a track are added. -/
theorem SetS.addS (h : SetS w tv sv bx B0 X W) (row : SliceOf (SliceOf Sty)) (hr : Own W B0 95 SliceOf.enc 1 row.v row.l) (hq : ∀ q ∈ row.l, Own W B0 113 Sty.cells 4 q.v q.l) {A4 : Option Addr} {n4 c4 : Nat} (hB : Below W.heap.size W wc)
    (hA : AP 135 SliceOf.enc 1 B0 wc X.sv X.st [row] (.slice A4 n4 c4) W4) (hn : n4 = (X.st ++ [row]).length) :
    (W4.cell? ⟨bx, 0, none⟩ = some X.sv ∧ W4.frozen? ⟨bx, 0, none⟩ = false ∧ bx < W4.heap.size) ∧ SetS w tv sv bx B0 { X with sA := A4, sc := c4, st := X.st ++ [row] } (W4.setCell ⟨bx, 0, none⟩ (.slice A4 n4 c4)) := by
  obtain ⟨m1, m2, m3, m4⟩ := h.mid
  have hhi := h.hi
  have hlo := h.lo
  have hk4 : ∀ k, k < W.heap.size → X.sv.ownBlock ≠ some k → W4.heap[k]? = W.heap[k]? := fun k hk hne => (hA.g.block k (Nat.lt_of_lt_of_le hk hB.size) (fun e => hne e.symm)).trans (hB.block k hk)
  have hlow : ∀ k, k < B0 → X.sv.ownBlock ≠ some k := fun k hk e => by have := (h.s0.lt k e).2; omega
  have hX4 : Blk W4 bx X.cells := h.XB.keepB (hk4 bx (by omega) (hlow bx m1))
  subst hn
  refine ⟨⟨hX4.c 0 _ rfl, hX4.f 0, hX4.lt⟩, ?_⟩
  have hsz : W.heap.size ≤ (W4.setCell ⟨bx, 0, none⟩ (.slice A4 (X.st ++ [row]).length c4)).heap.size := by simpa [World.setCell] using Nat.le_trans hB.size hA.g.size
  have hk : ∀ k, k < W.heap.size → k ≠ bx → X.sv.ownBlock ≠ some k → (W4.setCell ⟨bx, 0, none⟩ (.slice A4 (X.st ++ [row]).length c4)).heap[k]? = W.heap[k]? := fun k hk h1 h2 => (Below.heap_setCell W4 ⟨bx, 0, none⟩ _ k h1).trans (hk4 k hk h2)
  have own : ∀ {α : Type} {e : TypeId} {enc : α → List Value} {sz : Nat} {v : Value} {l : List α}, Own W B0 e enc sz v l → e ≠ 135 → Own (W4.setCell ⟨bx, 0, none⟩ (.slice A4 (X.st ++ [row]).length c4)) B0 e enc sz v l := fun {α e enc sz v l} ho he => ho.block fun k e' => hk k (ho.lt k e').1 (by have := (ho.lt k e').2; omega) (fun q => h.s0.ne ho (fun q => he q.symm) k q e')
  have hf : Fix w W (W4.setCell ⟨bx, 0, none⟩ (.slice A4 (X.st ++ [row]).length c4)) B0 := ⟨hA.g.os.trans hB.os, hA.g.tape.trans hB.tape, hA.g.output.trans hB.output, hsz⟩
  refine ⟨h.below hf (fun k hk' => hk k (by omega) (by omega) (hlow k (by omega))), h.T.keepB (hk _ (by omega) (by omega) (hlow _ (by omega))), h.S.keepB (hk _ (by omega) (by omega) (hlow _ (by omega))), hX4.set (j := 0) (by simp [Scn.cells]) _, hlo, ⟨m1, m2, m3, m4⟩, Nat.le_trans hhi hsz, ?_, fun r hr' => ?_, fun r hr' q hq' => ?_, h.g0.of_block (hk _ (by omega) (fun e => m4 e.symm) (hlow _ m2)), fun g hg => ?_, h.gd⟩
  · exact hA.o.block fun k e => Below.heap_setCell W4 ⟨bx, 0, none⟩ _ k (by have := (hA.o.lt k e).2; show k ≠ bx; omega)
  · rcases List.mem_append.1 hr' with hr' | hr'
    · exact own (h.s1 r hr') (by decide)
    · obtain rfl := List.mem_singleton.1 hr'; exact own hr (by decide)
  · rcases List.mem_append.1 hr' with hr' | hr'
    · exact own (h.s2 r hr' q hq') (by decide)
    · obtain rfl := List.mem_singleton.1 hr'; exact own (hq q hq') (by decide)
  · have hG := h.g1 g hg
    exact ⟨hG.lo, (hk _ hG.lt (by have := hG.lo; omega) (h.s0.neB hG.b (by decide))).trans hG.b, own hG.t (by decide), own hG.r (by decide)⟩
/-- A number of the scene's own is stored. -/
theorem SetS.num (h : SetS w tv sv bx B0 X W) (j : Nat) (v : Value) (X' : Scn) (hc : X'.cells = X.cells.set j v) (hj : j < 11) (h1 : X'.sv = X.sv) (h1' : X'.st = X.st) (h2 : X'.m = X.m) (h3 : X'.G = X.G) :
    SetS w tv sv bx B0 X' (W.setCell ⟨bx, j, none⟩ v) := by
  obtain ⟨m1, m2, m3, m4⟩ := h.mid
  have hlo := h.lo
  have hk : ∀ k, k ≠ bx → (W.setCell ⟨bx, j, none⟩ v).heap[k]? = W.heap[k]? := fun k hk => Below.heap_setCell W ⟨bx, j, none⟩ v k hk
  have own : ∀ {α : Type} {e : TypeId} {enc : α → List Value} {sz : Nat} {v' : Value} {l : List α}, Own W B0 e enc sz v' l → Own (W.setCell ⟨bx, j, none⟩ v) B0 e enc sz v' l := fun ho => ho.far_set (by show bx < B0; exact m1)
  have hg : X'.grps = X.grps := by unfold Scn.grps; rw [h3]
  refine ⟨below_set h.E _ _ (by show w.heap.size ≤ bx; omega), h.T.keepB (hk _ (by omega)), h.S.keepB (hk _ (by omega)), by rw [hc]; exact h.XB.set (j := j) (by simpa [Scn.cells] using hj) v, hlo, by rw [h2]; exact ⟨m1, m2, m3, m4⟩, by simpa [World.setCell] using h.hi, by rw [h1, h1']; exact own h.s0, by rw [h1']; exact fun r hr => own (h.s1 r hr), by rw [h1']; exact fun r hr q hq => own (h.s2 r hr q hq), by rw [h2, hg]; exact h.g0.of_block (hk _ (fun e => m4 e.symm)), by rw [h3]; exact fun g hg => (by
    have := h.g1 g hg
    exact ⟨this.lo, (hk _ (by have := this.lo; omega)).trans this.b, own this.t, own this.r⟩), by rw [h3]; exact h.gd⟩
end Go.Proofs.YtjiojpoiocdnmaaGreat
/- What a scene says of tracks, stations and reports; the closures of set. -/
set_option linter.unusedSimpArgs false
set_option linter.unusedVariables false
namespace Go.Proofs.YtjiojpoiocdnmaaGreat
open Go.RowKit
def idxs (l : List Trk) (k : Nat) (c : ByteArray) : List Nat := (List.range k).filter (fun i => decide ((l[i]?).map (·.fl.call) = some c))
structure GSpec (l : List Trk) (k : Nat) (G : List Grp) (R : List Rep) : Prop where
  nd : (G.map (·.call)).Nodup
  ts : ∀ g ∈ G, g.ts = idxs l k g.call
  has : ∀ (i : Nat) (x : Trk), i < k → l[i]? = some x → ∃ g ∈ G, g.call = x.fl.call
  only : ∀ g ∈ G, ∃ x ∈ l, x.fl.call = g.call
  rs : ∀ g ∈ G, g.rs = R.filter (fun r => decide (r.call = g.call))
theorem idxs_succ {l : List Trk} {k : Nat} {x : Trk} (hx : l[k]? = some x) (c : ByteArray) : idxs l (k + 1) c = if x.fl.call = c then idxs l k c ++ [k] else idxs l k c := by
  unfold idxs
  rw [List.range_succ, List.filter_append]
  by_cases h : x.fl.call = c
  · rw [if_pos h]; simp [hx, h]
  · rw [if_neg h]; simp [hx, h]
theorem GSpec.nil (l : List Trk) : GSpec l 0 [] [] := ⟨List.nodup_nil, by simp, fun i x h => by omega, by simp, by simp⟩
theorem GSpec.new {l : List Trk} {k : Nat} {G : List Grp} {x : Trk} (h : GSpec l k G []) (hx : l[k]? = some x) (hc : x.fl.call ∉ G.map (·.call)) (b : Nat) : GSpec l k (G ++ [newG x.fl.call b]) [] := by
  refine ⟨?_, fun g hg => ?_, fun i y hi hy => ?_, fun g hg => ?_, fun g hg => ?_⟩
  · rw [List.map_append, List.nodup_append]
    exact ⟨h.nd, by simp, fun a ha b hb e => by simp [newG] at hb; subst hb; subst e; exact hc ha⟩
  · rcases List.mem_append.1 hg with hg | hg
    · exact h.ts g hg
    · obtain rfl := List.mem_singleton.1 hg
      show [] = idxs l k x.fl.call
      symm
      unfold idxs
      rw [List.filter_eq_nil_iff]
      intro i hi
      simp only [decide_eq_true_eq]
      intro e
      cases hy : l[i]? with
      | none => rw [hy] at e; cases e
      | some y =>
        rw [hy] at e
        simp only [Option.map_some, Option.some.injEq] at e
        obtain ⟨g, hg, hgc⟩ := h.has i y (List.mem_range.1 hi) hy
        exact hc (List.mem_map.2 ⟨g, hg, hgc.trans e⟩)
  · obtain ⟨g, hg, e⟩ := h.has i y hi hy
    exact ⟨g, List.mem_append.2 (.inl hg), e⟩
  · rcases List.mem_append.1 hg with hg | hg
    · exact h.only g hg
    · obtain rfl := List.mem_singleton.1 hg
      exact ⟨x, List.mem_of_getElem? hx, rfl⟩
  · rcases List.mem_append.1 hg with hg | hg
    · exact h.rs g hg
    · obtain rfl := List.mem_singleton.1 hg
      rfl
theorem updG_calls (G : List Grp) (g' : Grp) : (updG G g').map (·.call) = G.map (·.call) := by
  unfold updG
  rw [List.map_map]
  refine List.map_congr_left fun q _ => ?_
  simp only [Function.comp]
  split
  · rename_i e; exact e.symm
  · rfl
theorem mem_updG_of {G : List Grp} {g g' : Grp} (hg : g ∈ G) (hc : g'.call = g.call) : g' ∈ updG G g' := List.mem_map.2 ⟨g, hg, by rw [if_pos hc.symm]⟩
theorem GSpec.add {l : List Trk} {k : Nat} {G : List Grp} {x : Trk} {g : Grp} (h : GSpec l k G []) (hx : l[k]? = some x) (hg : g ∈ G) (hc : g.call = x.fl.call) (A : Option Addr) (c : Nat) : GSpec l (k + 1) (updG G { g with tA := A, tc := c, ts := g.ts ++ [k] }) [] := by
  refine ⟨by rw [updG_calls]; exact h.nd, fun q hq => ?_, fun i y hi hy => ?_, fun q hq => ?_, fun q hq => ?_⟩
  · rw [idxs_succ hx]
    rcases mem_updG hq with rfl | ⟨hq, hne⟩
    · rw [if_pos hc.symm, h.ts g hg]
    · rw [if_neg (fun e => hne (e.symm.trans hc.symm)), h.ts q hq]
  · have : ∃ q ∈ G, q.call = y.fl.call := by
      rcases Nat.lt_or_ge i k with hik | hik
      · exact h.has i y hik hy
      · obtain rfl : i = k := by omega
        rw [hx] at hy; cases hy; exact ⟨g, hg, hc⟩
    obtain ⟨q, hq, e⟩ := this
    by_cases e2 : q.call = g.call
    · exact ⟨_, mem_updG_of hg rfl, e2.symm.trans e⟩
    · exact ⟨q, List.mem_map.2 ⟨q, hq, by rw [if_neg e2]⟩, e⟩
  · rcases mem_updG hq with rfl | ⟨hq, hne⟩
    · exact h.only g hg
    · exact h.only q hq
  · rcases mem_updG hq with rfl | ⟨hq, hne⟩
    · exact h.rs g hg
    · exact h.rs q hq
theorem GSpec.rep {l : List Trk} {k : Nat} {G : List Grp} {R : List Rep} {r : Rep} {g : Grp} (h : GSpec l k G R) (hg : g ∈ G) (hc : g.call = r.call) (A : Option Addr) (c : Nat) : GSpec l k (updG G { g with rA := A, rc := c, rs := g.rs ++ [r] }) (R ++ [r]) := by
  refine ⟨by rw [updG_calls]; exact h.nd, fun q hq => ?_, fun i y hi hy => ?_, fun q hq => ?_, fun q hq => ?_⟩
  · rcases mem_updG hq with rfl | ⟨hq, hne⟩
    · exact h.ts g hg
    · exact h.ts q hq
  · obtain ⟨q, hq, e⟩ := h.has i y hi hy
    by_cases e2 : q.call = g.call
    · exact ⟨_, mem_updG_of hg rfl, e2.symm.trans e⟩
    · exact ⟨q, List.mem_map.2 ⟨q, hq, by rw [if_neg e2]⟩, e⟩
  · rcases mem_updG hq with rfl | ⟨hq, hne⟩
    · exact h.only g hg
    · exact h.only q hq
  · rw [List.filter_append]
    rcases mem_updG hq with rfl | ⟨hq, hne⟩
    · show g.rs ++ [r] = _
      rw [h.rs g hg]; simp [hc]
    · rw [h.rs q hq]
      have : ¬ r.call = q.call := fun e => hne (by rw [← e]; exact hc.symm)
      simp [this]
theorem GSpec.norep {l : List Trk} {k : Nat} {G : List Grp} {R : List Rep} {r : Rep} (h : GSpec l k G R) (hc : r.call ∉ G.map (·.call)) : GSpec l k G (R ++ [r]) :=
  ⟨h.nd, h.ts, h.has, h.only, fun q hq => by
    rw [List.filter_append, h.rs q hq]
    have : ¬ r.call = q.call := fun e => hc (List.mem_map.2 ⟨q, hq, e.symm⟩)
    simp [this]⟩
theorem GSpec.calls {l : List Trk} {G : List Grp} {R : List Rep} (h : GSpec l l.length G R) (c : ByteArray) : c ∈ G.map (·.call) ↔ l.any (fun x => decide (x.fl.call = c)) = true := by
  constructor
  · intro hm
    obtain ⟨g, hg, rfl⟩ := List.mem_map.1 hm
    obtain ⟨x, hx, e⟩ := h.only g hg
    exact List.any_eq_true.2 ⟨x, hx, by simp [e]⟩
  · intro hm
    obtain ⟨x, hx, e0⟩ := List.any_eq_true.1 hm
    obtain rfl : x.fl.call = c := by simpa using e0
    obtain ⟨i, hi⟩ := List.mem_iff_getElem?.1 hx
    obtain ⟨g, hg, e⟩ := h.has i x (List.getElem?_eq_some_iff.1 hi).1 hi
    exact List.mem_map.2 ⟨g, hg, e⟩
def hasC (l : List Trk) (c : ByteArray) : Bool := l.any (fun x => decide (x.fl.call = c))
def lostStep (l : List Trk) (v : V4) (r : Rep) : V4 := if hasC l r.call then v else v.inc r.st.toNat
def lostV (l : List Trk) (R : List Rep) : V4 := R.foldl (lostStep l) V4.zero
theorem lost_in (l : List Trk) : ∀ (R : List Rep) (v : V4) (N : Int), v.In N → (R.foldl (lostStep l) v).In (N + R.length)
  | [], v, N, h => by simpa using h
  | r :: R, v, N, h => by
    have h1 : (lostStep l v r).In (N + 1) := by
      unfold lostStep
      split
      · exact h.mono (by omega)
      · exact h.inc _
    have := lost_in l R _ (N + 1) h1
    simp only [List.foldl_cons, List.length_cons]
    exact this.mono (by omega)
def budV (s : List Stn) : V4 := ⟨((s[0]?).map (·.fa)).getD 0, ((s[1]?).map (·.fa)).getD 0, ((s[2]?).map (·.fa)).getD 0, ((s[3]?).map (·.fa)).getD 0⟩
theorem budV_step {s : List Stn} {k : Nat} {x : Stn} (hx : s[k]? = some x) (h : k < 4) : (budV (s.take k)).set k x.fa = budV (s.take (k + 1)) := by
  match k, h with
  | 0, _ => simp [budV, V4.set, List.getElem?_take, hx]
  | 1, _ => simp [budV, V4.set, List.getElem?_take, hx]
  | 2, _ => simp [budV, V4.set, List.getElem?_take, hx]
  | 3, _ => simp [budV, V4.set, List.getElem?_take, hx]
structure SceneSpec (t : Tab) (s : List Stn) (R : List Rep) (l : List Trk) (X : Scn) : Prop where
  st : X.stays = l.map (fun y => y.ps.l.map (staysL t))
  G : GSpec l l.length X.G R
  lost : X.lost = lostV l R
  bud : X.bud = budV s
  sh : X.sh.map (·.l) = shiftsL s
def askB (t : Tab) (s : List Stn) (R : List Rep) : Bool := decide (s.length ≤ 4) && decide (R.length ≤ 1024) && s.all (stnB t.n) && R.all (repB s.length)
def askE (t : Tab) (s : List Stn) (R : List Rep) (l : List Trk) : Int := if wchkE t l ≠ 0 then wchkE t l else if askB t s R then 0 else 240
theorem setCell_self {W : World} {b j : Nat} {v : Value} (h : W.cell? ⟨b, j, none⟩ = some v) : W.setCell ⟨b, j, none⟩ v = W := by
  have hh : (W.setCell ⟨b, j, none⟩ v).heap = W.heap := by
    refine Array.ext_getElem? fun i => ?_
    by_cases e : i = b
    · subst e
      unfold World.cell? at h
      cases hb : W.heap[i]? with
      | none => rw [hb] at h; cases h
      | some o =>
        rw [hb] at h
        obtain ⟨hlt, hk⟩ := Array.getElem?_eq_some_iff.1 hb
        cases o with
        | cells c t f =>
          have hj : c[j]? = some v := by simpa using h
          obtain ⟨hj1, hj2⟩ := Array.getElem?_eq_some_iff.1 hj
          show (W.heap.modify i _)[i]? = _
          rw [Array.getElem?_eq_getElem (by rw [Array.size_modify]; exact hlt), Array.getElem_modify_self, hk]
          have : c.setIfInBounds j v = c := by
            refine Array.ext (by rw [Array.size_setIfInBounds]) fun q q1 q2 => ?_
            rw [Array.getElem_setIfInBounds (by simpa using q2)]
            split
            · rename_i e; subst e; exact hj2.symm
            · rfl
          show some (Obj.cells (c.setIfInBounds j v) t f) = _
          rw [this]
        | _ => simp at h
    · exact Below.heap_setCell W ⟨b, j, none⟩ v i e
  calc W.setCell ⟨b, j, none⟩ v = { W with heap := (W.setCell ⟨b, j, none⟩ v).heap } := rfl
    _ = W := by rw [hh]
theorem entersS1 : Enters Tryz.prog 46 := fun args w => by kernel_rfl
theorem set1_any (t : Tab) (b : Nat) (x : Stn) (w : World) (hx : Stn.ok w x) (hb : Blk w b t.cells) : Calls Tryz.prog 46 #[x.v, .pointer (some ⟨b, 0, none⟩)] w fun e w' => e = .returned (.bool (!stnB t.n x)) ∧ Below w.heap.size w w' := by
  have HE := Lib.hid (ext_alloc (ext_refl w) (.cells #[.slice x.vs.A x.vs.l.length x.vs.c, .int .i64 x.sh, .int .i64 x.fa] 41))
  have HB := hb.alloc (.cells #[.slice x.vs.A x.vs.l.length x.vs.c, .int .i64 x.sh, .int .i64 x.fa] 41)
  have HX := Lib.hid hx
  have c0 := HB.c 0 _ rfl
  have bl := HB.lt
  clear hx hb HB
  go_enter Tryz.func46, Tryz.ntmps46
  go_wp2_with fail
  cases hs : stnB t.n x
  all_goals
    refine (stn_at _ (stnE_of hs) (HX.out.ext HE.out)).mono ?_
    rintro e w2 ⟨rfl, B⟩
    have HS := Lib.hid hs
    clear hs
    simp only [Bool.false_eq_true, if_false, if_true]
    go_wp2_with fail
    go_ret
    rw [HS.out]
    exact ⟨rfl, ext_trans HE.out B⟩
theorem entersS2 : Enters Tryz.prog 49 := fun args w => by kernel_rfl
theorem set2_any (A : Option Addr) (n c : Nat) (b : Nat) (x : Rep) (w : World) (hn : n ≤ 100000) (hb : Blk w b [.slice A n c]) : Calls Tryz.prog 49 #[x.v, .pointer (some ⟨b, 0, none⟩)] w fun e w' => e = .returned (.bool (!repB n x)) ∧ Below w.heap.size w w' := by
  have HE := Lib.hid (ext_alloc (ext_refl w) (.cells #[.int .i64 x.st, .int .i64 x.no, .int .i64 x.mi, .int .i64 x.ar, .string x.call, .int .i64 x.vol] 55))
  have HB := hb.alloc (.cells #[.int .i64 x.st, .int .i64 x.no, .int .i64 x.mi, .int .i64 x.ar, .string x.call, .int .i64 x.vol] 55)
  have c0 := HB.c 0 _ rfl
  have bl := HB.lt
  clear hb HB
  go_enter Tryz.func49, Tryz.ntmps49
  go_wp2_with fail
  cases hs : repB n x
  all_goals
    refine (rep_at _ (repE_of hs) (by omega) (by omega)).mono ?_
    rintro e w2 ⟨rfl, B⟩
    have HS := Lib.hid hs
    clear hs
    simp only [Bool.false_eq_true, if_false, if_true]
    go_wp2_with fail
    go_ret
    rw [HS.out]
    exact ⟨rfl, ext_trans HE.out B⟩
set_option maxHeartbeats 400000 in
theorem indexRep (g : Nat) (cap1 : Value) (p : Rep → Bool) (A : Option Addr) (c : Nat) (l : List (Rep)) (w : World) (ha : Slc w Rep.cells 6 A l) (hn : l.length ≤ maxLen) (hE : Enters Tryz.prog g)
    (hp : ∀ (x : Rep) (W : World), x ∈ l → Below w.heap.size w W → Calls Tryz.prog g #[x.v, cap1] W fun e W' => e = .returned (.bool (p x)) ∧ Below W.heap.size W W') :
    Calls Tryz.prog 77 #[.slice A l.length c, .func (.func g) #[] #[cap1]] w fun e w' => e = .returned (.int .i64 (idxGo p 0 l)) ∧ Below w.heap.size w w' := by
  have HP := Lib.hid hp
  have HE := Lib.hid hE
  clear hp hE
  unfold maxLen at hn
  go_enter Tryz.func77, Tryz.ntmps77
  go_wp2
  go_loopw [8] (fun i wr => ∃ k : Nat, k ≤ l.length ∧ i = .int .i64 k ∧ idxGo p 0 l = idxGo p k (l.drop k) ∧ Below w.heap.size w wr) (fun i _ => l.length - (intOf i).toNat)
  case atStart => exact ⟨0, Nat.zero_le _, rfl, rfl, ext_refl _⟩
  case round =>
    obtain ⟨k, hk, rfl, heq, hB⟩ := hrel
    have HQ := Lib.hid heq
    clear heq
    by_cases hlt : k < l.length
    · obtain ⟨x, b1, o1, hx, rfl, hb1, hc⟩ := (ha.ext hB).at_ hlt
      have HX := Lib.hid hx
      clear hx
      have c0 := hc 0 _ rfl
      have c1 := hc 1 _ rfl
      have c2 := hc 2 _ rfl
      have c3 := hc 3 _ rfl
      have c4 := hc 4 _ rfl
      have c5 := hc 5 _ rfl
      simp only [Nat.mul_one, Nat.add_zero] at c0 c1 c2 c3 c4 c5
      clear hc
      have hlt' : (k : Int) < l.length := by omega
      have hE2 := HE.out #[x.v, cap1] wr
      cases hpx : p x
      · go_wp2_with fail
        refine (HP.out x wr (List.mem_of_getElem? HX.out) hB).mono ?_
        rintro e w1 ⟨rfl, hB1⟩
        clear hE2
        go_wp2_with fail
        go_roundw
        case rel => exact ⟨k + 1, hlt, by go_num, idx_step HX.out hpx HQ.out, ext_trans hB hB1⟩
        case measure => simp [intOf]; omega
      · go_wp2_with fail
        refine (HP.out x wr (List.mem_of_getElem? HX.out) hB).mono ?_
        rintro e w1 ⟨rfl, hB1⟩
        clear hE2
        go_wp2_with fail
        go_ret
        exact ⟨ret_int (idx_hit HX.out hpx HQ.out).symm, ext_trans hB hB1⟩
    · go_wp2_with fail
      go_ret
      exact ⟨ret_int (idx_end (by omega) HQ.out).symm, hB⟩
theorem containsRep (g : Nat) (cap1 : Value) (p : Rep → Bool) (A : Option Addr) (c : Nat) (l : List (Rep)) (w : World) (ha : Slc w Rep.cells 6 A l) (hn : l.length ≤ maxLen) (hE : Enters Tryz.prog g)
    (hp : ∀ (x : Rep) (W : World), x ∈ l → Below w.heap.size w W → Calls Tryz.prog g #[x.v, cap1] W fun e W' => e = .returned (.bool (p x)) ∧ Below W.heap.size W W') :
    Calls Tryz.prog 48 #[.slice A l.length c, .func (.func g) #[] #[cap1]] w fun e w' => e = .returned (.bool (l.any p)) ∧ Below w.heap.size w w' := by
  have HP := Lib.hid hp
  have HE := Lib.hid hE
  clear hp hE
  go_enter Tryz.func48, Tryz.ntmps48
  go_wp2_with fail
  refine (indexRep g cap1 p A c l _ ha hn HE.out HP.out).mono ?_
  rintro e w1 ⟨rfl, hB1⟩
  go_wp2_with fail
  go_ret
  exact ⟨ret_bool (idx_any p l), hB1⟩

end Go.Proofs.YtjiojpoiocdnmaaGreat
