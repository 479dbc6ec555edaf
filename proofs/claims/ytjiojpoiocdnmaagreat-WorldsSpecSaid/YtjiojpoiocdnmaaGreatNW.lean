/- A scene while it is being laid. No program in sight. -/
import Derived.Test.YtjiojpoiocdnmaaGreatU26
set_option linter.unusedSimpArgs false
set_option linter.unusedVariables false
namespace Go.Proofs.YtjiojpoiocdnmaaGreat
open Go.RowKit Go.ChangeMaps
structure GrpB (W : World) (B0 : Nat) (g : Grp) : Prop where
  lo : B0 ≤ g.b
  b : W.heap[g.b]? = some (.cells #[g.tv, g.rv] 94 (0, 0))
  t : Own W B0 3 ic 1 g.tv (nums g.ts)
  r : Own W B0 55 Rep.cells 6 g.rv g.rs
theorem GrpB.ok {W : World} {B0 : Nat} {g : Grp} (h : GrpB W B0 g) : GrpOk W g := ⟨h.b, h.t.low (Nat.zero_le _), h.r.low (Nat.zero_le _)⟩
theorem GrpB.lt {W : World} {B0 : Nat} {g : Grp} (h : GrpB W B0 g) : g.b < W.heap.size := (Array.getElem?_eq_some_iff.1 h.b).1
theorem GrpB.keep {W W' : World} {B0 : Nat} {g : Grp} (h : GrpB W B0 g) (h1 : W'.heap[g.b]? = W.heap[g.b]?) (h2 : ∀ k, g.tv.ownBlock = some k → W'.heap[k]? = W.heap[k]?) (h3 : ∀ k, g.rv.ownBlock = some k → W'.heap[k]? = W.heap[k]?) : GrpB W' B0 g :=
  ⟨h.lo, h1.trans h.b, h.t.block h2, h.r.block h3⟩
structure SetS (w : World) (tv sv : List Value) (bx B0 : Nat) (X : Scn) (W : World) : Prop where
  E : Below w.heap.size w W
  T : Blk W w.heap.size tv
  S : Blk W (w.heap.size + 1) sv
  XB : Blk W bx X.cells
  lo : w.heap.size + 1 < bx
  mid : bx < B0 ∧ X.m < B0 ∧ w.heap.size + 1 < X.m ∧ bx ≠ X.m
  hi : B0 ≤ W.heap.size
  s0 : Own W B0 135 SliceOf.enc 1 X.sv X.st
  s1 : ∀ r ∈ X.st, Own W B0 95 SliceOf.enc 1 r.v r.l
  s2 : ∀ r ∈ X.st, ∀ q ∈ r.l, Own W B0 113 Sty.cells 4 q.v q.l
  g0 : GMap encC W X.m X.grps
  g1 : ∀ g ∈ X.G, GrpB W B0 g
  gd : ∀ g ∈ X.G, ∀ h ∈ X.G, g.call ≠ h.call → g.b ≠ h.b ∧ (∀ k, g.tv.ownBlock = some k → h.tv.ownBlock ≠ some k) ∧ (∀ k, g.rv.ownBlock = some k → h.rv.ownBlock ≠ some k)
variable {w W W' : World} {tv sv : List Value} {bx B0 : Nat} {X : Scn}
theorem SetS.ext (h : SetS w tv sv bx B0 X W) (hb : Below W.heap.size W W') : SetS w tv sv bx B0 X W' :=
  ⟨ext_trans h.E hb, h.T.ext hb, h.S.ext hb, h.XB.ext hb, h.lo, h.mid, Nat.le_trans h.hi hb.size, h.s0.ext hb, fun r hr => (h.s1 r hr).ext hb, fun r hr q hq => (h.s2 r hr q hq).ext hb, h.g0.ext hb,
    fun g hg => (h.g1 g hg).keep (hb.block _ (h.g1 g hg).lt) (fun k e => hb.block k ((h.g1 g hg).t.lt k e).1) (fun k e => hb.block k ((h.g1 g hg).r.lt k e).1), h.gd⟩
theorem SetS.scene (h : SetS w tv sv bx B0 X W) (hh : Own W 0 39 SliceOf.enc 1 X.hv X.sh) (hr : ∀ r ∈ X.sh, Own W 0 3 ic 1 r.v r.l) : SceneOk W X :=
  ⟨h.s0.low (Nat.zero_le _), fun r hr => (h.s1 r hr).low (Nat.zero_le _), fun r hr q hq => (h.s2 r hr q hq).low (Nat.zero_le _), h.g0, fun g hg => (h.g1 g hg).ok, hh, hr⟩
/-- What a step leaves of the fixed parts. -/
structure Fix (w W W' : World) (B0 : Nat) : Prop where
  os : W'.os = W.os
  tape : W'.tape = W.tape
  out : W'.output = W.output
  size : W.heap.size ≤ W'.heap.size
theorem SetS.below (h : SetS w tv sv bx B0 X W) (hf : Fix w W W' B0) (hk : ∀ k, k < w.heap.size → W'.heap[k]? = W.heap[k]?) : Below w.heap.size w W' :=
  ⟨hf.os.trans h.E.os, hf.tape.trans h.E.tape, hf.out.trans h.E.output, Nat.le_trans h.E.size hf.size, fun k hk' => (hk k hk').trans (h.E.block k hk')⟩
/-- A new group. -/
def newG (c : ByteArray) (b : Nat) : Grp := ⟨c, b, none, 0, [], none, 0, []⟩
theorem SetS.grps_get (h : SetS w tv sv bx B0 X W) (c : ByteArray) : (c ∉ X.G.map (·.call) ∧ asc X.grps c = none) ∨ ∃ g ∈ X.G, g.call = c ∧ asc X.grps c = some (gptr g.b) := by
  by_cases hc : c ∈ X.G.map (·.call)
  · right
    obtain ⟨g, hg, e⟩ := List.mem_map.1 hc
    refine ⟨g, hg, e, ?_⟩
    rw [← e]
    exact asc_some (p := (g.call, gptr g.b)) h.g0.nd_ (List.mem_map.2 ⟨g, hg, rfl⟩)
  · left
    refine ⟨hc, asc_none ?_⟩
    intro hm
    obtain ⟨p, hp, e⟩ := List.mem_map.1 hm
    obtain ⟨g, hg, rfl⟩ := List.mem_map.1 hp
    exact hc (List.mem_map.2 ⟨g, hg, e⟩)
theorem SetS.new (h : SetS w tv sv bx B0 X W) (c : ByteArray) (hc : c ∉ X.G.map (·.call)) :
    ∃ o, (Instr.mapUpdate 74 (.map (some X.m)) (.string c) (gptr W.heap.size)).run Tryz.prog (W.alloc (.cells #[.slice none 0 0, .slice none 0 0] 94)) = .ok () (setBlock (W.alloc (.cells #[.slice none 0 0, .slice none 0 0] 94)) X.m o) ∧
      SetS w tv sv bx B0 { X with G := X.G ++ [newG c W.heap.size] } (setBlock (W.alloc (.cells #[.slice none 0 0, .slice none 0 0] 94)) X.m o) := by
  obtain ⟨W2, hW2⟩ : ∃ W2, W.alloc (.cells #[.slice none 0 0, .slice none 0 0] 94) = W2 := ⟨_, rfl⟩
  have hb2 : Below W.heap.size W W2 := by rw [← hW2]; exact ext_alloc (ext_refl _) _
  have hn : W2.heap[W.heap.size]? = some (.cells #[.slice none 0 0, .slice none 0 0] 94 (0, 0)) := by rw [← hW2]; exact World.alloc_heap_new W _
  have hz2 : W2.heap.size = W.heap.size + 1 := by rw [← hW2]; simp
  have h2 := h.ext hb2
  rw [hW2]
  obtain ⟨o, hr, hM, -⟩ := h2.g0.upd (keyStr Tryz.underlying9) Tryz.underlying74 c (gptr W.heap.size) trivial (fun _ _ => trivial)
  have hput : put X.grps c (gptr W.heap.size) = (X.G ++ [newG c W.heap.size]).map (fun g => (g.call, gptr g.b)) := by
    unfold put
    rw [if_neg, List.map_append]
    · rfl
    · intro hm
      obtain ⟨p, hp, e⟩ := List.mem_map.1 hm
      obtain ⟨g, hg, rfl⟩ := List.mem_map.1 hp
      exact hc (List.mem_map.2 ⟨g, hg, e⟩)
  rw [hput] at hM
  obtain ⟨m1, m2, m3, m4⟩ := h.mid
  have hk : ∀ k, k ≠ X.m → (setBlock W2 X.m o).heap[k]? = W2.heap[k]? := fun k hk => sb_other W2 o hk
  have own : ∀ {α : Type} {e : TypeId} {enc : α → List Value} {sz : Nat} {v : Value} {l : List α}, Own W2 B0 e enc sz v l → Own (setBlock W2 X.m o) B0 e enc sz v l := fun ho => ho.sb o m2
  have hlo := h.lo
  have hhi := h.hi
  refine ⟨o, hr, below_sb h2.E X.m o (by omega), h2.T.sb o (by omega), h2.S.sb o (by omega), h2.XB.sb o m4, hlo, ⟨m1, m2, m3, m4⟩, by rw [sb_size]; exact h2.hi, own h2.s0, fun r hr => own (h2.s1 r hr), fun r hr q hq => own (h2.s2 r hr q hq), hM, fun g hg => ?_, fun g hg q hq hne => ?_⟩
  · rcases List.mem_append.1 hg with hg | hg
    · have := h2.g1 g hg
      exact ⟨this.lo, (hk _ (by have := this.lo; omega)).trans this.b, own this.t, own this.r⟩
    · obtain rfl := List.mem_singleton.1 hg
      exact ⟨hhi, (hk _ (by show W.heap.size ≠ X.m; omega)).trans hn, Own.nil _ _ _ _ _, Own.nil _ _ _ _ _⟩
  · rcases List.mem_append.1 hg with hg | hg <;> rcases List.mem_append.1 hq with hq | hq
    · exact h.gd g hg q hq hne
    · obtain rfl := List.mem_singleton.1 hq
      have := (h.g1 g hg).lt
      exact ⟨by show g.b ≠ W.heap.size; omega, fun k _ e => by simp [newG, Value.ownBlock] at e, fun k _ e => by simp [newG, Value.ownBlock] at e⟩
    · obtain rfl := List.mem_singleton.1 hg
      have := (h.g1 q hq).lt
      exact ⟨by show W.heap.size ≠ q.b; omega, fun k e => by simp [newG, Value.ownBlock] at e, fun k e => by simp [newG, Value.ownBlock] at e⟩
    · obtain rfl := List.mem_singleton.1 hg
      obtain rfl := List.mem_singleton.1 hq
      exact absurd rfl hne
def updG (G : List Grp) (g' : Grp) : List Grp := G.map (fun h => if h.call = g'.call then g' else h)
theorem mem_updG {G : List Grp} {g' x : Grp} (h : x ∈ updG G g') : x = g' ∨ (x ∈ G ∧ x.call ≠ g'.call) := by
  obtain ⟨y, hy, rfl⟩ := List.mem_map.1 h
  split
  · exact .inl rfl
  · rename_i hne; exact .inr ⟨hy, hne⟩
/-- One group has changed. -/
theorem SetS.upd {ev : Value} {g g' : Grp} (h : SetS w tv sv bx B0 X W) (hg : g ∈ X.G) (hc : g'.call = g.call) (hgb : g'.b = g.b) (hf : Fix w W W' B0)
    (hk : ∀ k, k < W.heap.size → k ≠ g.b → ev.ownBlock ≠ some k → W'.heap[k]? = W.heap[k]?) (hev : ∀ k, ev.ownBlock = some k → B0 ≤ k ∧ ∃ cur e, W.heap[k]? = some (.cells cur e (0, 0)) ∧ (e = 3 ∨ e = 55)) (hB : GrpB W' B0 g')
    (ho : ∀ q ∈ X.G, q.call ≠ g.call → (∀ k, q.tv.ownBlock = some k → ev.ownBlock ≠ some k) ∧ (∀ k, q.rv.ownBlock = some k → ev.ownBlock ≠ some k))
    (hd : ∀ q ∈ X.G, q.call ≠ g.call → (∀ k, g'.tv.ownBlock = some k → q.tv.ownBlock ≠ some k) ∧ (∀ k, g'.rv.ownBlock = some k → q.rv.ownBlock ≠ some k)) :
    SetS w tv sv bx B0 { X with G := updG X.G g' } W' := by
  have hG := h.g1 g hg
  have hglo := hG.lo
  obtain ⟨m1, m2, m3, m4⟩ := h.mid
  have hlo := h.lo
  have low : ∀ k, k < B0 → W'.heap[k]? = W.heap[k]? := fun k hk' => hk k (by have := h.hi; omega) (by omega) (fun e => by have := (hev k e).1; omega)
  have own : ∀ {α : Type} {e : TypeId} {enc : α → List Value} {sz : Nat} {v : Value} {l : List α}, Own W B0 e enc sz v l → e ≠ 94 → e ≠ 3 → e ≠ 55 → Own W' B0 e enc sz v l := fun {α e enc sz v l} ho h94 h3 h55 => ho.block fun k e' => hk k (ho.lt k e').1 (fun q => by subst q; exact ho.neB hG.b h94 e') (fun q => by
    obtain ⟨_, cur, e2, h1, h2⟩ := hev k q
    have := ho.neB (b := k) (e2 := e2) (cs := cur) h1 (by rcases h2 with rfl | rfl <;> assumption)
    exact this e')
  have hgr : ({ X with G := updG X.G g' } : Scn).grps = X.grps := by
    show (updG X.G g').map (fun g => (g.call, gptr g.b)) = X.G.map (fun g => (g.call, gptr g.b))
    unfold updG
    rw [List.map_map]
    refine List.map_congr_left fun q hq => ?_
    simp only [Function.comp]
    split
    · rename_i e
      have hqg : q.b = g.b := by
        have hn := h.g0.nd_
        have h1 : asc X.grps q.call = some (gptr q.b) := asc_some (p := (q.call, gptr q.b)) hn (List.mem_map.2 ⟨q, hq, rfl⟩)
        have h2 : asc X.grps g.call = some (gptr g.b) := asc_some (p := (g.call, gptr g.b)) hn (List.mem_map.2 ⟨g, hg, rfl⟩)
        rw [show q.call = g.call from e.trans hc, h2] at h1
        simp at h1; exact h1.symm
      rw [hgb, ← hqg, e]
    · rfl
  have oth : ∀ q ∈ X.G, q.call ≠ g.call → GrpB W' B0 q := fun q hq hne => by
    have h1 := h.g1 q hq
    obtain ⟨h2, h3⟩ := ho q hq hne
    refine h1.keep (hk _ h1.lt (h.gd q hq g hg hne).1 (fun e => ?_)) (fun k e => hk k (h1.t.lt k e).1 (fun e' => ?_) (h2 k e)) (fun k e => hk k (h1.r.lt k e).1 (fun e' => ?_) (h3 k e))
    · obtain ⟨_, cur, e2, h4, h5⟩ := hev _ e
      rw [h1.b] at h4; cases h4; rcases h5 with h5 | h5 <;> cases h5
    · subst e'; exact h1.t.neB hG.b (by decide) e
    · subst e'; exact h1.r.neB hG.b (by decide) e
  refine ⟨h.below hf (fun k hk' => low k (by omega)), h.T.keepB (low _ (by omega)), h.S.keepB (low _ (by omega)), h.XB.keepB (low _ m1), hlo, ⟨m1, m2, m3, m4⟩, Nat.le_trans h.hi hf.size, own h.s0 (by decide) (by decide) (by decide), fun r hr => own (h.s1 r hr) (by decide) (by decide) (by decide), fun r hr q hq => own (h.s2 r hr q hq) (by decide) (by decide) (by decide), by rw [hgr]; exact h.g0.of_block (low _ m2), fun q hq => ?_, fun q hq p hp hne => ?_⟩
  · rcases mem_updG hq with rfl | ⟨hq, hne⟩
    · exact hB
    · exact oth q hq (by rw [← hc]; exact hne)
  · rcases mem_updG hq with e1 | ⟨hq', hqn⟩ <;> rcases mem_updG hp with e2 | ⟨hp', hpn⟩
    · exact absurd (by rw [e1, e2]) hne
    · rw [hc] at hpn
      subst e1
      refine ⟨by rw [hgb]; exact (h.gd g hg p hp' (fun e => hpn e.symm)).1, (hd p hp' hpn).1, (hd p hp' hpn).2⟩
    · rw [hc] at hqn
      subst e2
      exact ⟨by rw [hgb]; exact (h.gd q hq' g hg hqn).1, fun k e e' => (hd q hq' hqn).1 k e' e, fun k e e' => (hd q hq' hqn).2 k e' e⟩
    · exact h.gd q hq' p hp' hne
end Go.Proofs.YtjiojpoiocdnmaaGreat
