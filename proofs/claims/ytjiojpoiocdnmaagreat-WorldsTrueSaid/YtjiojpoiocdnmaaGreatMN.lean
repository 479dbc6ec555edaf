/- What the loops of Possible keep: rows of Booleans, iterators, marks. No program in sight. -/
import Derived.Test.YtjiojpoiocdnmaaGreatU29
set_option linter.unusedSimpArgs false
set_option linter.unusedVariables false
namespace Go.Proofs.YtjiojpoiocdnmaaGreat
open Go.RowKit Go.ChangeMaps
theorem GMap.nocell {κ : Type} [DecidableEq κ] {enc : κ → Value} {W : World} {b : Nat} {l : List (κ × Value)} (h : GMap enc W b l) : ∃ o, W.heap[b]? = some o ∧ o.isCells = false := by
  obtain ⟨es, c, h1, _⟩ := h
  exact ⟨_, h1, rfl⟩
theorem KB.nocell {W W' : World} (hk : KB W W') {b : Nat} (h : ∃ o, W.heap[b]? = some o ∧ o.isCells = false) : W'.heap[b]? = W.heap[b]? := by
  obtain ⟨o, h1, h2⟩ := h
  exact hk.2 b (Array.getElem?_eq_some_iff.1 h1).1 (fun c f e => by rw [h1] at e; cases e; cases h2)
theorem GIter.kb {κ : Type} [DecidableEq κ] {enc : κ → Value} {W W' : World} {r b : Nat} {l left : List (κ × Value)} (h : GIter enc W r b l left) (hk : KB W W') : GIter enc W' r b l left :=
  h.of_block (hk.nocell h.map.nocell) (hk.nocell h.obj)
theorem EntOk.kb {W W' : World} {e : Ent} (h : EntOk W e) (hk : KB W W') : EntOk W' e := by
  refine ⟨?_, h.m.kb hk, h.v⟩
  obtain ⟨cs, hc⟩ := h.g
  exact ⟨cs, (hk.2 _ (Array.getElem?_eq_some_iff.1 hc).1 (fun c f e => by rw [hc] at e; cases e)).trans hc⟩
theorem Dfs.ext {B : Nat} {Ds : List Nat} {W W' : World} (h : Dfs B Ds W) (hb : Below W.heap.size W W') : Dfs B Ds W' := h.kb (KB.below hb)
theorem Dfs.step {κ : Type} [DecidableEq κ] {enc : κ → Value} {B : Nat} {Ds : List Nat} {W W5 : World} {r b : Nat} {l left : List (κ × Value)} (h : Dfs B Ds W) (hi : GIter enc W r b l left) (hs : Stepd W W5 r) : Dfs B Ds W5 :=
  ⟨h.nd, fun D hD => by
    obtain ⟨h1, h2, h3⟩ := h.ok D hD
    have hne : D ≠ r := by
      rintro rfl
      obtain ⟨_, es, c, s, se, c0, q, _⟩ := hi
      rw [h3] at q; cases q
    exact ⟨h1, by rw [hs.size]; exact h2, (hs.keep D hne).trans h3⟩⟩
/-- The rows of p, and what holds of them; all of it lies below N. -/
structure RS (N : Nat) (W : World) (base : Nat) (pv : Value) (X : Scn) (rows : List BR) (T : Nat → Nat → Prop) : Prop where
  r : Rows W base pv rows
  s : rows.map (fun r => r.l.length) = X.st.map (fun r => r.l.length)
  h : Holds rows T
  lo : (∀ k, pv.ownBlock = some k → k < N) ∧ ∀ x ∈ rows, x.b < N
section
variable {N base : Nat} {W W' : World} {pv : Value} {X : Scn} {rows : List BR} {T T' : Nat → Nat → Prop}
theorem RS.low (h : RS N W base pv X rows T) (hb : ∀ k, k < N → W'.heap[k]? = W.heap[k]?) : RS N W' base pv X rows T :=
  ⟨⟨h.r.o.block (fun k e => hb k (h.lo.1 k e)), fun x hx => ⟨(h.r.r x hx).1, (hb _ (h.lo.2 x hx)).trans (h.r.r x hx).2⟩, h.r.nd⟩, h.s, h.h, h.lo⟩
theorem RS.below {M : Nat} (h : RS N W base pv X rows T) (hb : Below M W W') (hn : N ≤ M) : RS N W' base pv X rows T := h.low (fun k hk => hb.block k (by omega))
theorem RS.congr (h : RS N W base pv X rows T) (he : ∀ n k, T n k ↔ T' n k) : RS N W base pv X rows T' := ⟨h.r, h.s, h.h.congr he, h.lo⟩
theorem RS.mono {M : Nat} (h : RS N W base pv X rows T) (hn : N ≤ M) : RS M W base pv X rows T := ⟨h.r, h.s, h.h, fun k e => Nat.lt_of_lt_of_le (h.lo.1 k e) hn, fun x hx => Nat.lt_of_lt_of_le (h.lo.2 x hx) hn⟩
theorem RS.len (h : RS N W base pv X rows T) : rows.length = X.st.length := by simpa using congrArg List.length h.s
theorem RS.row (h : RS N W base pv X rows T) {n : Nat} (hn : n < X.st.length) : ∃ r, rows[n]? = some r ∧ r.l.length = rowN X n := by
  have hl : n < rows.length := by rw [h.len]; exact hn
  refine ⟨rows[n], by simp [hl], ?_⟩
  have := congrArg (fun l : List Nat => l[n]?) h.s
  simp only [List.getElem?_map, List.getElem?_eq_getElem hl, List.getElem?_eq_getElem hn, Option.map_some, Option.some.injEq] at this
  simp [rowN, List.getElem?_eq_getElem hn, this]
theorem setR_bl (rows : List BR) (n k : Nat) : (setR rows n k).map (fun r => r.l.length) = rows.map (fun r => r.l.length) ∧ (setR rows n k).map (·.b) = rows.map (·.b) := by
  have h := setR_len rows n k
  have h1 := congrArg (List.map (fun p : Nat × Nat => p.2)) h
  have h2 := congrArg (List.map (fun p : Nat × Nat => p.1)) h
  simp only [List.map_map] at h1 h2
  exact ⟨h1, h2⟩
theorem RS.set (h : RS N W base pv X rows T) {n k : Nat} {r : BR} (hr : rows[n]? = some r) : RS N (W.setCell ⟨r.b, k, none⟩ (.bool true)) base pv X (setR rows n k) (fun n' k' => T n' k' ∨ (n' = n ∧ k' = k)) :=
  ⟨h.r.set hr, (setR_bl rows n k).1.trans h.s, h.h.set hr, h.lo.1, fun x hx => by
    have hm : x.b ∈ (setR rows n k).map (·.b) := List.mem_map.2 ⟨x, hx, rfl⟩
    rw [(setR_bl rows n k).2] at hm
    obtain ⟨y, hy, e⟩ := List.mem_map.1 hm
    rw [← e]; exact h.lo.2 y hy⟩
end
theorem KF.set {B : Nat} {W : World} {b k : Nat} {v : Value} {cur : Array Value} {e : TypeId} {fz : Nat × Nat} (h : W.heap[b]? = some (Obj.cells cur e fz)) : KeepsFrom B W (W.setCell ⟨b, k, none⟩ v) :=
  ⟨by simp [World.setCell], fun i o _ hi ho => (Below.heap_setCell W _ _ i (fun q => by
    have q : i = b := q
    subst q; rw [h] at hi; cases hi; cases ho)).trans hi⟩
theorem KF.step {κ : Type} [DecidableEq κ] {enc : κ → Value} {B : Nat} {W0 W W5 : World} {r : Nat} (h : KeepsFrom B W0 W) (hs : Stepd W W5 r) (hr : W0.heap.size ≤ r) : KeepsFrom B W0 W5 :=
  ⟨by rw [hs.size]; exact h.size, fun i o hB hi ho => (hs.keep i (fun q => by have := (Array.getElem?_eq_some_iff.1 hi).1; omega)).trans (h.same i o hB hi ho)⟩
/-- One more choice of a group: a hit, or none. -/
theorem hit_miss {X : Scn} {shs : List Int} {g : Grp} {T : Nat → Nat → Prop} {pre : List (List Nat)} {x : List Nat} {z : V4} {K : List V4} (hz : wrongV X.stays g.ts g.rs (nums x) shs = z)
    (hK : ∀ v, v ∈ K ↔ SumF X.lost X.bud (VecP X shs) ((keysG X).filter (fun b => !decide (b = g.b))) v) (hn : ∀ a ∈ K, (z.plus a).leB X.bud = false) (n k : Nat) :
    (T n k ∨ ∃ y ∈ pre, HitAt X shs g y ∧ AtP g y n k) ↔ (T n k ∨ ∃ y ∈ pre ++ [x], HitAt X shs g y ∧ AtP g y n k) := by
  constructor
  · rintro (h | ⟨y, h1, h2⟩)
    · exact .inl h
    · exact .inr ⟨y, by simp [h1], h2⟩
  · rintro (h | ⟨y, h1, h2, h3⟩)
    · exact .inl h
    · rcases List.mem_append.1 h1 with q | q
      · exact .inr ⟨y, q, h2, h3⟩
      · rw [List.mem_singleton] at q
        subst q
        obtain ⟨a, h4, h5⟩ := h2
        rw [hz, hn a ((hK a).2 h4)] at h5
        cases h5
theorem hit_add {X : Scn} {shs : List Int} {g : Grp} {T : Nat → Nat → Prop} {pre : List (List Nat)} {x : List Nat} {z a : V4} {K : List V4} (hz : wrongV X.stays g.ts g.rs (nums x) shs = z)
    (hK : ∀ v, v ∈ K ↔ SumF X.lost X.bud (VecP X shs) ((keysG X).filter (fun b => !decide (b = g.b))) v) (ha : a ∈ K) (hle : (z.plus a).leB X.bud = true) (n k : Nat) :
    ((T n k ∨ ∃ y ∈ pre, HitAt X shs g y ∧ AtP g y n k) ∨ AtP g x n k) ↔ (T n k ∨ ∃ y ∈ pre ++ [x], HitAt X shs g y ∧ AtP g y n k) := by
  constructor
  · rintro ((h | ⟨y, h1, h2⟩) | h)
    · exact .inl h
    · exact .inr ⟨y, by simp [h1], h2⟩
    · exact .inr ⟨x, by simp, ⟨a, (hK a).1 ha, by rw [hz]; exact hle⟩, h⟩
  · rintro (h | ⟨y, h1, h2, h3⟩)
    · exact .inl (.inl h)
    · rcases List.mem_append.1 h1 with q | q
      · exact .inl (.inr ⟨y, q, h2, h3⟩)
      · rw [List.mem_singleton] at q
        subst q
        exact .inr h3
/-- The first k tracks of a group are set. -/
def AtK (g : Grp) (x : List Nat) (m n k : Nat) : Prop := ∃ i : Nat, i < m ∧ g.ts[i]? = some n ∧ x[i]? = some k
theorem atK_zero (g : Grp) (x : List Nat) (n k : Nat) : ¬ AtK g x 0 n k := by rintro ⟨i, h, _⟩; omega
theorem atK_succ {g : Grp} {x : List Nat} {m n0 k0 : Nat} (h1 : g.ts[m]? = some n0) (h2 : x[m]? = some k0) (n k : Nat) : AtK g x (m + 1) n k ↔ (AtK g x m n k ∨ (n = n0 ∧ k = k0)) := by
  constructor
  · rintro ⟨i, hi, a, b⟩
    by_cases e : i = m
    · subst e; rw [h1] at a; rw [h2] at b; cases a; cases b; exact .inr ⟨rfl, rfl⟩
    · exact .inl ⟨i, by omega, a, b⟩
  · rintro (⟨i, hi, a, b⟩ | ⟨rfl, rfl⟩)
    · exact ⟨i, by omega, a, b⟩
    · exact ⟨m, by omega, h1, h2⟩
theorem atK_all {g : Grp} {x : List Nat} {m : Nat} (hm : g.ts.length ≤ m) (n k : Nat) : AtK g x m n k ↔ AtP g x n k := by
  constructor
  · rintro ⟨i, _, a, b⟩; exact ⟨i, a, b⟩
  · rintro ⟨i, a, b⟩; exact ⟨i, by have := (List.getElem?_eq_some_iff.1 a).1; omega, a, b⟩
/-- One more group. -/
theorem grp_step {X : Scn} {shs : List Int} {T : Nat → Nat → Prop} {g : Grp} (hg : g ∈ X.G) (hnd : ∀ g ∈ X.G, ∀ g' ∈ X.G, g.call = g'.call → g = g') {left left' : List ByteArray} (hl : ∀ c, c ∈ left' ↔ c ∈ left ∧ c ≠ g.call) (hgl : g.call ∈ left) (n k : Nat) :
    ((T n k ∨ ∃ q ∈ X.G, q.call ∉ left ∧ GHit X shs q n k) ∨ ∃ x ∈ comb (grpM X g.ts), HitAt X shs g x ∧ AtP g x n k) ↔ (T n k ∨ ∃ q ∈ X.G, q.call ∉ left' ∧ GHit X shs q n k) := by
  constructor
  · rintro ((h | ⟨q, h1, h2, h3⟩) | h)
    · exact .inl h
    · exact .inr ⟨q, h1, fun e => h2 ((hl _).1 e).1, h3⟩
    · exact .inr ⟨g, hg, fun e => ((hl _).1 e).2 rfl, h⟩
  · rintro (h | ⟨q, h1, h2, h3⟩)
    · exact .inl (.inl h)
    · by_cases e : q.call = g.call
      · obtain rfl := hnd q h1 g hg e
        exact .inr h3
      · exact .inl (.inr ⟨q, h1, fun h => h2 ((hl _).2 ⟨h, e⟩), h3⟩)
theorem grp_all {X : Scn} {shs : List Int} {T : Nat → Nat → Prop} (n k : Nat) : (T n k ∨ ∃ q ∈ X.G, q.call ∉ ([] : List ByteArray) ∧ GHit X shs q n k) ↔ (T n k ∨ SHit X shs n k) := by
  unfold SHit
  simp
theorem grp_none {X : Scn} {shs : List Int} {T : Nat → Nat → Prop} {left : List ByteArray} (hl : ∀ g ∈ X.G, g.call ∈ left) (n k : Nat) : T n k ↔ (T n k ∨ ∃ q ∈ X.G, q.call ∉ left ∧ GHit X shs q n k) :=
  ⟨.inl, fun h => h.elim id (fun ⟨q, h1, h2, _⟩ => absurd (hl q h1) h2)⟩
/-- What does not change in the rounds of one vector of shifts. -/
structure L5 (W : World) (X : Scn) (xb hb pb m : Nat) (pv : Value) (h : SliceOf Int) (es : List Ent) : Prop where
  x : SceneOk W X
  xb : W.heap[xb]? = some (Obj.cells X.cells.toArray 78 (0, 0))
  hb : W.heap[hb]? = some (Obj.cells #[.slice h.A h.l.length h.c] 39 (0, 0))
  pb : W.heap[pb]? = some (Obj.cells #[pv] 34 (0, 0))
  m : GMap gptr W m (entL es)
  e : ∀ e ∈ es, EntOk W e
theorem L5.kb {W W' : World} {X : Scn} {xb hb pb m : Nat} {pv : Value} {h : SliceOf Int} {es : List Ent} (q : L5 W X xb hb pb m pv h es) (hk : KB W W') : L5 W' X xb hb pb m pv h es := by
  have C : ∀ {b : Nat} {cs : Array Value} {t : TypeId}, W.heap[b]? = some (Obj.cells cs t (0, 0)) → t ≠ 4 → W'.heap[b]? = some (Obj.cells cs t (0, 0)) := fun h1 h2 =>
    (hk.2 _ (Array.getElem?_eq_some_iff.1 h1).1 (fun c f e => by rw [h1] at e; cases e; exact h2 rfl)).trans h1
  exact ⟨q.x.kb hk, C q.xb (by decide), C q.hb (by decide), C q.pb (by decide), q.m.kb hk, fun e he => (q.e e he).kb hk⟩
theorem L5.ext {W W' : World} {X : Scn} {xb hb pb m : Nat} {pv : Value} {h : SliceOf Int} {es : List Ent} (q : L5 W X xb hb pb m pv h es) (hk : Below W.heap.size W W') : L5 W' X xb hb pb m pv h es := q.kb (KB.below hk)
/-- The same without the world. -/
structure L5P (X : Scn) (h : SliceOf Int) (es : List Ent) : Prop where
  n : SceneN X h.l.length
  hm : h ∈ X.sh
  nd : (es.map (·.b)).Nodup
  p : (es.map (·.b)).Perm (keysG X)
  v : ∀ e ∈ es, ∃ g ∈ X.G, g.b = e.b ∧ VSpec X g h.l (comb (grpM X g.ts)) e.vl
  inj : ∀ g ∈ X.G, ∀ g' ∈ X.G, g.b = g'.b → g = g'
  ndc : ∀ g ∈ X.G, ∀ g' ∈ X.G, g.call = g'.call → g = g'
theorem L5P.rest {X : Scn} {h : SliceOf Int} {es : List Ent} (q : L5P X h es) (g : Grp) {done : List Nat} (hp : done.Perm ((es.map (·.b)).filter (fun b => !decide (b = g.b)))) (v : V4) :
    Sums X.lost X.bud (vecs es) done v ↔ SumF X.lost X.bud (VecP X h.l) ((keysG X).filter (fun b => !decide (b = g.b))) v :=
  sums_vecP q.nd q.v q.inj (fun b hb => (List.mem_filter.1 (hp.mem_iff.1 hb)).1) (hp.trans (q.p.filter _)) v
theorem L5P.all {X : Scn} {h : SliceOf Int} {es : List Ent} (q : L5P X h es) {done : List Nat} (hp : done.Perm ((es.map (·.b)).filter (fun _ => !false))) (v : V4) :
    Sums X.lost X.bud (vecs es) done v ↔ SumF X.lost X.bud (VecP X h.l) (keysG X) v := by
  have hp' : done.Perm (es.map (·.b)) := by rwa [List.filter_eq_self.2 (by simp)] at hp
  exact sums_vecP q.nd q.v q.inj (fun b hb => hp'.mem_iff.1 hb) (hp'.trans q.p) v
theorem KB.cell {W W' : World} (hk : KB W W') {b : Nat} {cs : Array Value} {t : TypeId} {fz : Nat × Nat} (h1 : W.heap[b]? = some (Obj.cells cs t fz)) (h2 : t ≠ 4) : W'.heap[b]? = some (Obj.cells cs t fz) :=
  (hk.2 _ (Array.getElem?_eq_some_iff.1 h1).1 (fun c f e => by rw [h1] at e; cases e; exact h2 rfl)).trans h1
theorem Below.cellsB {W W' : World} (hb : Below W.heap.size W W') {b : Nat} {o : Obj} (h1 : W.heap[b]? = some o) : W'.heap[b]? = some o := (hb.block _ (Array.getElem?_eq_some_iff.1 h1).1).trans h1
theorem Blk.of {W : World} {b : Nat} {cs : List Value} {t : TypeId} (h : W.heap[b]? = some (Obj.cells cs.toArray t (0, 0))) : Blk W b cs :=
  ⟨(Array.getElem?_eq_some_iff.1 h).1, fun j v hj => cellAt h j (by simpa using hj), fun j => by simp [World.frozen?, h]⟩
theorem sumF_in {lost bud : V4} {F : Nat → V4 → Prop} (hF : ∀ b v, F b v → v.Pos) (hl : lost.Pos) {N : Int} (hb : bud.In N) : ∀ (l : List Nat) (s : V4), SumF lost bud F l s → s.Pos ∧ s.In N
  | [], s, h => by
    have hp : s.Pos := by rw [h.1]; exact hl
    refine ⟨hp, ?_⟩
    have := h.2
    unfold V4.leB at this
    simp only [Bool.and_eq_true, decide_eq_true_eq] at this
    unfold V4.Pos at hp
    unfold V4.In at *
    omega
  | b :: l, s, h => by
    obtain ⟨a, h1, v, h2, rfl, h3⟩ := h
    obtain ⟨p1, _⟩ := sumF_in hF hl hb l a h1
    have p2 := hF b v h2
    have hp : (a.plus v).Pos := by unfold V4.Pos V4.plus at *; simp only; omega
    refine ⟨hp, ?_⟩
    unfold V4.leB at h3
    simp only [Bool.and_eq_true, decide_eq_true_eq] at h3
    unfold V4.Pos at hp
    unfold V4.In at *
    omega
end Go.Proofs.YtjiojpoiocdnmaaGreat
