/- What Possible keeps: the rows of Booleans, the marks, the scene. -/
import Derived.Test.YtjiojpoiocdnmaaGreatU28
import Derived.Test.YtjiojpoiocdnmaaGreatU10
set_option linter.unusedSimpArgs false
set_option linter.unusedVariables false
namespace Go.Proofs.YtjiojpoiocdnmaaGreat
open Go.RowKit Go.ChangeMaps
/-- What changes blocks of Possible's own types and new blocks alone. -/
def KT (W W' : World) : Prop := W.heap.size ≤ W'.heap.size ∧ ∀ k, k < W.heap.size → (∀ cur e fz, W.heap[k]? = some (Obj.cells cur e fz) → e ≠ 4 ∧ e ≠ 34 ∧ e ≠ 50) → W'.heap[k]? = W.heap[k]?
theorem KT.refl (W : World) : KT W W := ⟨Nat.le_refl _, fun _ _ _ => rfl⟩
theorem KT.t {X Y Z : World} (h : KT X Y) (k : KT Y Z) : KT X Z := ⟨Nat.le_trans h.1 k.1, fun i hi hn => by
  have e := h.2 i hi hn
  exact (k.2 i (Nat.lt_of_lt_of_le hi h.1) (fun cur t fz q => hn cur t fz (e ▸ q))).trans e⟩
theorem KT.below {W W' : World} (h : Below W.heap.size W W') : KT W W' := ⟨h.size, fun k hk _ => h.block k hk⟩
theorem KB.kt {W W' : World} (h : KB W W') : KT W W' := ⟨h.1, fun k hk hn => h.2 k hk (fun cur fz e => (hn cur 4 fz e).1 rfl)⟩
theorem KT.grown {W W' : World} {row : Option Nat} (hg : W.grownBy W' row) (hr : ∀ r, row = some r → ∃ cur e fz, W.heap[r]? = some (Obj.cells cur e fz) ∧ (e = 4 ∨ e = 34 ∨ e = 50)) : KT W W' :=
  ⟨hg.size, fun k hk hn => hg.block k hk (fun e => by
    obtain ⟨cur, t, fz, h1, h2⟩ := hr k e.symm
    obtain ⟨n1, n2, n3⟩ := hn cur t fz h1
    rcases h2 with q | q | q
    · exact n1 q
    · exact n2 q
    · exact n3 q)⟩
theorem KT.set {W : World} {a : Addr} {v : Value} {cur : Array Value} {e : TypeId} {fz : Nat × Nat} (h : W.heap[a.block]? = some (Obj.cells cur e fz)) (he : e = 4 ∨ e = 34 ∨ e = 50) : KT W (W.setCell a v) :=
  KT.grown (row := some a.block) ⟨rfl, rfl, rfl, by simp [World.setCell], fun k _ hk => Below.heap_setCell W a v k (fun q => hk (by rw [q]))⟩ (fun r q => by cases q; exact ⟨cur, e, fz, h, he⟩)
theorem KB.set {W : World} {a : Addr} {v : Value} {cur : Array Value} {fz : Nat × Nat} (h : W.heap[a.block]? = some (Obj.cells cur 4 fz)) : KB W (W.setCell a v) :=
  ⟨by simp [World.setCell], fun k _ hn => Below.heap_setCell W a v k (fun q => hn cur fz (q ▸ h))⟩
theorem KB.sb {W : World} {b B : Nat} {W0 : World} (o : Obj) (h : KB W0 W) (hB : W0.heap.size ≤ b) : KB W0 (setBlock W b o) :=
  ⟨by rw [sb_size]; exact h.1, fun k hk hn => (sb_other W o (by omega)).trans (h.2 k hk hn)⟩
theorem KB.step {W0 W W5 : World} {r : Nat} (h : KB W0 W) (hs : Stepd W W5 r) (hr : W0.heap.size ≤ r) : KB W0 W5 :=
  ⟨by rw [hs.size]; exact h.1, fun k hk hn => (hs.keep k (by omega)).trans (h.2 k hk hn)⟩
section
variable {W W' : World}
theorem Own.kt {α : Type} {base : Nat} {e : TypeId} {enc : α → List Value} {sz : Nat} {v : Value} {l : List α} (h : Own W base e enc sz v l) (hk : KT W W') (he : e ≠ 4 ∧ e ≠ 34 ∧ e ≠ 50) : Own W' base e enc sz v l := by
  rcases h.2 with ⟨hv, h0⟩ | ⟨g, cap, cur, hv, hbb, hg, r⟩
  · exact ⟨h.1, .inl ⟨hv, h0⟩⟩
  · exact ⟨h.1, .inr ⟨g, cap, cur, hv, hbb, (hk.2 g (Array.getElem?_eq_some_iff.1 hg).1 (fun c t f q => by rw [hg] at q; cases q; exact he)).trans hg, r⟩⟩
theorem GMap.kt {κ : Type} [DecidableEq κ] {enc : κ → Value} {b : Nat} {l : List (κ × Value)} (h : GMap enc W b l) (hk : KT W W') : GMap enc W' b l := by
  obtain ⟨es, c, h1, h2⟩ := h
  exact ⟨es, c, (hk.2 b (Array.getElem?_eq_some_iff.1 h1).1 (fun cur e fz q => by rw [h1] at q; cases q)).trans h1, h2⟩
theorem GrpOk.kt {g : Grp} (h : GrpOk W g) (hk : KT W W') : GrpOk W' g :=
  ⟨(hk.2 g.b (Array.getElem?_eq_some_iff.1 h.b).1 (fun c e f q => by rw [h.b] at q; cases q; decide)).trans h.b, h.t.kt hk (by decide), h.r.kt hk (by decide)⟩
theorem SceneOk.kt {X : Scn} (h : SceneOk W X) (hk : KT W W') : SceneOk W' X :=
  ⟨h.s0.kt hk (by decide), fun r hr => (h.s1 r hr).kt hk (by decide), fun r hr q hq => (h.s2 r hr q hq).kt hk (by decide), h.g0.kt hk, fun g hg => (h.g1 g hg).kt hk, h.h0.kt hk (by decide), fun r hr => (h.h1 r hr).kt hk (by decide)⟩
end
/-- A row of Booleans in a block of its own. -/
structure BR where
  b : Nat
  l : List Bool
abbrev BR.v (r : BR) : Value := .slice (some ⟨r.b, 0, none⟩) r.l.length r.l.length
def BR.enc (r : BR) : List Value := [r.v]
def BR.ok (W : World) (r : BR) : Prop := W.heap[r.b]? = some (Obj.cells (r.l.map Value.bool).toArray 4 (0, 0))
theorem BR.lt {W : World} {r : BR} (h : r.ok W) : r.b < W.heap.size := (Array.getElem?_eq_some_iff.1 h).1
theorem BR.cell {W : World} {r : BR} (h : r.ok W) {k : Nat} {x : Bool} (hk : r.l[k]? = some x) : W.cell? ⟨r.b, k, none⟩ = some (.bool x) := cellAt h k (by simp [hk])
theorem BR.frozen {W : World} {r : BR} (h : r.ok W) (k : Nat) : W.frozen? ⟨r.b, k, none⟩ = false := by
  unfold BR.ok at h
  simp [World.frozen?, h]
/-- The rows of p. -/
structure Rows (W : World) (base : Nat) (v : Value) (rows : List BR) : Prop where
  o : Own W base 50 BR.enc 1 v rows
  r : ∀ x ∈ rows, base ≤ x.b ∧ x.ok W
  nd : (rows.map (·.b)).Nodup
theorem Rows.ext {W W' : World} {base : Nat} {v : Value} {rows : List BR} (h : Rows W base v rows) (hb : Below W.heap.size W W') : Rows W' base v rows :=
  ⟨h.o.ext hb, fun x hx => ⟨(h.r x hx).1, (hb.block _ (BR.lt (h.r x hx).2)).trans (h.r x hx).2⟩, h.nd⟩
/-- One cell of a row is set. -/
def setR (rows : List BR) (n k : Nat) : List BR := match rows[n]? with
  | some r => rows.set n ⟨r.b, r.l.set k true⟩
  | none => rows
theorem BR.set {W : World} {r : BR} (h : r.ok W) (k : Nat) : BR.ok (W.setCell ⟨r.b, k, none⟩ (.bool true)) ⟨r.b, r.l.set k true⟩ := by
  have := heap_setCell_same W r.b k (r.l.map Value.bool).toArray 4 (.bool true) h
  show (W.setCell ⟨r.b, k, none⟩ (.bool true)).heap[r.b]? = some _
  rw [this, List.setIfInBounds_toArray, List.map_set]
theorem Rows.set {W : World} {base : Nat} {v : Value} {rows : List BR} (h : Rows W base v rows) {n k : Nat} {r : BR} (hr : rows[n]? = some r) : Rows (W.setCell ⟨r.b, k, none⟩ (.bool true)) base v (setR rows n k) := by
  have hmem := List.mem_of_getElem? hr
  have hlt := (List.getElem?_eq_some_iff.1 hr).1
  have hne : v.ownBlock ≠ some r.b := h.o.neB (h.r r hmem).2 (by decide)
  have hrow : ∀ (b : Nat), b ≠ r.b → (W.setCell ⟨r.b, k, none⟩ (.bool true)).heap[b]? = W.heap[b]? := fun b hb => Below.heap_setCell W _ _ b hb
  unfold setR
  rw [hr]
  refine ⟨?_, ?_, ?_⟩
  · have h1 := h.o.block (w' := W.setCell ⟨r.b, k, none⟩ (.bool true)) (fun b hb => hrow b (fun e => hne (e ▸ hb)))
    have e1 : (rows.set n ⟨r.b, r.l.set k true⟩).map BR.enc = rows.map BR.enc := by
      rw [List.map_set]
      apply List.ext_getElem?
      intro i
      by_cases e : i = n
      · subst e; rw [List.getElem?_set_self (by simpa using hlt), List.getElem?_map, hr]; simp [BR.enc, BR.v]
      · rw [List.getElem?_set_ne (Ne.symm e)]
    unfold Own at h1 ⊢
    rw [List.length_set, List.flatMap_def, e1, ← List.flatMap_def]
    exact h1
  · intro x hx
    rcases List.mem_or_eq_of_mem_set hx with h1 | rfl
    · by_cases e : x.b = r.b
      · obtain ⟨i, hi, hxe⟩ := List.getElem_of_mem hx
        by_cases ei : i = n
        · subst ei; rw [List.getElem_set_self] at hxe; subst hxe; exact ⟨(h.r r hmem).1, BR.set (h.r r hmem).2 k⟩
        · rw [List.getElem_set_ne (Ne.symm ei)] at hxe
          have hi' : i < rows.length := by simpa using hi
          exact absurd (nodup_at h.nd (i := i) (j := n) (a := r.b) (by simp [hi', hxe, e]) (by simp [hr])) ei
      · exact ⟨(h.r x h1).1, (hrow _ e).trans (h.r x h1).2⟩
    · exact ⟨(h.r r hmem).1, BR.set (h.r r hmem).2 k⟩
  · have : (rows.set n ⟨r.b, r.l.set k true⟩).map (·.b) = rows.map (·.b) := by
      rw [List.map_set]
      apply List.ext_getElem?
      intro i
      by_cases e : i = n
      · subst e; rw [List.getElem?_set_self (by simpa using hlt), List.getElem?_map, hr]; rfl
      · rw [List.getElem?_set_ne (Ne.symm e)]
    rw [this]; exact h.nd
/-- The cells that are set are those of T. -/
def Holds (rows : List BR) (T : Nat → Nat → Prop) : Prop := ∀ (n : Nat) (r : BR) (k : Nat) (x : Bool), rows[n]? = some r → r.l[k]? = some x → (x = true ↔ T n k)
theorem Holds.set {rows : List BR} {T : Nat → Nat → Prop} (h : Holds rows T) {n k : Nat} {r : BR} (hr : rows[n]? = some r) : Holds (setR rows n k) (fun n' k' => T n' k' ∨ (n' = n ∧ k' = k)) := by
  have hlt := (List.getElem?_eq_some_iff.1 hr).1
  intro n' r' k' x h1 h2
  unfold setR at h1
  rw [hr] at h1
  by_cases e : n' = n
  · subst e
    simp only at h1
    rw [List.getElem?_set_self hlt] at h1
    cases h1
    simp only at h2
    by_cases ek : k' = k
    · subst ek
      have hk : k' < r.l.length := by have := (List.getElem?_eq_some_iff.1 h2).1; simpa using this
      rw [List.getElem?_set_self hk] at h2
      cases h2; simp
    · rw [List.getElem?_set_ne (Ne.symm ek)] at h2
      rw [h n' r k' x hr h2]; simp [ek]
  · simp only at h1
    rw [List.getElem?_set_ne (Ne.symm e)] at h1
    rw [h n' r' k' x h1 h2]; simp [e]
theorem Holds.congr {rows : List BR} {T T' : Nat → Nat → Prop} (h : Holds rows T) (he : ∀ n k, T n k ↔ T' n k) : Holds rows T' := fun n r k x h1 h2 => (h n r k x h1 h2).trans (he n k)
theorem setR_len (rows : List BR) (n k : Nat) : (setR rows n k).map (fun r => (r.b, r.l.length)) = rows.map (fun r => (r.b, r.l.length)) := by
  unfold setR
  split
  · rename_i r hr
    have hlt := (List.getElem?_eq_some_iff.1 hr).1
    rw [List.map_set]
    apply List.ext_getElem?
    intro i
    by_cases e : i = n
    · subst e; rw [List.getElem?_set_self (by simpa using hlt), List.getElem?_map, hr]; simp
    · rw [List.getElem?_set_ne (Ne.symm e)]
  · rfl
end Go.Proofs.YtjiojpoiocdnmaaGreat
/- Sums of the groups' counts, in whatever order. No program in sight. -/
set_option linter.unusedSimpArgs false
set_option linter.unusedVariables false
namespace Go.Proofs.YtjiojpoiocdnmaaGreat
open Go.RowKit
/-- The sums within the budget at every step. -/
def SumF (lost bud : V4) (F : Nat → V4 → Prop) : List Nat → V4 → Prop
  | [], s => s = lost ∧ s.leB bud = true
  | b :: done, s => ∃ a, SumF lost bud F done a ∧ ∃ v, F b v ∧ a.plus v = s ∧ s.leB bud = true
/-- All sums. -/
def SumN (lost : V4) (F : Nat → V4 → Prop) : List Nat → V4 → Prop
  | [], s => s = lost
  | b :: done, s => ∃ a, SumN lost F done a ∧ ∃ v, F b v ∧ a.plus v = s
theorem sums_sumF {lost bud : V4} {E : Nat → List V4} : ∀ (done : List Nat) (s : V4), Sums lost bud E done s ↔ SumF lost bud (fun b v => v ∈ E b) done s
  | [], _ => Iff.rfl
  | b :: done, s => by
    have ih := sums_sumF (lost := lost) (bud := bud) (E := E) done
    simp only [Sums, SumF]
    exact ⟨fun ⟨a, h1, h2⟩ => ⟨a, (ih a).1 h1, h2⟩, fun ⟨a, h1, h2⟩ => ⟨a, (ih a).2 h1, h2⟩⟩
theorem sumF_congr {lost bud : V4} {F F' : Nat → V4 → Prop} : ∀ (done : List Nat), (∀ b ∈ done, ∀ v, F b v ↔ F' b v) → ∀ s, SumF lost bud F done s ↔ SumF lost bud F' done s
  | [], _, _ => Iff.rfl
  | b :: done, h, s => by
    have ih := sumF_congr (lost := lost) (bud := bud) done (fun c hc => h c (by simp [hc]))
    simp only [SumF]
    exact ⟨fun ⟨a, h1, v, h2, h3⟩ => ⟨a, (ih a).1 h1, v, (h b (by simp) v).1 h2, h3⟩, fun ⟨a, h1, v, h2, h3⟩ => ⟨a, (ih a).2 h1, v, (h b (by simp) v).2 h2, h3⟩⟩
def V4.Pos (v : V4) : Prop := 0 ≤ v.a ∧ 0 ≤ v.b ∧ 0 ≤ v.c ∧ 0 ≤ v.d
theorem V4.In.pos {N : Int} {v : V4} (h : v.In N) : v.Pos := by unfold V4.In at h; unfold V4.Pos; omega
theorem leB_of_plus {a v bud : V4} (hv : v.Pos) (h : (a.plus v).leB bud = true) : a.leB bud = true := by
  unfold V4.leB at *
  unfold V4.plus at h
  unfold V4.Pos at hv
  simp only [Bool.and_eq_true, decide_eq_true_eq] at *
  omega
theorem sumF_iff {lost bud : V4} {F : Nat → V4 → Prop} (hF : ∀ b v, F b v → v.Pos) : ∀ (done : List Nat) (s : V4), SumF lost bud F done s ↔ SumN lost F done s ∧ s.leB bud = true
  | [], _ => Iff.rfl
  | b :: done, s => by
    have ih := sumF_iff (lost := lost) (bud := bud) hF done
    simp only [SumF, SumN]
    constructor
    · rintro ⟨a, h1, v, h2, h3, h4⟩; exact ⟨⟨a, ((ih a).1 h1).1, v, h2, h3⟩, h4⟩
    · rintro ⟨⟨a, h1, v, h2, rfl⟩, h4⟩; exact ⟨a, (ih a).2 ⟨h1, leB_of_plus (hF b v h2) h4⟩, v, h2, rfl, h4⟩
theorem V4.plus_swap (a u v : V4) : (a.plus u).plus v = (a.plus v).plus u := by
  rw [V4.plus_assoc, V4.plus_assoc, V4.plus_comm u v]
theorem sumN_perm {lost : V4} {F : Nat → V4 → Prop} {l l' : List Nat} (h : l.Perm l') : ∀ s, SumN lost F l s ↔ SumN lost F l' s := by
  induction h with
  | nil => exact fun _ => Iff.rfl
  | cons x _ ih =>
    intro s
    simp only [SumN]
    exact ⟨fun ⟨a, h1, h2⟩ => ⟨a, (ih a).1 h1, h2⟩, fun ⟨a, h1, h2⟩ => ⟨a, (ih a).2 h1, h2⟩⟩
  | swap x y l =>
    intro s
    simp only [SumN]
    constructor
    · rintro ⟨a, ⟨c, h1, v, h2, rfl⟩, u, h3, rfl⟩; exact ⟨c.plus u, ⟨c, h1, u, h3, rfl⟩, v, h2, V4.plus_swap _ _ _⟩
    · rintro ⟨a, ⟨c, h1, v, h2, rfl⟩, u, h3, rfl⟩; exact ⟨c.plus u, ⟨c, h1, u, h3, rfl⟩, v, h2, V4.plus_swap _ _ _⟩
  | trans _ _ ih1 ih2 => exact fun s => (ih1 s).trans (ih2 s)
theorem sumF_perm {lost bud : V4} {F : Nat → V4 → Prop} (hF : ∀ b v, F b v → v.Pos) {l l' : List Nat} (h : l.Perm l') (s : V4) : SumF lost bud F l s ↔ SumF lost bud F l' s := by
  rw [sumF_iff hF, sumF_iff hF, sumN_perm h]
/-- The counts that a group's choices can lead to. -/
def VecP (X : Scn) (shs : List Int) (b : Nat) (v : V4) : Prop := ∃ g ∈ X.G, g.b = b ∧ ∃ x ∈ comb (grpM X g.ts), wrongV X.stays g.ts g.rs (nums x) shs = v ∧ v.leB X.bud = true
theorem vecP_pos {X : Scn} {shs : List Int} (b : Nat) (v : V4) (h : VecP X shs b v) : v.Pos := by
  obtain ⟨g, _, _, x, _, rfl, _⟩ := h
  exact (wrongV_in X.stays g.ts g.rs (nums x) shs).pos
def keysG (X : Scn) : List Nat := X.G.map (·.b)
/-- There is a world with these shifts. -/
def FoundAt (X : Scn) (shs : List Int) : Prop := ∃ s, SumF X.lost X.bud (VecP X shs) (keysG X) s
/-- The choice x of group g belongs to a world. -/
def HitAt (X : Scn) (shs : List Int) (g : Grp) (x : List Nat) : Prop := ∃ a, SumF X.lost X.bud (VecP X shs) ((keysG X).filter (fun b => !decide (b = g.b))) a ∧ ((wrongV X.stays g.ts g.rs (nums x) shs).plus a).leB X.bud = true
def AtP (g : Grp) (x : List Nat) (n k : Nat) : Prop := ∃ i : Nat, g.ts[i]? = some n ∧ x[i]? = some k
def GHit (X : Scn) (shs : List Int) (g : Grp) (n k : Nat) : Prop := ∃ x ∈ comb (grpM X g.ts), HitAt X shs g x ∧ AtP g x n k
def SHit (X : Scn) (shs : List Int) (n k : Nat) : Prop := ∃ g ∈ X.G, GHit X shs g n k
/-- What rest answers, in terms of the choices. -/
theorem sums_vecP {X : Scn} {shs : List Int} {es : List Ent} (hnd : (es.map (·.b)).Nodup) (hE : ∀ e ∈ es, ∃ g ∈ X.G, g.b = e.b ∧ VSpec X g shs (comb (grpM X g.ts)) e.vl) (hG : ∀ g ∈ X.G, ∀ g' ∈ X.G, g.b = g'.b → g = g') {done l : List Nat} (hd : ∀ b ∈ done, b ∈ es.map (·.b)) (hp : done.Perm l) (s : V4) :
    Sums X.lost X.bud (vecs es) done s ↔ SumF X.lost X.bud (VecP X shs) l s := by
  rw [sums_sumF, ← sumF_perm vecP_pos hp]
  refine sumF_congr done (fun b hb v => ?_) s
  obtain ⟨e, he, rfl⟩ := List.mem_map.1 (hd b hb)
  obtain ⟨g, hg, hgb, hV⟩ := hE e he
  rw [vecs_at hnd he, hV.k]
  unfold VecP
  constructor
  · rintro ⟨x, h1, h2⟩; exact ⟨g, hg, hgb, x, h1, h2⟩
  · rintro ⟨g', hg', hgb', x, h1, h2⟩
    obtain rfl := hG g hg g' hg' (hgb.trans hgb'.symm)
    exact ⟨x, h1, h2⟩
end Go.Proofs.YtjiojpoiocdnmaaGreat
/- One more row of Booleans. -/
set_option linter.unusedSimpArgs false
set_option linter.unusedVariables false
namespace Go.Proofs.YtjiojpoiocdnmaaGreat
open Go.RowKit Go.ChangeMaps
theorem brI : EInfo Tryz.prog 34 50 BR.enc 1 24 := by
  obtain ⟨i, h1, h2, h3, h4⟩ := iparts (show (Tryz.prog.info? 50).map (fun i => (i.zero, i.size, i.bytes)) = some (some (.slice none 0 0), 1, 24) by kernel_rfl)
  exact ⟨Tryz.underlying34, ⟨i, _, h1, h2, h3, h4, rfl⟩, by decide, fun _ => rfl, fun x u hu => by simp [BR.enc] at hu; subst hu; rfl⟩
theorem info4z : (Tryz.prog.info? 4).map (fun i => (i.zero, i.size, i.bytes)) = some (some (.bool false), 1, 1) := by kernel_rfl
theorem made_b0 (n : Nat) : madeCells (Value.bool false).cells n = Array.replicate n (.bool false) := by
  apply Array.ext
  · simp [madeCells]
  · intro i h1 h2
    simp [madeCells, Value.cells, Nat.mod_one]
theorem mk50 (n : Nat) (hn : n ≤ 1000000) (w : World) : (Instr.makeSlice 50 (.int .i64 n) (.int .i64 n)).run Tryz.prog w = .ok (.slice (some ⟨w.heap.size, 0, none⟩) n n) (w.alloc (.cells (Array.replicate n (.bool false)) 4)) := by
  obtain ⟨i, hi, hz, hs, hb⟩ := info_parts info4z
  have := run_make (w := w) 50 4 i _ Tryz.underlying50 hi hz .i64 .i64 n n (by omega) (by omega) (by rw [hb]; omega) (by omega)
  rw [this, hs, made_b0]; simp
/-- The worlds of one round: the new row, and the literal that holds it. -/
abbrev lit50 (W : World) (n : Nat) : World := (W.alloc (.cells (Array.replicate n (.bool false)) 4)).alloc (.cells #[.slice (some ⟨W.heap.size, 0, none⟩) n n] 50)
theorem rows_push {W : World} {base : Nat} {v : Value} {rows : List BR} (h : Rows W base v rows) (hl : rows.length ≤ 100) (n : Nat) (hb : base ≤ W.heap.size) :
    ∃ v' w', (Builtin.append_ #[34, 34] 34 #[v, .slice (some ⟨W.heap.size + 1, 0, none⟩) 1 1]).run Tryz.prog (lit50 W n) = .ok v' w' ∧
      ∃ A c, v' = .slice A (rows.length + 1) c ∧ Rows w' base v' (rows ++ [⟨W.heap.size, List.replicate n false⟩]) ∧ (lit50 W n).grownBy w' v.ownBlock ∧ Below W.heap.size W (lit50 W n) := by
  have E1 : Below W.heap.size W (W.alloc (.cells (Array.replicate n (.bool false)) 4)) := ext_alloc (ext_refl _) _
  have E2 : Below W.heap.size W (lit50 W n) := ext_alloc E1 _
  have h2 := h.ext E2
  have hS : Slc (lit50 W n) BR.enc 1 (some ⟨W.heap.size + 1, 0, none⟩) [⟨W.heap.size, List.replicate n false⟩] :=
    slc_litH (W.alloc (.cells (Array.replicate n (.bool false)) 4)) [⟨W.heap.size, List.replicate n false⟩] #[.slice (some ⟨W.heap.size, 0, none⟩) n n] 50 (enc := BR.enc) (sz := 1) (fun _ => rfl) (by simp [BR.enc, BR.v]) (W.heap.size + 1) (by simp)
  have hN : BR.ok (lit50 W n) ⟨W.heap.size, List.replicate n false⟩ := by
    have q := World.alloc_heap_new W (.cells (Array.replicate n (.bool false)) 4)
    have q2 := ((ext_alloc (ext_refl (W.alloc (.cells (Array.replicate n (.bool false)) 4))) (.cells #[.slice (some ⟨W.heap.size, 0, none⟩) n n] 50)).block W.heap.size (by simp)).trans q
    show (lit50 W n).heap[W.heap.size]? = some _
    rw [q2]; simp
  obtain ⟨v', w', hrun, hO, hg, hat⟩ := h2.o.append brI 34 (ys := [⟨W.heap.size, List.replicate n false⟩]) (m := 1) rfl 1 hS (by simp; omega) (by unfold maxLen; simp; omega) (Nat.le_trans hb E2.size)
  refine ⟨v', w', hrun, ?_⟩
  obtain ⟨A, c, hv, _⟩ := hO.form
  refine ⟨A, c, by rw [hv]; simp, ⟨hO, fun x hx => ?_, ?_⟩, hg, E2⟩
  · have hkeep : ∀ (y : BR), y.ok (lit50 W n) → y.ok w' := fun y hy => (hg.block _ (BR.lt hy) (fun e => h2.o.neB hy (by decide) e.symm)).trans hy
    rcases List.mem_append.1 hx with h1 | h1
    · exact ⟨(h2.r x h1).1, hkeep x (h2.r x h1).2⟩
    · rw [List.mem_singleton] at h1
      subst h1
      exact ⟨hb, hkeep _ hN⟩
  · rw [List.map_append, List.nodup_append]
    refine ⟨h.nd, by simp, fun a ha b hbm e => ?_⟩
    simp only [List.map_cons, List.map_nil, List.mem_singleton] at hbm
    obtain ⟨y, hy, rfl⟩ := List.mem_map.1 ha
    have := BR.lt (h.r y hy).2
    omega
theorem Rows.far_set {W : World} {base : Nat} {v u : Value} {rows : List BR} (h : Rows W base v rows) {p : Addr} (hp : p.block < base) : Rows (W.setCell p u) base v rows :=
  ⟨Own.far_set h.o hp, fun x hx => ⟨(h.r x hx).1, (Below.heap_setCell W p u x.b (by have := (h.r x hx).1; omega)).trans (h.r x hx).2⟩, h.nd⟩
end Go.Proofs.YtjiojpoiocdnmaaGreat
