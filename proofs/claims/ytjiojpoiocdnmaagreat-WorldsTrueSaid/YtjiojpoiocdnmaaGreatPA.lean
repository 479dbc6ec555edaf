/- Group by group, or all choices at once: the same worlds. No program in sight. -/
import Derived.Test.YtjiojpoiocdnmaaGreatMN
set_option linter.unusedSimpArgs false
set_option linter.unusedVariables false
namespace Go.Proofs.YtjiojpoiocdnmaaGreat
open Go.RowKit
def unitV (k : Nat) : V4 := V4.zero.inc k
theorem V4.inc_plus (v : V4) (k : Nat) : v.inc k = v.plus (unitV k) := by
 match k with
 | 0 => simp [V4.inc, V4.plus, unitV, V4.zero, V4.set, V4.get]
 | 1 => simp [V4.inc, V4.plus, unitV, V4.zero, V4.set, V4.get]
 | 2 => simp [V4.inc, V4.plus, unitV, V4.zero, V4.set, V4.get]
 | _ + 3 => simp [V4.inc, V4.plus, unitV, V4.zero, V4.set, V4.get]
theorem V4.zero_plus (v : V4) : V4.zero.plus v = v := by rw [V4.plus_comm, V4.plus_zero]
theorem V4.plus4 (a b c d : V4) : (a.plus b).plus (c.plus d) = (a.plus c).plus (b.plus d) := by
 rw [V4.plus_assoc, V4.plus_assoc, ← V4.plus_assoc b, V4.plus_comm b c, V4.plus_assoc c]
/-- What one report costs. -/
def cR (p : Rep → Bool) (r : Rep) : V4 := if p r then V4.zero else unitV r.st.toNat
theorem fold_c (p : Rep → Bool) : ∀ (R : List Rep) (v : V4), R.foldl (fun v r => if p r then v else v.inc r.st.toNat) v = v.plus (vsum (R.map (cR p)))
 | [], v => by simp [vsum, V4.plus_zero]
 | r :: R, v => by
  simp only [List.foldl_cons, List.map_cons, vsum]
  rw [fold_c p R, ← V4.plus_assoc]
  congr 1
  unfold cR
  split
  ·rw [V4.plus_zero]
  ·rw [V4.inc_plus]
theorem vsum_plus {α : Type} (a b : α → V4) : ∀ (l : List α), vsum (l.map (fun g => (a g).plus (b g))) = (vsum (l.map a)).plus (vsum (l.map b))
 | [] => by simp [vsum, V4.plus_zero]
 | x :: l => by simp only [List.map_cons, vsum, vsum_plus a b l]; rw [V4.plus4]
theorem vsum_zero {α : Type} {a : α → V4} : ∀ {l : List α}, (∀ g ∈ l, a g = V4.zero) → vsum (l.map a) = V4.zero
 | [], _ => rfl
 | x :: l, h => by
  simp only [List.map_cons, vsum]
  rw [h x (by simp), vsum_zero (fun g hg => h g (by simp [hg])), V4.plus_zero]
theorem vsum_one {a : Grp → V4} : ∀ {l : List Grp}, (l.map (·.call)).Nodup → ∀ {g : Grp}, g ∈ l → (∀ q ∈ l, q.call ≠ g.call → a q = V4.zero) → vsum (l.map a) = a g
 | [], _, _, hg, _ => by cases hg
 | x :: l, hn, g, hg, h => by
  simp only [List.map_cons, List.nodup_cons] at hn
  simp only [List.map_cons, vsum]
  rcases List.mem_cons.1 hg with rfl | h1
  ·rw [vsum_zero (fun q hq => h q (by simp [hq]) (fun e => hn.1 (e ▸ List.mem_map.2 ⟨q, hq, rfl⟩))), V4.plus_zero]
  ·rw [h x (by simp) (fun e => hn.1 (e ▸ List.mem_map.2 ⟨g, h1, rfl⟩)), V4.zero_plus]
   exact vsum_one hn.2 h1 (fun q hq => h q (by simp [hq]))
theorem sum_groups {G : List Grp} (nd : (G.map (·.call)).Nodup) (Wr : Grp → Rep → Bool) (right has : Rep → Bool) (h1 : ∀ r, has r = false → right r = false ∧ ∀ g ∈ G, g.call ≠ r.call) (h2 : ∀ r, has r = true → ∃ g ∈ G, g.call = r.call ∧ Wr g r = right r) :
  ∀ R : List Rep, (vsum (R.map (cR has))).plus (vsum (G.map (fun g => vsum ((R.filter (fun r => decide (r.call = g.call))).map (cR (Wr g)))))) = vsum (R.map (cR right))
 | [] => by
  simp only [List.map_nil, List.filter_nil, vsum]
  rw [vsum_zero (fun _ _ => rfl), V4.plus_zero]
 | r :: R => by
  have ih := sum_groups nd Wr right has h1 h2 R
  have e1 : (fun g : Grp => vsum (((r :: R).filter (fun r => decide (r.call = g.call))).map (cR (Wr g)))) = fun g => (if r.call = g.call then cR (Wr g) r else V4.zero).plus (vsum ((R.filter (fun r => decide (r.call = g.call))).map (cR (Wr g)))) := by
   funext g
   by_cases e : r.call = g.call
   ·rw [List.filter_cons_of_pos (by simpa using e), if_pos e]; rfl
   ·rw [List.filter_cons_of_neg (by simpa using e), if_neg e, V4.zero_plus]
  rw [e1, vsum_plus]
  simp only [List.map_cons, vsum]
  rw [V4.plus4, ih]
  congr 1
  cases hr : has r with
  | false =>
   obtain ⟨a, b⟩ := h1 r hr
   rw [vsum_zero (fun g hg => by rw [if_neg (fun e => b g hg e.symm)]), V4.plus_zero]
   simp [cR, hr, a]
  | true =>
   obtain ⟨g, hg, hc, hw⟩ := h2 r hr
   rw [vsum_one nd hg (fun q hq hne => by rw [if_neg (fun e => hne (by rw [← e, hc]))]), if_pos hc.symm]
   simp [cR, hr, hw, V4.zero_plus]
/-- Is the report right: is a flight of its call sign where it says? -/
def rightAt (st : List (List (List Sty))) (l : List Trk) (picks shs : List Int) (r : Rep) : Bool :=
 (List.range l.length).any (fun n => decide ((l[n]?).map (·.fl.call) = some r.call) && fliesB (staysAt st n (picks.getD n 0).toNat) r.vol (r.mi + shs.getD r.st.toNat 0))
def wrongAll (st : List (List (List Sty))) (l : List Trk) (R : List Rep) (picks shs : List Int) : V4 := vsum (R.map (cR (rightAt st l picks shs)))
def stT (t : Tab) (l : List Trk) : List (List (List Sty)) := l.map (fun y => y.ps.l.map (staysL t))
def worldT (t : Tab) (s : List Stn) (R : List Rep) (l : List Trk) (picks shs : List Int) : Bool := (wrongAll (stT t l) l R picks shs).leB (budV s)
def worldP (t : Tab) (s : List Stn) (R : List Rep) (l : List Trk) (picks : List Int) : Bool := (shiftsL s).any (worldT t s R l picks)
theorem any_filter {α : Type} (p q : α → Bool) : ∀ l : List α, (l.filter p).any q = l.any (fun x => p x && q x)
 | [] => rfl
 | x :: l => by
  by_cases h : p x = true
  ·rw [List.filter_cons_of_pos h]; simp [h, any_filter p q l]
  ·rw [List.filter_cons_of_neg h]; simp [h, any_filter p q l]
theorem zip_map_any {α β : Type} (f : α → β) (q : α × β → Bool) : ∀ l : List α, (List.zip l (l.map f)).any q = l.any (fun x => q (x, f x))
 | [] => rfl
 | x :: l => by simp [zip_map_any f q l]
theorem right_grp {st : List (List (List Sty))} {l : List Trk} {picks shs : List Int} {c : ByteArray} {r : Rep} (hc : c = r.call) :
  rightB st (idxs l l.length c) (ownP picks (idxs l l.length c)) r.vol (r.mi + shs.getD r.st.toNat 0) = rightAt st l picks shs r := by
 subst hc
 unfold rightB rightAt ownP
 rw [zip_map_any, idxs, any_filter]
/-- The sum of the groups' counts is the count of all reports. -/
theorem total_eq {t : Tab} {s : List Stn} {R : List Rep} {l : List Trk} {X : Scn} (h : SceneSpec t s R l X) (picks shs : List Int) :
  X.lost.plus (vsum (X.G.map (grpW X picks shs))) = wrongAll (stT t l) l R picks shs := by
 have e1 : X.lost = vsum (R.map (cR (fun r => hasC l r.call))) := by
  rw [h.lost]
  have := fold_c (fun r => hasC l r.call) R V4.zero
  rw [V4.zero_plus] at this
  exact this
 have e2 : X.G.map (grpW X picks shs) = X.G.map (fun g => vsum ((R.filter (fun r => decide (r.call = g.call))).map (cR (fun r => rightB X.stays g.ts (ownP picks g.ts) r.vol (r.mi + shs.getD r.st.toNat 0))))) := by
  apply List.map_congr_left
  intro g hg
  unfold grpW wrongV
  rw [← h.G.rs g hg]
  have := fold_c (fun r => rightB X.stays g.ts (ownP picks g.ts) r.vol (r.mi + shs.getD r.st.toNat 0)) g.rs V4.zero
  rw [V4.zero_plus] at this
  exact this
 rw [e1, e2]
 have hst : X.stays = stT t l := h.st
 refine sum_groups h.G.nd (fun g r => rightB X.stays g.ts (ownP picks g.ts) r.vol (r.mi + shs.getD r.st.toNat 0)) (rightAt (stT t l) l picks shs) (fun r => hasC l r.call) (fun r hr => ?_) (fun r hr => ?_) R
 ·have hno : ∀ x ∈ l, x.fl.call ≠ r.call := fun x hx e => by
   have hr : hasC l r.call = false := hr
   unfold hasC at hr
   rw [List.any_eq_false] at hr
   exact hr x hx (by simpa using e)
  refine ⟨?_, fun g hg e => ?_⟩
  ·unfold rightAt
   rw [List.any_eq_false]
   intro n hn
   rw [List.mem_range] at hn
   have : (l[n]?).map (·.fl.call) ≠ some r.call := by
    rw [List.getElem?_eq_getElem hn]
    intro e
    exact hno l[n] (by simp) (by simpa using e)
   simp [this]
  ·obtain ⟨x, hx, e2⟩ := h.G.only g hg
   exact hno x hx (e2.trans e)
 ·have hr : hasC l r.call = true := hr
  obtain ⟨g, hg, e⟩ := List.mem_map.1 ((h.G.calls r.call).2 hr)
  refine ⟨g, hg, e, ?_⟩
  show rightB X.stays g.ts (ownP picks g.ts) r.vol (r.mi + shs.getD r.st.toNat 0) = _
  rw [h.G.ts g hg, hst]
  exact right_grp e
theorem worldAt_eq {t : Tab} {s : List Stn} {R : List Rep} {l : List Trk} {X : Scn} (h : SceneSpec t s R l X) (picks shs : List Int) : worldAt X picks shs = worldT t s R l picks shs := by
 unfold worldAt worldT
 rw [total_eq h, h.bud]
theorem worldB_eq {t : Tab} {s : List Stn} {R : List Rep} {l : List Trk} {X : Scn} (h : SceneSpec t s R l X) (picks : List Int) : worldB X picks = worldP t s R l picks := by
 unfold worldB worldP
 rw [← h.sh, List.any_map]
 congr 1
 funext x
 exact worldAt_eq h picks x.l
/-- How many choices each track has. -/
def msT (l : List Trk) : List Nat := l.map (fun y => y.ps.l.length)
def ownN (picks ts : List Nat) : List Nat := ts.map (fun i => picks.getD i 0)
theorem nums_getD (picks : List Nat) (i : Nat) : (nums picks).getD i 0 = ((picks.getD i 0 : Nat) : Int) := by
 unfold nums
 rw [List.getD_eq_getElem?_getD, List.getElem?_map, List.getD_eq_getElem?_getD]
 cases picks[i]? <;> rfl
theorem ownP_nums (picks ts : List Nat) : ownP (nums picks) ts = nums (ownN picks ts) := by
 unfold ownP ownN
 rw [show nums (ts.map (fun i => picks.getD i 0)) = ts.map (fun i => ((picks.getD i 0 : Nat) : Int)) by unfold nums; rw [List.map_map]; rfl]
 apply List.map_congr_left
 intro i _
 exact nums_getD picks i
theorem rowN_eq {t : Tab} {s : List Stn} {R : List Rep} {l : List Trk} {X : Scn} (h : SceneSpec t s R l X) (n : Nat) : rowN X n = (msT l).getD n 0 := by
 have h1 := congrArg (fun q : List (List (List Sty)) => (q[n]?).map List.length) h.st
 simp only [Scn.stays, List.getElem?_map, Option.map_map] at h1
 unfold rowN msT
 rw [List.getD_eq_getElem?_getD, List.getElem?_map]
 cases hx : X.st[n]? with
 | none =>
  rw [hx] at h1
  cases hy : l[n]? with
  | none => simp
  | some y => rw [hy] at h1; simp at h1
 | some x =>
  rw [hx] at h1
  cases hy : l[n]? with
  | none => rw [hy] at h1; simp at h1
  | some y => rw [hy] at h1; simp at h1; simp [h1]
theorem own_choice {t : Tab} {s : List Stn} {R : List Rep} {l : List Trk} {X : Scn} (h : SceneSpec t s R l X) {picks : List Nat} (hp : Choice (msT l) picks) {g : Grp} (hg : g ∈ X.G) : Choice (grpM X g.ts) (ownN picks g.ts) := by
 refine ⟨by simp [ownN, grpM], fun i m k h1 h2 => ?_⟩
 unfold grpM at h1
 unfold ownN at h2
 rw [List.getElem?_map] at h1 h2
 obtain ⟨n, hn, rfl⟩ := Option.map_eq_some_iff.1 h1
 rw [hn] at h2
 simp only [Option.map_some, Option.some.injEq] at h2
 have hm := List.mem_of_getElem? hn
 rw [h.G.ts g hg] at hm
 obtain ⟨hlt, x, hx, _⟩ := mem_idxs.1 hm
 rw [rowN_eq h]
 have hl : n < picks.length := by rw [hp.1]; simpa [msT] using hlt
 have hl2 : n < (msT l).length := by simpa [msT] using hlt
 refine hp.2 n _ k ?_ ?_
 ·rw [List.getD_eq_getElem?_getD, List.getElem?_eq_getElem hl2]; rfl
 ·rw [← h2, List.getD_eq_getElem?_getD, List.getElem?_eq_getElem hl]; rfl
theorem idxs_nodup (l : List Trk) (k : Nat) (c : ByteArray) : (idxs l k c).Nodup := by
 unfold idxs
 exact List.Pairwise.filter _ List.nodup_range
theorem nth_inj {α : Type} {l : List α} (h : l.Nodup) {i j : Nat} {a : α} (hi : l[i]? = some a) (hj : l[j]? = some a) : i = j := by
 exact nodup_at h hi hj
/-- Choices of all groups make one choice for all tracks. -/
theorem glue {t : Tab} {s : List Stn} {R : List Rep} {l : List Trk} {X : Scn} (h : SceneSpec t s R l X) (xs : Grp → List Nat) (hx : ∀ g ∈ X.G, Choice (grpM X g.ts) (xs g)) : ∃ picks, Choice (msT l) picks ∧ ∀ g ∈ X.G, ownN picks g.ts = xs g := by
 have hP : ∀ n : Nat, n < l.length → ∃ k : Nat, ∃ g ∈ X.G, ∃ i : Nat, g.ts[i]? = some n ∧ (xs g)[i]? = some k := fun n hn => by
  obtain ⟨g, hg, e⟩ := h.G.has n l[n] hn (by simp)
  have hm : n ∈ g.ts := by rw [h.G.ts g hg]; exact mem_idxs.2 ⟨hn, l[n], by simp, e.symm⟩
  obtain ⟨i, hi⟩ := List.mem_iff_getElem?.1 hm
  have hlt : i < (xs g).length := by rw [(hx g hg).1]; simpa [grpM] using (List.getElem?_eq_some_iff.1 hi).1
  exact ⟨(xs g)[i], g, hg, i, hi, by simp [hlt]⟩
 have hex : ∃ f : Nat → Nat, ∀ n, n < l.length → ∃ g ∈ X.G, ∃ i : Nat, g.ts[i]? = some n ∧ (xs g)[i]? = some (f n) :=
  ⟨fun n => if hn : n < l.length then Classical.choose (hP n hn) else 0, fun n hn => by
   simp only [hn, dif_pos]
   exact Classical.choose_spec (hP n hn)⟩
 obtain ⟨f, hf⟩ := hex
 have hget : ∀ n, n < l.length → ((List.range l.length).map f)[n]? = some (f n) := fun n hn => by simp [hn]
 have hown : ∀ g ∈ X.G, ∀ (i n : Nat), g.ts[i]? = some n → (xs g)[i]? = some (f n) := fun g hg i n hi => by
  have hm := List.mem_of_getElem? hi
  rw [h.G.ts g hg] at hm
  obtain ⟨hn, x, hxn, hc⟩ := mem_idxs.1 hm
  obtain ⟨g', hg', i', hi', hk⟩ := hf n hn
  have hm' := List.mem_of_getElem? hi'
  rw [h.G.ts g' hg'] at hm'
  obtain ⟨_, x', hxn', hc'⟩ := mem_idxs.1 hm'
  rw [hxn] at hxn'
  cases hxn'
  obtain rfl := nodup_map_eq h.G.nd hg hg' (hc.symm.trans hc')
  have hnd : g.ts.Nodup := by rw [h.G.ts g hg]; exact idxs_nodup _ _ _
  rw [nth_inj hnd hi hi']
  exact hk
 refine ⟨(List.range l.length).map f, ⟨by simp [msT], fun n m k h1 h2 => ?_⟩, fun g hg => ?_⟩
 ·have hn : n < l.length := by have := (List.getElem?_eq_some_iff.1 h1).1; simpa [msT] using this
  rw [hget n hn] at h2
  cases h2
  obtain ⟨g, hg, i, hi, hk⟩ := hf n hn
  refine (hx g hg).2 i m (f n) ?_ hk
  rw [grpM, List.getElem?_map, hi, Option.map_some, rowN_eq h, List.getD_eq_getElem?_getD, h1]; rfl
 ·apply List.ext_getElem?
  intro i
  unfold ownN
  rw [List.getElem?_map]
  cases hi : g.ts[i]? with
  | none =>
   have : g.ts.length ≤ i := by simpa using hi
   have h2 := (hx g hg).1
   rw [List.getElem?_eq_none (by rw [h2]; simpa [grpM] using this)]; rfl
  | some n =>
   rw [hown g hg i n hi]
   have hm := List.mem_of_getElem? hi
   rw [h.G.ts g hg] at hm
   obtain ⟨hn, _⟩ := mem_idxs.1 hm
   rw [Option.map_some, List.getD_eq_getElem?_getD, hget n hn]; rfl
/-- Sums over groups, one choice each. -/
theorem gen_sum {X : Scn} {lost : V4} (C : Grp → List Nat → Prop) (w : Grp → List Nat → V4) (hinj : ∀ g ∈ X.G, ∀ g' ∈ X.G, g.b = g'.b → g = g') :
  ∀ (G : List Grp), (∀ g ∈ G, g ∈ X.G) → (G.map (·.b)).Nodup → ∀ s, SumN lost (fun b v => ∃ g ∈ X.G, g.b = b ∧ ∃ y, C g y ∧ w g y = v) (G.map (·.b)) s ↔ ∃ xs : Grp → List Nat, (∀ g ∈ G, C g (xs g)) ∧ s = lost.plus (vsum (G.map (fun g => w g (xs g))))
 | [], _, _, s => by
  simp only [List.map_nil, SumN, vsum, V4.plus_zero]
  exact ⟨fun e => ⟨fun _ => [], by simp, e⟩, fun ⟨_, _, e⟩ => e⟩
 | g :: G, hs, hn, s => by
  simp only [List.map_cons, List.nodup_cons] at hn
  have ih := gen_sum (lost := lost) C w hinj G (fun q hq => hs q (by simp [hq])) hn.2
  have hne : ∀ q ∈ G, q.b ≠ g.b := fun q hq e => hn.1 (e ▸ List.mem_map.2 ⟨q, hq, rfl⟩)
  simp only [List.map_cons, SumN, vsum]
  constructor
  ·rintro ⟨a, h1, v, ⟨g', hg', hb, y, hy, rfl⟩, rfl⟩
   obtain rfl := hinj g' hg' g (hs g (by simp)) hb
   obtain ⟨xs, h2, rfl⟩ := (ih a).1 h1
   refine ⟨fun q => if q.b = g'.b then y else xs q, fun q hq => ?_, ?_⟩
   ·rcases List.mem_cons.1 hq with rfl | h3
    ·simpa using hy
    ·simp only [hne q h3, if_false]; exact h2 q h3
   ·have : G.map (fun q => w q (if q.b = g'.b then y else xs q)) = G.map (fun q => w q (xs q)) := List.map_congr_left (fun q hq => by simp only [hne q hq, if_false])
    rw [this]
    simp only [if_true]
    rw [V4.plus_assoc, V4.plus_comm _ (w g' y)]
  ·rintro ⟨xs, h2, rfl⟩
   refine ⟨lost.plus (vsum (G.map (fun g => w g (xs g)))), (ih _).2 ⟨xs, fun q hq => h2 q (by simp [hq]), rfl⟩, w g (xs g), ⟨g, hs g (by simp), rfl, xs g, h2 g (by simp), rfl⟩, ?_⟩
   rw [V4.plus_assoc, V4.plus_comm _ (w g (xs g))]
theorem V4.Pos.plus {a b : V4} (h : a.Pos) (k : b.Pos) : (a.plus b).Pos := by unfold V4.Pos V4.plus at *; simp only; omega
theorem sumN_sumF {lost bud : V4} {F : Nat → V4 → Prop} (hF : ∀ b v, F b v → v.Pos) (hl : lost.Pos) : ∀ (l : List Nat) (s : V4), SumN lost F l s → s.Pos ∧ (s.leB bud = true → SumF lost bud (fun b v => F b v ∧ v.leB bud = true) l s)
 | [], s, h => ⟨by rw [show s = lost from h]; exact hl, fun h2 => ⟨h, h2⟩⟩
 | b :: l, s, h => by
  obtain ⟨a, h1, v, h2, rfl⟩ := h
  obtain ⟨p1, p2⟩ := sumN_sumF (bud := bud) hF hl l a h1
  refine ⟨p1.plus (hF b v h2), fun hle => ?_⟩
  have ha : a.leB bud = true := leB_of_plus (hF b v h2) hle
  have hv : v.leB bud = true := leB_of_plus p1 (by rw [V4.plus_comm]; exact hle)
  exact ⟨a, p2 ha, v, ⟨h2, hv⟩, rfl, hle⟩
theorem sumF_sumN {lost bud : V4} {F F' : Nat → V4 → Prop} (hF : ∀ b v, F b v → F' b v) : ∀ (l : List Nat) (s : V4), SumF lost bud F l s → SumN lost F' l s ∧ s.leB bud = true
 | [], s, h => ⟨h.1, h.2⟩
 | b :: l, s, h => by
  obtain ⟨a, h1, v, h2, rfl, h3⟩ := h
  exact ⟨⟨a, (sumF_sumN hF l a h1).1, v, hF b v h2, rfl⟩, h3⟩
def wC (X : Scn) (shs : List Int) (g : Grp) (y : List Nat) : V4 := wrongV X.stays g.ts g.rs (nums y) shs
theorem wC_pos (X : Scn) (shs : List Int) (g : Grp) (y : List Nat) : (wC X shs g y).Pos := (wrongV_in X.stays g.ts g.rs (nums y) shs).pos
theorem vecP_iff {X : Scn} {shs : List Int} (b : Nat) (v : V4) : VecP X shs b v ↔ (∃ g ∈ X.G, g.b = b ∧ ∃ y, y ∈ comb (grpM X g.ts) ∧ wC X shs g y = v) ∧ v.leB X.bud = true := by
 unfold VecP wC
 constructor
 ·rintro ⟨g, h1, h2, x, h3, h4, h5⟩; exact ⟨⟨g, h1, h2, x, h3, h4⟩, h5⟩
 ·rintro ⟨⟨g, h1, h2, x, h3, h4⟩, h5⟩; exact ⟨g, h1, h2, x, h3, h4, h5⟩
theorem vecP_sum {X : Scn} {shs : List Int} (hinj : ∀ g ∈ X.G, ∀ g' ∈ X.G, g.b = g'.b → g = g') (hlost : X.lost.Pos) {G : List Grp} (hs : ∀ g ∈ G, g ∈ X.G) (hn : (G.map (·.b)).Nodup) (s : V4) :
  SumF X.lost X.bud (VecP X shs) (G.map (·.b)) s ↔ (∃ xs : Grp → List Nat, (∀ g ∈ G, xs g ∈ comb (grpM X g.ts)) ∧ s = X.lost.plus (vsum (G.map (fun g => wC X shs g (xs g))))) ∧ s.leB X.bud = true := by
 rw [← gen_sum (fun g y => y ∈ comb (grpM X g.ts)) (wC X shs) hinj G hs hn]
 constructor
 ·exact fun h => sumF_sumN (fun b v h => ((vecP_iff b v).1 h).1) _ _ h
 ·rintro ⟨h1, h2⟩
  have := (sumN_sumF (bud := X.bud) (fun b v ⟨g, _, _, y, _, e⟩ => by rw [← e]; exact wC_pos X shs g y) hlost _ _ h1).2 h2
  exact (sumF_congr _ (fun b _ v => (vecP_iff b v).symm) s).1 this
theorem take_grp {X : Scn} (hnd : (X.G.map (·.b)).Nodup) {g : Grp} (hg : g ∈ X.G) (F : Grp → V4) : ∀ {G : List Grp}, (∀ q ∈ G, q ∈ X.G) → (G.map (·.b)).Nodup → g ∈ G → vsum (G.map F) = (F g).plus (vsum ((G.filter (fun q => !decide (q.b = g.b))).map F))
 | [], _, _, h => by cases h
 | x :: G, hs, hn, h => by
  simp only [List.map_cons, List.nodup_cons] at hn
  rcases List.mem_cons.1 h with rfl | h1
  ·rw [List.filter_cons_of_neg (by simp), List.filter_eq_self.2 (fun q hq => by
    have : q.b ≠ g.b := fun e => hn.1 (e ▸ List.mem_map.2 ⟨q, hq, rfl⟩)
    simpa using this)]
   rfl
  ·have hx : x.b ≠ g.b := fun e => hn.1 (e ▸ List.mem_map.2 ⟨g, h1, rfl⟩)
   rw [List.filter_cons_of_pos (by simpa using hx)]
   simp only [List.map_cons, vsum]
   rw [take_grp hnd hg F (fun q hq => hs q (by simp [hq])) hn.2 h1, ← V4.plus_assoc, V4.plus_comm (F x), V4.plus_assoc]
section
variable {t : Tab} {s : List Stn} {R : List Rep} {l : List Trk} {X : Scn} {shs : List Int}
theorem at_choice (h : SceneSpec t s R l X) (picks : List Nat) : worldAt X (nums picks) shs = (X.lost.plus (vsum (X.G.map (fun g => wC X shs g (ownN picks g.ts))))).leB X.bud := by
 unfold worldAt grpW wC
 simp only [ownP_nums]
theorem at_glue (h : SceneSpec t s R l X) {xs : Grp → List Nat} {picks : List Nat} (ho : ∀ g ∈ X.G, ownN picks g.ts = xs g) : worldAt X (nums picks) shs = (X.lost.plus (vsum (X.G.map (fun g => wC X shs g (xs g))))).leB X.bud := by
 rw [at_choice h]
 rw [List.map_congr_left (fun g hg => by rw [ho g hg])]
theorem found_iff (h : SceneSpec t s R l X) (hlost : X.lost.Pos) (hinj : ∀ g ∈ X.G, ∀ g' ∈ X.G, g.b = g'.b → g = g') (hnd : (X.G.map (·.b)).Nodup) : FoundAt X shs ↔ ∃ picks, Choice (msT l) picks ∧ worldT t s R l (nums picks) shs = true := by
 unfold FoundAt keysG
 constructor
 ·rintro ⟨v, hv⟩
  obtain ⟨⟨xs, h1, rfl⟩, h2⟩ := (vecP_sum hinj hlost (fun g hg => hg) hnd v).1 hv
  obtain ⟨picks, hp, ho⟩ := glue h xs (fun g hg => comb_choice (h1 g hg))
  exact ⟨picks, hp, by rw [← worldAt_eq h, at_glue h ho]; exact h2⟩
 ·rintro ⟨picks, hp, hw⟩
  rw [← worldAt_eq h, at_choice h] at hw
  exact ⟨_, (vecP_sum hinj hlost (fun g hg => hg) hnd _).2 ⟨⟨fun g => ownN picks g.ts, fun g hg => mem_comb (own_choice h hp hg), rfl⟩, hw⟩⟩
theorem hit_iff (h : SceneSpec t s R l X) (hlost : X.lost.Pos) (hinj : ∀ g ∈ X.G, ∀ g' ∈ X.G, g.b = g'.b → g = g') (hnd : (X.G.map (·.b)).Nodup) {g : Grp} (hg : g ∈ X.G) {x : List Nat} (hx : x ∈ comb (grpM X g.ts)) :
  HitAt X shs g x ↔ ∃ picks, Choice (msT l) picks ∧ ownN picks g.ts = x ∧ worldT t s R l (nums picks) shs = true := by
 unfold HitAt keysG
 have hs : ∀ q ∈ X.G.filter (fun q => !decide (q.b = g.b)), q ∈ X.G := fun q hq => (List.mem_filter.1 hq).1
 have hn : ((X.G.filter (fun q => !decide (q.b = g.b))).map (·.b)).Nodup := List.Nodup.sublist (List.Sublist.map _ List.filter_sublist) hnd
 have ek : (X.G.map (·.b)).filter (fun b => !decide (b = g.b)) = (X.G.filter (fun q => !decide (q.b = g.b))).map (·.b) := by
  rw [List.filter_map]; rfl
 rw [ek]
 have hne : ∀ q ∈ X.G.filter (fun q => !decide (q.b = g.b)), q.b ≠ g.b := fun q hq => by
  have := (List.mem_filter.1 hq).2
  simpa using this
 constructor
 ·rintro ⟨a, h1, h2⟩
  obtain ⟨⟨xs, h3, rfl⟩, _⟩ := (vecP_sum hinj hlost hs hn a).1 h1
  have hall : ∀ q ∈ X.G, (if q.b = g.b then x else xs q) ∈ comb (grpM X q.ts) := fun q hq => by
   by_cases e : q.b = g.b
   ·obtain rfl := hinj q hq g hg e
    simpa using hx
   ·rw [if_neg e]; exact h3 q (List.mem_filter.2 ⟨hq, by simpa using e⟩)
  obtain ⟨picks, hp, ho⟩ := glue h (fun q => if q.b = g.b then x else xs q) (fun q hq => comb_choice (hall q hq))
  refine ⟨picks, hp, by rw [ho g hg, if_pos rfl], ?_⟩
  rw [← worldAt_eq h, at_glue h ho, take_grp hnd hg _ (fun q hq => hq) hnd hg, if_pos rfl]
  have e2 : (X.G.filter (fun q => !decide (q.b = g.b))).map (fun q => wC X shs q (if q.b = g.b then x else xs q)) = (X.G.filter (fun q => !decide (q.b = g.b))).map (fun q => wC X shs q (xs q)) := List.map_congr_left (fun q hq => by rw [if_neg (hne q hq)])
  rw [e2, ← V4.plus_assoc, V4.plus_comm X.lost, V4.plus_assoc]
  exact h2
 ·rintro ⟨picks, hp, rfl, hw⟩
  rw [← worldAt_eq h, at_choice h, take_grp hnd hg _ (fun q hq => hq) hnd hg, ← V4.plus_assoc, V4.plus_comm X.lost, V4.plus_assoc] at hw
  refine ⟨_, (vecP_sum hinj hlost hs hn _).2 ⟨⟨fun q => ownN picks q.ts, fun q hq => mem_comb (own_choice h hp (hs q hq)), rfl⟩, ?_⟩, hw⟩
  rw [V4.plus_comm] at hw
  exact leB_of_plus (wC_pos X shs g _) hw
/-- What Possible marks. -/
theorem shit_iff (h : SceneSpec t s R l X) (hlost : X.lost.Pos) (hinj : ∀ g ∈ X.G, ∀ g' ∈ X.G, g.b = g'.b → g = g') (hnd : (X.G.map (·.b)).Nodup) (n k : Nat) :
  SHit X shs n k ↔ ∃ picks, Choice (msT l) picks ∧ picks[n]? = some k ∧ worldT t s R l (nums picks) shs = true := by
 unfold SHit GHit AtP
 constructor
 ·rintro ⟨g, hg, x, hx, hh, i, hi, hk⟩
  obtain ⟨picks, hp, rfl, hw⟩ := (hit_iff h hlost hinj hnd hg hx).1 hh
  refine ⟨picks, hp, ?_, hw⟩
  unfold ownN at hk
  rw [List.getElem?_map, hi] at hk
  simp only [Option.map_some, Option.some.injEq] at hk
  have hm := List.mem_of_getElem? hi
  rw [h.G.ts g hg] at hm
  obtain ⟨hn, _⟩ := mem_idxs.1 hm
  have hl : n < picks.length := by rw [hp.1]; simpa [msT] using hn
  rw [List.getD_eq_getElem?_getD, List.getElem?_eq_getElem hl] at hk
  rw [List.getElem?_eq_getElem hl]
  simpa using hk
 ·rintro ⟨picks, hp, hk, hw⟩
  have hn : n < l.length := by have := (List.getElem?_eq_some_iff.1 hk).1; rw [hp.1] at this; simpa [msT] using this
  obtain ⟨g, hg, e⟩ := h.G.has n l[n] hn (by simp)
  have hm : n ∈ g.ts := by rw [h.G.ts g hg]; exact mem_idxs.2 ⟨hn, l[n], by simp, e.symm⟩
  obtain ⟨i, hi⟩ := List.mem_iff_getElem?.1 hm
  have hx : ownN picks g.ts ∈ comb (grpM X g.ts) := mem_comb (own_choice h hp hg)
  refine ⟨g, hg, ownN picks g.ts, hx, (hit_iff h hlost hinj hnd hg hx).2 ⟨picks, hp, rfl, hw⟩, i, hi, ?_⟩
  unfold ownN
  rw [List.getElem?_map, hi, Option.map_some, List.getD_eq_getElem?_getD, hk]; rfl
end
end Go.Proofs.YtjiojpoiocdnmaaGreat
