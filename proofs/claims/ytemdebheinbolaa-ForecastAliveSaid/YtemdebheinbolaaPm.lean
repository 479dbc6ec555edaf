/- The children of a node; a cut that is added. In plain Lean. No program in sight. -/
import Derived.Test.YtemdebheinbolaaPl
namespace Go.Proofs.Ytemdebheinbolaa
open Go.RowKit
/-- How many of the numbers below k fulfil Q. -/
def cnt (Q : Nat → Bool) : Nat → Nat
  | 0 => 0
  | k + 1 => cnt Q k + if Q k then 1 else 0
theorem cnt_one {Q : Nat → Bool} {j : Nat} (h : Q j = true) (hu : ∀ i, Q i = true → i = j) : ∀ k, cnt Q k = if j < k then 1 else 0
  | 0 => by simp [cnt]
  | k + 1 => by
    rw [cnt, cnt_one h hu k]
    by_cases e : k = j
    · subst e; simp [h]
    · have : Q k = false := by
        cases hq : Q k with
        | false => rfl
        | true => exact absurd (hu k hq) e
      simp [this]
      by_cases h1 : j < k
      · simp [h1]; omega
      · simp [h1]; omega
theorem cnt_zero {Q : Nat → Bool} : ∀ k, (∀ i < k, Q i = false) → cnt Q k = 0
  | 0, _ => rfl
  | k + 1, h => by simp [cnt, cnt_zero k (fun i hi => h i (by omega)), h k (by omega)]
theorem cnt_pos {Q : Nat → Bool} {j : Nat} (h : Q j = true) : ∀ k, j < k → 0 < cnt Q k
  | 0, hk => by omega
  | k + 1, hk => by
    rw [cnt]
    by_cases e : k = j
    · subst e; simp [h]
    · have := cnt_pos h k (by omega); omega
theorem cnt_le (Q : Nat → Bool) : ∀ k, cnt Q k ≤ k
  | 0 => Nat.le_refl _
  | k + 1 => by have := cnt_le Q k; rw [cnt]; split <;> omega
/-- The children of node n among the first k nodes; the leaves that are below them. -/
def partN (l : List Nd) (n : Int) (k : Nat) : Nat := cnt (fun j => decide (par l j = n)) k
def partS (l : List Nd) (n : Int) : Nat → Nat
  | 0 => 0
  | k + 1 => partS l n k + if par l k = n then (aliveL l [n, (k : Int)]).length else 0
theorem sum_add {α : Type} (L : List α) (f : α → Nat) (p : α → Bool) : (L.map f).sum + (L.filter p).length = (L.map (fun x => f x + if p x then 1 else 0)).sum := by
  induction L with
  | nil => rfl
  | cons x L ih =>
    simp only [List.map_cons, List.sum_cons, List.filter_cons, ← ih]
    cases p x <;> simp <;> omega
theorem sum_filter {α : Type} (L : List α) (p : α → Bool) : (L.filter p).length = (L.map (fun x => if p x then 1 else 0)).sum := by
  induction L with
  | nil => rfl
  | cons x L ih =>
    simp only [List.map_cons, List.sum_cons, List.filter_cons, ← ih]
    cases p x <;> simp <;> omega
theorem map_sum_congr {α : Type} (L : List α) (f g : α → Nat) (h : ∀ x ∈ L, f x = g x) : (L.map f).sum = (L.map g).sum := by
  rw [List.map_congr_left h]
theorem partS_eq (l : List Nd) (n : Int) : ∀ k, partS l n k = ((leaves l).map (fun x => if below l x n then cnt (fun j => decide (par l j = n) && below l x j) k else 0)).sum
  | 0 => by
    simp only [partS, cnt, ite_self]
    generalize leaves l = L
    induction L with
    | nil => rfl
    | cons x L ih => simpa using ih
  | k + 1 => by
    rw [partS, partS_eq l n k]
    by_cases h : par l k = n
    · rw [if_pos h, alive_filter, sum_add]
      apply map_sum_congr
      intro x _
      cases hb : below l x n
      · simp [hb]
      · simp [hb, cnt, h]
    · rw [if_neg h]
      apply map_sum_congr
      intro x _
      simp [cnt, h]
section
variable {l : List Nd}
theorem Tree.child_on (T : Tree l) (n : Int) (hn : 0 ≤ n) : ∀ (k : Nat) (x : Int), x < k → x < l.length → n ∈ way l x → n ≠ x → ∃ c : Nat, c < l.length ∧ par l c = n ∧ (c : Int) ∈ way l x
  | 0, x, h, _, hx, _ => by rw [way_neg (by omega)] at hx; cases hx
  | k + 1, x, h, hl, hx, hne => by
    by_cases hn : x < 0
    · rw [way_neg hn] at hx; cases hx
    · have h1 := T.par_lt (i := x.toNat) (by omega)
      have hc := T.way_cons (by omega) hl
      rw [hc] at hx ⊢
      rcases List.mem_cons.1 hx with e | hx
      · exact absurd e hne
      · by_cases e : n = par l x.toNat
        · exact ⟨x.toNat, by omega, e.symm, by simp; left; omega⟩
        · obtain ⟨c, a, b, d⟩ := Tree.child_on T n ‹_› k _ (by omega) (by omega) hx e
          exact ⟨c, a, b, List.mem_cons_of_mem _ d⟩
theorem Tree.child_one (T : Tree l) {n x : Int} {i j : Nat} (hx : x < l.length) (hi : (i : Int) ∈ way l x) (hj : (j : Int) ∈ way l x) (pi : par l i = n) (pj : par l j = n) : i = j := by
  have key : ∀ {i j : Nat}, (i : Int) ∈ way l x → (j : Int) ∈ way l x → par l i = n → par l j = n → j ≤ i := by
    intro i j hi hj pi pj
    have li := (T.way_at hx hi).2
    have lj := (T.way_at hx hj).2
    obtain ⟨r, hr, hb⟩ := T.before hx hj
    rw [hr] at hi
    rcases List.mem_append.1 hi with hi | hi
    · have := (hb _ hi).1; omega
    · rw [T.way_cons (by omega) (by omega), Int.toNat_natCast, pj] at hi
      rcases List.mem_cons.1 hi with e | hi
      · omega
      · have h1 := T.par_lt (i := j) (by omega)
        have h2 := T.par_lt (i := i) (by omega)
        have := (T.way_at (by omega) hi).2
        omega
  have a := key hi hj pi pj
  have b := key hj hi pj pi
  omega
theorem Tree.parts (T : Tree l) {n : Int} (h0 : 0 ≤ n) (h1 : n < l.length) (hl : leafB l n = false) : 0 < partN l n l.length ∧ partS l n l.length = (aliveL l [n]).length := by
  have hch : ∃ c : Nat, c < l.length ∧ par l c = n := by
    apply Classical.byContradiction
    intro h
    have : leafB l n = true := (leafB_iff l n).2 ⟨h0, h1, fun x hx e => by
      obtain ⟨c, hc, rfl⟩ := List.getElem_of_mem hx
      exact h ⟨c, hc, by rw [par_at (List.getElem?_eq_getElem hc)]; exact e⟩⟩
    rw [hl] at this; cases this
  obtain ⟨c, hc, hp⟩ := hch
  refine ⟨cnt_pos (j := c) (by simp [hp]) _ hc, ?_⟩
  rw [partS_eq, alive_filter, sum_filter]
  apply map_sum_congr
  intro x hx
  have hx2 := ((mem_leavesIf _ _ _).1 hx).1
  obtain ⟨x0, x1, x3⟩ := (leafB_iff l x).1 hx2
  cases hb : below l x n
  · simp [hb]
  · have hw := (below_iff l x n).1 hb
    have hne : n ≠ x := by rintro rfl; rw [hl] at hx2; cases hx2
    obtain ⟨d, d1, d2, d3⟩ := T.child_on n h0 (x.toNat + 1) x (by omega) x1 hw hne
    rw [cnt_one (j := d) (by simp [d2, below_iff, d3]) (fun i hi => by
      simp only [Bool.and_eq_true, decide_eq_true_eq, below_iff] at hi
      exact T.child_one x1 hi.2 d3 hi.1 d2)]
    simp [hb, d1]
theorem Tree.no_parts (T : Tree l) {n : Int} (hl : leafB l n = true) : partN l n l.length = 0 ∧ aliveL l [n] = [n] := by
  obtain ⟨h0, h1, h2⟩ := (leafB_iff l n).1 hl
  have hno : ∀ i : Nat, i < l.length → par l i ≠ n := fun i hi => by
    rw [par_at (List.getElem?_eq_getElem hi)]; exact h2 _ (List.getElem_mem hi)
  refine ⟨cnt_zero _ (fun i hi => by simp [hno i hi]), ?_⟩
  have key : ∀ x, leafB l x = true → (below l x n = decide (x = n)) := by
    intro x hx
    rw [Bool.eq_iff_iff, below_iff, decide_eq_true_eq]
    obtain ⟨x0, x1, _⟩ := (leafB_iff l x).1 hx
    constructor
    · intro h
      apply Classical.byContradiction
      intro hne
      obtain ⟨c, hc, hp, _⟩ := T.child_on n h0 (x.toNat + 1) x (by omega) x1 h (fun e => hne e.symm)
      exact hno c hc hp
    · rintro rfl; exact T.self x0 x1
  -- of the numbers below the length, n alone
  have : ∀ k : Nat, k ≤ l.length → ((List.range k).map (fun i : Nat => (i : Int))).filter (fun x => leafB l x && [n].all (below l x)) = if n < k then [n] else [] := by
    intro k
    induction k with
    | zero => intro _; simp; omega
    | succ k ih =>
      intro hk
      rw [List.range_succ, List.map_append, List.filter_append, ih (by omega)]
      simp only [List.map_cons, List.map_nil, List.filter_cons, List.filter_nil, List.all_cons, List.all_nil, Bool.and_true]
      by_cases e : (k : Int) = n
      · rw [e, hl, key n hl]; simp; omega
      · have : (leafB l k && below l k n) = false := by
          cases hb : leafB l (k : Int) with
          | false => rfl
          | true => rw [key _ hb]; simp [e]
        rw [this]
        by_cases h : n < k
        · simp [h]; omega
        · have : ¬ n < ((k + 1 : Nat) : Int) := by omega
          simp [h]; omega
  have h3 := this l.length (Nat.le_refl _)
  rw [if_pos h1] at h3
  exact h3
theorem leaves_le (l : List Nd) (h : Int → Bool) : (leavesIf l h).length ≤ l.length := by
  unfold leavesIf
  refine Nat.le_trans (List.length_filter_le _ _) ?_
  simp
theorem partS_le (l : List Nd) (n : Int) : ∀ k, partS l n k ≤ k * l.length
  | 0 => by simp [partS]
  | k + 1 => by
    have := partS_le l n k
    have := leaves_le l (fun x => [n, (k : Int)].all (below l x))
    rw [partS, Nat.add_mul]
    split
    · unfold aliveL; omega
    · omega
/-- A cut more at one node. -/
def addCut (l : List Nd) (i : Nat) (A : Option Addr) (c : Nat) (x : Cut) : List Nd := match l[i]? with | some n => l.set i ⟨n.p, n.f, ⟨A, c, n.cuts.l ++ [x]⟩⟩ | none => l
section
variable {i : Nat} {A : Option Addr} {c : Nat} {x : Cut}
theorem add_get (hi : i < l.length) (j : Nat) : (addCut l i A c x)[j]? = if j = i then some ⟨l[i].p, l[i].f, ⟨A, c, l[i].cuts.l ++ [x]⟩⟩ else l[j]? := by
  simp only [addCut, List.getElem?_eq_getElem hi, List.getElem?_set]
  by_cases e : i = j
  · subst e; simp [hi]
  · have e2 : ¬ j = i := fun h => e h.symm
    simp [e, e2]
theorem add_len (l : List Nd) (i : Nat) : (addCut l i A c x).length = l.length := by
  unfold addCut; split <;> simp
theorem add_par (hi : i < l.length) (j : Nat) : par (addCut l i A c x) j = par l j := by
  simp only [par, add_get hi]
  by_cases e : j = i
  · subst e; simp [List.getElem?_eq_getElem hi]
  · simp [e]
theorem add_frm (hi : i < l.length) (j : Nat) : frm (addCut l i A c x) j = frm l j := by
  simp only [frm, add_get hi]
  by_cases e : j = i
  · subst e; simp [List.getElem?_eq_getElem hi]
  · simp [e]
theorem add_way (hi : i < l.length) (n : Int) : way (addCut l i A c x) n = way l n := by
  unfold way
  generalize 33 = k
  induction k generalizing n with
  | zero => rfl
  | succ k ih => simp only [wayG, add_par hi, ih]
theorem leafB_par (l : List Nd) (n : Int) : leafB l n = (decide (0 ≤ n) && decide (n < l.length) && !((List.range l.length).any fun j => decide (par l j = n))) := by
  unfold leafB
  congr 2
  rw [Bool.eq_iff_iff, List.any_eq_true, List.any_eq_true]
  constructor
  · rintro ⟨y, hy, h⟩
    obtain ⟨j, hj, rfl⟩ := List.getElem_of_mem hy
    exact ⟨j, List.mem_range.2 hj, by rw [par_at (List.getElem?_eq_getElem hj)]; exact h⟩
  · rintro ⟨j, hj, h⟩
    have hj := List.mem_range.1 hj
    rw [par_at (List.getElem?_eq_getElem hj)] at h
    exact ⟨_, List.getElem_mem hj, h⟩
theorem add_leaf (hi : i < l.length) (n : Int) : leafB (addCut l i A c x) n = leafB l n := by
  simp only [leafB_par, add_len, add_par hi]
theorem cutSum_app (a : Bool) (ix m : Int) (u v : List Cut) : cutSum a ix m (u ++ v) = cutSum a ix m u + cutSum a ix m v := by
  induction u with
  | nil => simp [cutSum]
  | cons y u ih => simp [cutSum, ih, Int.add_assoc]
theorem add_cuts (hi : i < l.length) (y : Int) (hy : 0 ≤ y) : cutsAt (addCut l i A c x) y = if y = i then cutsAt l y ++ [x] else cutsAt l y := by
  unfold cutsAt
  rw [add_get hi]
  by_cases e : y = i
  · have : y.toNat = i := by omega
    simp [this, List.getElem?_eq_getElem hi, e]
  · have : ¬ y.toNat = i := by omega
    simp [this, e]
theorem waySum_other (hi : i < l.length) {a : Bool} {ix m : Int} {r : List Int} (h : ∀ y ∈ r, 0 ≤ y ∧ y ≠ i) : waySum (addCut l i A c x) a ix m r = waySum l a ix m r := by
  induction r with
  | nil => rfl
  | cons y r ih =>
    have := h y (by simp)
    rw [waySum, waySum, ih (fun z hz => h z (by simp [hz])), add_cuts hi y this.1, if_neg this.2]
theorem Tree.add_less (T : Tree l) (hi : i < l.length) {leaf : Int} (h0 : 0 ≤ leaf) (h1 : leaf < l.length) (a : Bool) (ix m : Int) :
    lessN (addCut l i A c x) leaf a ix m = lessN l leaf a ix m + (if below l leaf i && mat a ix m x then x.less else 0) := by
  unfold lessN
  rw [add_way hi]
  cases hb : below l leaf i
  · rw [waySum_other hi]
    · simp
    · intro y hy
      refine ⟨(T.way_at h1 hy).1, fun e => ?_⟩
      rw [e, ← below_iff, hb] at hy; cases hy
  · obtain ⟨r, hr, hlt⟩ := T.before h1 ((below_iff _ _ _).1 hb)
    rw [hr, waySum_app, waySum_app, T.way_cons (by omega) (by omega)]
    have h2 := T.par_lt hi
    rw [waySum_other hi (r := r) (fun y hy => by have := (hlt y hy).1; omega)]
    simp only [waySum]
    rw [waySum_other hi (r := way l _) (fun y hy => by have := T.way_at (by simp; omega) hy; simp at this; omega), add_cuts hi _ (by omega), if_pos rfl, cutSum_app]
    simp only [cutSum, Bool.true_and]
    cases mat a ix m x <;> simp <;> omega
end
theorem Tree.cutSum_le (T : Tree l) {y : Int} (a : Bool) (ix m : Int) (k : Nat) : 0 ≤ cutSum a ix m ((cutsAt l y).take k) ∧ cutSum a ix m ((cutsAt l y).take k) ≤ 4096 := by
  have key : ∀ cs : List Cut, (∀ c ∈ cs, 0 ≤ c.less ∧ c.less ≤ 64) → 0 ≤ cutSum a ix m cs ∧ cutSum a ix m cs ≤ 64 * cs.length := by
    intro cs
    induction cs with
    | nil => intro _; simp [cutSum]
    | cons c cs ih =>
      intro h
      obtain ⟨p, q⟩ := ih (fun z hz => h z (by simp [hz]))
      obtain ⟨u, v⟩ := h c (by simp)
      rw [cutSum, List.length_cons]
      split <;> omega
  have hb : ∀ c ∈ (cutsAt l y).take k, 0 ≤ c.less ∧ c.less ≤ 64 := by
    intro c hc
    have hc := List.mem_of_mem_take hc
    unfold cutsAt at hc
    split at hc
    · rename_i n hn
      have := badC_no ((T.nd _ _ hn).cut c hc); omega
    · cases hc
  have hl : ((cutsAt l y).take k).length ≤ 64 := by
    refine Nat.le_trans (List.length_take_le' _ _) ?_
    unfold cutsAt
    split
    · rename_i n hn; exact (T.nd _ _ hn).many
    · simp
  have := key _ hb
  omega
theorem Tree.waySum_le (T : Tree l) (a : Bool) (ix m : Int) : ∀ r : List Int, 0 ≤ waySum l a ix m r ∧ waySum l a ix m r ≤ 4096 * r.length
  | [] => by simp [waySum]
  | y :: r => by
    have := Tree.waySum_le T a ix m r
    have h := T.cutSum_le (y := y) a ix m (cutsAt l y).length
    rw [List.take_length] at h
    rw [waySum, List.length_cons]; omega
theorem wayG_len (l : List Nd) : ∀ (k : Nat) (n : Int), (wayG l k n).length ≤ k
  | 0, _ => by simp [wayG]
  | k + 1, n => by
    unfold wayG
    split
    · simp
    · have := wayG_len l k (par l n.toNat)
      simp; omega
theorem way_len (l : List Nd) (n : Int) : (way l n).length ≤ 33 := wayG_len l 33 n
end
end Go.Proofs.Ytemdebheinbolaa
