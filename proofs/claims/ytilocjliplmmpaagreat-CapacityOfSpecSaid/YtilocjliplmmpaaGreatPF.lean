/- The tree of a forecast in plain Lean. No program in sight. -/
import Derived.Test.YtilocjliplmmpaaGreatPA
import Derived.WalkKit
set_option linter.unusedSimpArgs false
set_option linter.unusedVariables false
namespace Go.Proofs.YtilocjliplmmpaaGreat
open Go.RowKit
/-- Is a cut wrong for a node that is known from 'from_' on? -/
def badC (n : Int) (c : Cut) : Bool := !(decide (0 ≤ c.ix) && decide (c.ix ≤ (if c.air then 15 else 63))) || !(decide (0 ≤ c.less) && decide (c.less ≤ 64)) || decide (c.f < n) || decide (c.t ≤ c.f) || decide (1440 < c.t)
/-- From of node j (0 if there is none). -/
def frm (l : List Nd) (j : Nat) : Int := match l[j]? with | some n => n.f | none => 0
def par (l : List Nd) (j : Nat) : Int := match l[j]? with | some n => n.p | none => -1
/-- A node before this one, not the root, with this parent and another From. -/
def clash (l : List Nd) (i : Nat) (n : Nd) : Bool := (List.range i).any fun j => decide (1 ≤ j) && decide (par l j = n.p) && decide (frm l j ≠ n.f)
def okP (l : List Nd) (i : Nat) (n : Nd) : Bool :=
  if i = 0 then decide (n.p = -1) && decide (n.f = 0) else decide (0 ≤ n.p) && decide (n.p < i) && decide (frm l n.p.toNat < n.f) && decide (n.f < 1440)
def okN (l : List Nd) (i : Nat) (n : Nd) : Bool := okP l i n && !clash l i n && !(n.cuts.l.any (badC n.f)) && decide (n.cuts.l.length ≤ 64)
def okI (l : List Nd) (i : Nat) : Bool := match l[i]? with | some n => okN l i n | none => true
def vld (l : List Nd) : Bool := decide (1 ≤ l.length) && decide (l.length ≤ 32) && (List.range l.length).all (okI l)
def chkE (l : List Nd) : Int := if vld l then 0 else 180
def leafB (l : List Nd) (n : Int) : Bool := decide (0 ≤ n) && decide (n < l.length) && !(l.any fun x => decide (x.p = n))
def leavesIf (l : List Nd) (h : Int → Bool) : List Int := ((List.range l.length).map (fun i : Nat => (i : Int))).filter (fun n => leafB l n && h n)
def leaves (l : List Nd) : List Int := leavesIf l (fun _ => true)
/-- The way to a node. -/
def wayG (l : List Nd) : Nat → Int → List Int
  | 0, _ => []
  | k + 1, n => if n < 0 then [] else n :: wayG l k (par l n.toNat)
def way (l : List Nd) (n : Int) : List Int := wayG l 33 n
def atN (l : List Nd) (leaf m : Int) : Option Int := (way l leaf).find? (fun n => decide (frm l n.toNat ≤ m))
def below (l : List Nd) (leaf n : Int) : Bool := (way l leaf).any (fun x => decide (x = n))
def inT (l : List Nd) (n : Int) : Bool := decide (0 ≤ n) && decide (n < l.length)
def aliveL (l : List Nd) (seen : List Int) : List Int := leavesIf l (fun x => seen.all (below l x))
def mat (a : Bool) (i m : Int) (c : Cut) : Bool := (c.air == a) && decide (c.ix = i) && decide (c.f ≤ m) && decide (m < c.t)
def cutSum (a : Bool) (i m : Int) : List Cut → Int
  | [] => 0
  | c :: r => (if mat a i m c then c.less else 0) + cutSum a i m r
def cutsAt (l : List Nd) (n : Int) : List Cut := match l[n.toNat]? with | some x => x.cuts.l | none => []
def waySum (l : List Nd) (a : Bool) (i m : Int) : List Int → Int
  | [] => 0
  | n :: r => cutSum a i m (cutsAt l n) + waySum l a i m r
def lessN (l : List Nd) (leaf : Int) (a : Bool) (i m : Int) : Int := waySum l a i m (way l leaf)
def atR (l : List Nd) (leaf m : Int) : Int × Int := if vld l && leafB l leaf && decide (0 ≤ m) then ((atN l leaf m).getD 0, 0) else (0, 180)
def aliveR (l : List Nd) (seen : List Int) : List Int × Int :=
  if vld l && seen.all (inT l) then (if (aliveL l seen).length = 0 then ([], 181) else (aliveL l seen, 0)) else ([], 180)
def lessR (l : List Nd) (leaf : Int) (a : Bool) (i m : Int) : Int × Int := if vld l && leafB l leaf then (lessN l leaf a i m, 0) else (0, 180)
def fewT (l : List Nd) : Bool := decide (l.length ≤ 40) && decide ((l.map (fun n => n.cuts.l.length)).sum ≤ 100)

/-- What a valid tree says of a node. -/
structure Node (l : List Nd) (i : Nat) (n : Nd) : Prop where
  root : i = 0 → n.p = -1 ∧ n.f = 0
  par0 : 0 < i → 0 ≤ n.p ∧ n.p < i ∧ frm l n.p.toNat < n.f ∧ n.f < 1440
  same : ∀ j x, 0 < j → j < i → l[j]? = some x → x.p = n.p → x.f = n.f
  cut : ∀ c ∈ n.cuts.l, badC n.f c = false
  many : n.cuts.l.length ≤ 64
theorem par_at {l : List Nd} {j : Nat} {x : Nd} (h : l[j]? = some x) : par l j = x.p := by simp [par, h]
theorem frm_at {l : List Nd} {j : Nat} {x : Nd} (h : l[j]? = some x) : frm l j = x.f := by simp [frm, h]
theorem okN_iff (l : List Nd) (i : Nat) (n : Nd) (hi : i ≤ l.length) : okN l i n = true ↔ Node l i n := by
  constructor
  · intro h
    simp only [okN, Bool.and_eq_true, Bool.not_eq_true', decide_eq_true_eq] at h
    obtain ⟨⟨⟨h1, h2⟩, h3⟩, h4⟩ := h
    refine ⟨fun e => ?_, fun e => ?_, fun j x j0 ji hx hp => ?_, fun c hc => ?_, h4⟩
    · simpa [okP, e] using h1
    · simp only [okP, if_neg (Nat.ne_of_gt e), Bool.and_eq_true, decide_eq_true_eq] at h1
      exact ⟨h1.1.1.1, h1.1.1.2, h1.1.2, h1.2⟩
    · have := (List.any_eq_false.1 h2) j (List.mem_range.2 ji)
      rw [par_at hx, frm_at hx] at this
      simp [hp] at this
      exact this (by omega)
    · simpa using (List.any_eq_false.1 h3) c hc
  · intro h
    simp only [okN, Bool.and_eq_true, Bool.not_eq_true', decide_eq_true_eq]
    refine ⟨⟨⟨?_, ?_⟩, ?_⟩, h.many⟩
    · unfold okP
      split
      · rename_i e; obtain ⟨a, b⟩ := h.root e; simp [a, b]
      · rename_i e; obtain ⟨a, b, c, d⟩ := h.par0 (by omega); simp [a, b, c, d]
    · refine List.any_eq_false.2 fun j hj => ?_
      have hj' := List.mem_range.1 hj
      obtain ⟨x, hx⟩ : ∃ x, l[j]? = some x := ⟨l[j]'(by omega), List.getElem?_eq_getElem (by omega)⟩
      rw [par_at hx, frm_at hx]
      simp only [Bool.and_eq_true, decide_eq_true_eq, not_and]
      rintro ⟨a, b⟩ c
      exact c (h.same j x (by omega) hj' hx b)
    · exact List.any_eq_false.2 fun c hc => by simp [h.cut c hc]
theorem vld_iff (l : List Nd) : vld l = true ↔ 1 ≤ l.length ∧ l.length ≤ 32 ∧ ∀ i n, l[i]? = some n → Node l i n := by
  simp only [vld, Bool.and_eq_true, decide_eq_true_eq, List.all_eq_true, List.mem_range, and_assoc]
  constructor
  · rintro ⟨a, b, h⟩
    refine ⟨a, b, fun i n hn => ?_⟩
    have hi := (List.getElem?_eq_some_iff.1 hn).1
    have := h i hi
    simp only [okI, hn] at this
    exact (okN_iff l i n (by omega)).1 this
  · rintro ⟨a, b, h⟩
    refine ⟨a, b, fun i hi => ?_⟩
    have hn : l[i]? = some l[i] := List.getElem?_eq_getElem hi
    simp only [okI, hn]
    exact (okN_iff l i _ (by omega)).2 (h i _ hn)
/-- A valid tree. -/
structure Tree (l : List Nd) : Prop where
  lo : 1 ≤ l.length
  hi : l.length ≤ 32
  nd : ∀ i n, l[i]? = some n → Node l i n
theorem tree_of {l : List Nd} (h : vld l = true) : Tree l := by
  obtain ⟨a, b, c⟩ := (vld_iff l).1 h; exact ⟨a, b, c⟩
section
variable {l : List Nd}
theorem Tree.par_lt (T : Tree l) {i : Nat} (hi : i < l.length) : par l i < i ∧ -1 ≤ par l i ∧ (par l i < 0 ↔ i = 0) := by
  have hn : l[i]? = some l[i] := List.getElem?_eq_getElem hi
  have N := T.nd i _ hn
  rw [par_at hn]
  rcases Nat.eq_zero_or_pos i with rfl | h
  · have := N.root rfl; omega
  · have := N.par0 h; omega
theorem Tree.frm_lt (T : Tree l) {i : Nat} (hi : i < l.length) (h0 : 0 < i) : frm l (par l i).toNat < frm l i := by
  have hn : l[i]? = some l[i] := List.getElem?_eq_getElem hi
  have N := T.nd i _ hn
  rw [par_at hn, frm_at hn]
  exact (N.par0 h0).2.2.1
theorem Tree.frm0 (T : Tree l) : frm l 0 = 0 := by
  have hn : l[0]? = some (l[0]'T.lo) := List.getElem?_eq_getElem T.lo
  rw [frm_at hn]; exact ((T.nd 0 _ hn).root rfl).2
/-- More fuel changes nothing. -/
theorem Tree.wayG_fuel (T : Tree l) : ∀ (k j : Nat) (n : Int), n < l.length → n < k → n < j → wayG l k n = wayG l j n
  | 0, j, n, h0, h1, h2 => by
    cases j with
    | zero => rfl
    | succ j => simp [wayG]; omega
  | k + 1, 0, n, h0, h1, h2 => by simp [wayG]; omega
  | k + 1, j + 1, n, h0, h1, h2 => by
    unfold wayG
    by_cases hn : n < 0
    · simp [hn]
    · simp only [hn, if_false]
      have := T.par_lt (i := n.toNat) (by omega)
      rw [Tree.wayG_fuel T k j (par l n.toNat) (by omega) (by omega) (by omega)]
theorem Tree.way_cons (T : Tree l) {n : Int} (h0 : 0 ≤ n) (h1 : n < l.length) : way l n = n :: way l (par l n.toNat) := by
  have := T.par_lt (i := n.toNat) (by omega)
  have := T.hi
  rw [way, wayG, if_neg (by omega), way, Tree.wayG_fuel T 32 33 _ (by omega) (by omega) (by omega)]
theorem way_neg {n : Int} (h : n < 0) : way l n = [] := by simp [way, wayG, h]
/-- Every node of a way is one of the tree. -/
theorem Tree.way_in (T : Tree l) : ∀ (k : Nat) (n : Int), n < k → n < l.length → ∀ x ∈ way l n, 0 ≤ x ∧ x ≤ n
  | 0, n, h, _, x, hx => by rw [way_neg (by omega)] at hx; cases hx
  | k + 1, n, h, hl, x, hx => by
    by_cases hn : n < 0
    · rw [way_neg hn] at hx; cases hx
    · rw [T.way_cons (by omega) hl] at hx
      have := T.par_lt (i := n.toNat) (by omega)
      rcases List.mem_cons.1 hx with rfl | hx
      · omega
      · have := Tree.way_in T k _ (by omega) (by omega) x hx
        omega
theorem Tree.way_at (T : Tree l) {n x : Int} (hl : n < l.length) (hx : x ∈ way l n) : 0 ≤ x ∧ x ≤ n := T.way_in (n.toNat + 1) n (by omega) hl x hx
theorem Tree.way_root (T : Tree l) : ∀ (k : Nat) (n : Int), n < k → 0 ≤ n → n < l.length → 0 ∈ way l n
  | 0, n, h, _, _ => by omega
  | k + 1, n, h, h0, hl => by
    rw [T.way_cons h0 hl]
    rcases Int.lt_or_eq_of_le h0 with hp | rfl
    · have h1 := T.par_lt (i := n.toNat) (by omega)
      exact List.mem_cons_of_mem _ (Tree.way_root T k _ (by omega) (by omega) (by omega))
    · simp
/-- The way of a node of a way is the rest of the way. -/
theorem Tree.way_suffix (T : Tree l) : ∀ (k : Nat) (n : Int), n < k → n < l.length → ∀ x ∈ way l n, ∃ r, way l n = r ++ way l x
  | 0, n, h, _, x, hx => by rw [way_neg (by omega)] at hx; cases hx
  | k + 1, n, h, hl, x, hx => by
    by_cases hn : n < 0
    · rw [way_neg hn] at hx; cases hx
    · have h1 := T.par_lt (i := n.toNat) (by omega)
      have hc := T.way_cons (by omega) hl
      rw [hc] at hx
      rcases List.mem_cons.1 hx with rfl | hx
      · exact ⟨[], by simp⟩
      · obtain ⟨r, hr⟩ := Tree.way_suffix T k _ (by omega) (by omega) x hx
        exact ⟨n :: r, by rw [hc, hr]; simp⟩
end
end Go.Proofs.YtilocjliplmmpaaGreat
/- What follows of a valid tree, in plain Lean. No program in sight. -/
set_option linter.unusedSimpArgs false
set_option linter.unusedVariables false
namespace Go.Proofs.YtilocjliplmmpaaGreat
section
variable {l : List Nd}
/-- Along a way From goes down; the elements ahead of a node of the way are larger in number and later. -/
theorem Tree.way_before (T : Tree l) : ∀ (k : Nat) (n : Int), n < k → n < l.length → ∀ x ∈ way l n, ∃ r, way l n = r ++ way l x ∧ ∀ y ∈ r, x < y ∧ frm l x.toNat < frm l y.toNat
  | 0, n, h, _, x, hx => by rw [way_neg (by omega)] at hx; cases hx
  | k + 1, n, h, hl, x, hx => by
    by_cases hn : n < 0
    · rw [way_neg hn] at hx; cases hx
    · have h1 := T.par_lt (i := n.toNat) (by omega)
      have hc := T.way_cons (by omega) hl
      rw [hc] at hx
      rcases List.mem_cons.1 hx with rfl | hx
      · exact ⟨[], by simp, by simp⟩
      · obtain ⟨r, hr, hb⟩ := Tree.way_before T k _ (by omega) (by omega) x hx
        have h0 : 0 < n.toNat := by
          rcases Nat.eq_zero_or_pos n.toNat with e | e
          · rw [way_neg (h1.2.2.2 e)] at hx; cases hx
          · exact e
        have h2 := T.frm_lt (by omega) h0
        have hx1 := T.way_at (by omega) hx
        refine ⟨n :: r, by rw [hc, hr]; simp, fun y hy => ?_⟩
        rcases List.mem_cons.1 hy with rfl | hy
        · refine ⟨by omega, ?_⟩
          -- the parent is x or lies ahead of it
          have hp : par l y.toNat ∈ way l (par l y.toNat) := by rw [T.way_cons (by omega) (by omega)]; simp
          rw [hr] at hp
          rcases List.mem_append.1 hp with hp | hp
          · have := (hb _ hp).2; omega
          · have := (T.way_at (by omega) hp).2
            have e : par l y.toNat = x := by omega
            rw [← e]; exact h2
        · exact hb y hy
theorem Tree.before (T : Tree l) {n x : Int} (hl : n < l.length) (hx : x ∈ way l n) : ∃ r, way l n = r ++ way l x ∧ ∀ y ∈ r, x < y ∧ frm l x.toNat < frm l y.toNat := T.way_before (n.toNat + 1) n (by omega) hl x hx
theorem below_iff (l : List Nd) (leaf n : Int) : below l leaf n = true ↔ n ∈ way l leaf := by
  simp [below]
theorem Tree.self (T : Tree l) {n : Int} (h0 : 0 ≤ n) (h1 : n < l.length) : n ∈ way l n := by rw [T.way_cons h0 h1]; simp
theorem leafB_iff (l : List Nd) (n : Int) : leafB l n = true ↔ 0 ≤ n ∧ n < l.length ∧ ∀ x ∈ l, x.p ≠ n := by
  simp [leafB, and_assoc]
theorem find_app {p : Int → Bool} (r s : List Int) (h : ∀ y ∈ r, p y = false) : (r ++ s).find? p = s.find? p := by
  induction r with
  | nil => rfl
  | cons a r ih => simp [List.find?_cons, h a (by simp), ih (fun y hy => h y (by simp [hy]))]
/-- At finds a node of the way; those ahead of it are later. -/
theorem Tree.at_some (T : Tree l) {leaf m : Int} (h0 : 0 ≤ leaf) (h1 : leaf < l.length) (hm : 0 ≤ m) : ∃ n, atN l leaf m = some n ∧ n ∈ way l leaf ∧ frm l n.toNat ≤ m ∧ ∃ r, way l leaf = r ++ way l n ∧ ∀ y ∈ r, m < frm l y.toNat := by
  have hr := T.way_root (leaf.toNat + 1) leaf (by omega) h0 h1
  cases hf : atN l leaf m with
  | none =>
    have := List.find?_eq_none.1 hf 0 hr
    rw [Int.toNat_zero, T.frm0] at this
    simp at this; omega
  | some n =>
    have hn := List.mem_of_find?_eq_some hf
    have hp := List.find?_some hf
    simp only [decide_eq_true_eq] at hp
    obtain ⟨r, hr, hb⟩ := T.before h1 hn
    refine ⟨n, rfl, hn, hp, r, hr, fun y hy => ?_⟩
    -- y stands ahead of n, so find? passed it by
    have hf2 : ((r ++ way l n).find? fun n => decide (frm l n.toNat ≤ m)) = some n := by rw [← hr]; exact hf
    clear hf
    have hy1 := (hb y hy).1
    have hny : y ≠ n := by omega
    have : ∀ (r : List Int), (∀ y ∈ r, n < y) → ((r ++ way l n).find? fun n => decide (frm l n.toNat ≤ m)) = some n → ∀ y ∈ r, m < frm l y.toNat := by
      intro r
      induction r with
      | nil => intro _ _ y hy; cases hy
      | cons a r ih =>
        intro hgt h y hy
        rw [List.cons_append, List.find?_cons] at h
        by_cases ha : frm l a.toNat ≤ m
        · simp [ha] at h
          have := hgt a (by simp); omega
        · simp [ha] at h
          rcases List.mem_cons.1 hy with rfl | hy
          · omega
          · exact ih (fun y hy => hgt y (by simp [hy])) (by simpa using h) y hy
    exact this r (fun y hy => (hb y hy).1) hf2 y hy
theorem at_of (l : List Nd) {leaf m n : Int} {r : List Int} (hr : way l leaf = r ++ way l n) (hb : ∀ y ∈ r, m < frm l y.toNat) : atN l leaf m = atN l n m := by
  unfold atN; rw [hr, find_app]
  intro y hy; simp; exact hb y hy
theorem waySum_app (l : List Nd) (a : Bool) (i m : Int) (r s : List Int) : waySum l a i m (r ++ s) = waySum l a i m r + waySum l a i m s := by
  induction r with
  | nil => simp [waySum]
  | cons x r ih => simp [waySum, ih, Int.add_assoc]
theorem cutSum_zero {a : Bool} {i m : Int} {cs : List Cut} (h : ∀ c ∈ cs, mat a i m c = false) : cutSum a i m cs = 0 := by
  induction cs with
  | nil => rfl
  | cons c r ih => simp [cutSum, h c (by simp), ih (fun x hx => h x (by simp [hx]))]
theorem badC_no {n : Int} {c : Cut} (h : badC n c = false) : n ≤ c.f ∧ c.f < c.t ∧ c.t ≤ 1440 ∧ 0 ≤ c.less ∧ c.less ≤ 64 := by
  simp only [badC, Bool.or_eq_false_iff, Bool.not_eq_false', Bool.and_eq_true, decide_eq_true_eq, decide_eq_false_iff_not] at h
  omega
theorem Tree.sum_late (T : Tree l) {a : Bool} {i m : Int} {r : List Int} (h : ∀ y ∈ r, m < frm l y.toNat) : waySum l a i m r = 0 := by
  induction r with
  | nil => rfl
  | cons x r ih =>
    rw [waySum, ih (fun y hy => h y (by simp [hy])), cutSum_zero]
    · rfl
    · intro c hc
      unfold cutsAt at hc
      split at hc
      · rename_i n hn
        have h1 := badC_no ((T.nd _ _ hn).cut c hc)
        have h2 := h x (by simp)
        rw [frm_at hn] at h2
        simp [mat]; intros; omega
      · cases hc
theorem Tree.less_of (T : Tree l) {leaf n m : Int} {a : Bool} {i : Int} {r : List Int} (hr : way l leaf = r ++ way l n) (hb : ∀ y ∈ r, m < frm l y.toNat) : lessN l leaf a i m = lessN l n a i m := by
  unfold lessN; rw [hr, waySum_app, T.sum_late hb]; omega
/-- The main law: the same node at a minute: the same nodes, and the same reductions, at every minute before. -/
theorem Tree.known (T : Tree l) {a b m e : Int} (ha0 : 0 ≤ a) (ha1 : a < l.length) (hb0 : 0 ≤ b) (hb1 : b < l.length) (hm : 0 ≤ m) (he : e ≤ m) (hab : (atN l a m).getD 0 = (atN l b m).getD 0) (air : Bool) (i : Int) :
    lessN l a air i e = lessN l b air i e ∧ atN l a e = atN l b e := by
  obtain ⟨p, h1, _, _, r, hr, hrb⟩ := T.at_some ha0 ha1 hm
  obtain ⟨q, h2, _, _, s, hs, hsb⟩ := T.at_some hb0 hb1 hm
  rw [h1, h2] at hab
  obtain rfl : p = q := by simpa using hab
  have k1 : ∀ y ∈ r, e < frm l y.toNat := fun y hy => by have := hrb y hy; omega
  have k2 : ∀ y ∈ s, e < frm l y.toNat := fun y hy => by have := hsb y hy; omega
  exact ⟨by rw [T.less_of hr k1, T.less_of hs k2], by rw [at_of l hr k1, at_of l hs k2]⟩
/-- A leaf is below a node exactly if the node is the one at the minute from which on it is known. -/
theorem Tree.below_at (T : Tree l) {leaf s : Int} (h0 : 0 ≤ leaf) (h1 : leaf < l.length) (s0 : 0 ≤ s) (s1 : s < l.length) : below l leaf s = decide (atN l leaf (frm l s.toNat) = some s) := by
  rw [Bool.eq_iff_iff, below_iff, decide_eq_true_eq]
  constructor
  · intro h
    obtain ⟨r, hr, hb⟩ := T.before h1 h
    rw [at_of l hr (fun y hy => (hb y hy).2), atN, T.way_cons s0 s1]
    simp
  · intro h; exact List.mem_of_find?_eq_some h
theorem Tree.frm_nonneg (T : Tree l) {n : Int} (h0 : 0 ≤ n) (h1 : n < l.length) : 0 ≤ frm l n.toNat := by
  have := T.way_root (n.toNat + 1) n (by omega) h0 h1
  obtain ⟨r, hr, hb⟩ := T.before h1 this
  have hs := T.self h0 h1
  rw [hr] at hs
  rcases List.mem_append.1 hs with hs | hs
  · have := (hb n hs).2
    rw [Int.toNat_zero, T.frm0] at this; omega
  · have := T.way_at (by have := T.lo; omega) hs
    obtain rfl : n = 0 := by omega
    rw [Int.toNat_zero, T.frm0]; exact Int.le_refl _
/-- Below each node there is a leaf. -/
theorem Tree.leaf_below (T : Tree l) : ∀ (k : Nat) (n : Int), (l.length : Int) - n ≤ k → 0 ≤ n → n < l.length → ∃ x, leafB l x = true ∧ n ∈ way l x
  | 0, n, h, _, _ => by omega
  | k + 1, n, h, h0, h1 => by
    by_cases hl : leafB l n = true
    · exact ⟨n, hl, T.self h0 h1⟩
    · have : ¬ ∀ x ∈ l, x.p ≠ n := fun h => hl ((leafB_iff l n).2 ⟨h0, h1, h⟩)
      have : ∃ x ∈ l, x.p = n := by
        apply Classical.byContradiction
        intro hne
        exact this fun x hx e => hne ⟨x, hx, e⟩
      obtain ⟨x, hx, hp⟩ := this
      obtain ⟨c, hc, rfl⟩ := List.getElem_of_mem hx
      have hpc := par_at (List.getElem?_eq_getElem hc)
      have h2 := T.par_lt hc
      rw [hpc, hp] at h2
      obtain ⟨y, hy, hw⟩ := Tree.leaf_below T k (c : Int) (by omega) (by omega) (by omega)
      refine ⟨y, hy, ?_⟩
      have hy' := (leafB_iff l y).1 hy
      obtain ⟨r, hr, _⟩ := T.before hy'.2.1 hw
      rw [hr, T.way_cons (by omega) (by omega), Int.toNat_natCast, hpc, hp]
      simp [T.self h0 h1]
theorem mem_leavesIf (l : List Nd) (h : Int → Bool) (n : Int) : n ∈ leavesIf l h ↔ leafB l n = true ∧ h n = true := by
  unfold leavesIf
  simp only [List.mem_filter, List.mem_map, List.mem_range, Bool.and_eq_true]
  constructor
  · exact fun h => h.2
  · intro hh
    obtain ⟨a, b, _⟩ := (leafB_iff l n).1 hh.1
    exact ⟨⟨n.toNat, by omega, by omega⟩, hh⟩
theorem Tree.alive_one (T : Tree l) {n : Int} (h0 : 0 ≤ n) (h1 : n < l.length) : (aliveL l [n]).length ≠ 0 := by
  obtain ⟨x, hx, hw⟩ := T.leaf_below (l.length) n (by omega) h0 h1
  intro h
  have : x ∈ aliveL l [n] := (mem_leavesIf _ _ _).2 ⟨hx, by simp [below_iff, hw]⟩
  rw [List.eq_nil_of_length_eq_zero h] at this; cases this
theorem Tree.some_leaf (T : Tree l) : (leaves l).length ≠ 0 := by
  obtain ⟨x, hx, _⟩ := T.leaf_below (l.length) 0 (by omega) (by omega) (by have := T.lo; omega)
  intro h
  have : x ∈ leaves l := (mem_leavesIf _ _ _).2 ⟨hx, rfl⟩
  rw [List.eq_nil_of_length_eq_zero h] at this; cases this
theorem alive_nil (l : List Nd) : aliveL l [] = leaves l := rfl
theorem alive_filter (l : List Nd) (seen : List Int) : aliveL l seen = (leaves l).filter (fun x => seen.all (below l x)) := by
  simp [aliveL, leaves, leavesIf, List.filter_filter, Bool.and_comm]
/-- Only which nodes were seen matters. -/
theorem alive_same (l : List Nd) (a b : List Int) (h : ∀ n, n ∈ a ↔ n ∈ b) : aliveL l a = aliveL l b := by
  unfold aliveL leavesIf
  congr 1
  funext n
  congr 1
  rw [Bool.eq_iff_iff, List.all_eq_true, List.all_eq_true]
  exact ⟨fun k x hx => k x ((h x).2 hx), fun k x hx => k x ((h x).1 hx)⟩
theorem all_same (p : Int → Bool) (a b : List Int) (h : ∀ n, n ∈ a ↔ n ∈ b) : a.all p = b.all p := by
  rw [Bool.eq_iff_iff, List.all_eq_true, List.all_eq_true]
  exact ⟨fun k x hx => k x ((h x).2 hx), fun k x hx => k x ((h x).1 hx)⟩
theorem aliveR_same (l : List Nd) (a b : List Int) (h : ∀ n, n ∈ a ↔ n ∈ b) : aliveR l a = aliveR l b := by
  unfold aliveR; rw [alive_same l a b h, all_same _ a b h]
end
end Go.Proofs.YtilocjliplmmpaaGreat
/- The children of a node; a cut that is added. In plain Lean. No program in sight. -/
set_option linter.unusedSimpArgs false
set_option linter.unusedVariables false
namespace Go.Proofs.YtilocjliplmmpaaGreat
open Go.RowKit
/-- How many of the numbers below k fulfil Q. -/
def cnt (Q : Nat → Bool) : Nat → Nat
  | 0 => 0
  | k + 1 => cnt Q k + if Q k then 1 else 0
theorem cnt_one {Q : Nat → Bool} {j : Nat} (h : Q j = true) (hu : ∀ i, Q i = true → i = j) : ∀ k, cnt Q k = if j < k then 1 else 0
  | 0 => by simp [cnt]
  | k + 1 => by
    rw [cnt, cnt_one h hu k]
    by_cases e : k = j
    · subst e; simp [h]
    · have : Q k = false := by
        cases hq : Q k with
        | false => rfl
        | true => exact absurd (hu k hq) e
      simp [this]
      by_cases h1 : j < k
      · simp [h1]; omega
      · simp [h1]; omega
theorem cnt_zero {Q : Nat → Bool} : ∀ k, (∀ i < k, Q i = false) → cnt Q k = 0
  | 0, _ => rfl
  | k + 1, h => by simp [cnt, cnt_zero k (fun i hi => h i (by omega)), h k (by omega)]
theorem cnt_pos {Q : Nat → Bool} {j : Nat} (h : Q j = true) : ∀ k, j < k → 0 < cnt Q k
  | 0, hk => by omega
  | k + 1, hk => by
    rw [cnt]
    by_cases e : k = j
    · subst e; simp [h]
    · have := cnt_pos h k (by omega); omega
theorem cnt_le (Q : Nat → Bool) : ∀ k, cnt Q k ≤ k
  | 0 => Nat.le_refl _
  | k + 1 => by have := cnt_le Q k; rw [cnt]; split <;> omega
/-- The children of node n among the first k nodes; the leaves that are below them. -/
def partN (l : List Nd) (n : Int) (k : Nat) : Nat := cnt (fun j => decide (par l j = n)) k
def partS (l : List Nd) (n : Int) : Nat → Nat
  | 0 => 0
  | k + 1 => partS l n k + if par l k = n then (aliveL l [n, (k : Int)]).length else 0
theorem sum_add {α : Type} (L : List α) (f : α → Nat) (p : α → Bool) : (L.map f).sum + (L.filter p).length = (L.map (fun x => f x + if p x then 1 else 0)).sum := by
  induction L with
  | nil => rfl
  | cons x L ih =>
    simp only [List.map_cons, List.sum_cons, List.filter_cons, ← ih]
    cases p x <;> simp <;> omega
theorem sum_filter {α : Type} (L : List α) (p : α → Bool) : (L.filter p).length = (L.map (fun x => if p x then 1 else 0)).sum := by
  induction L with
  | nil => rfl
  | cons x L ih =>
    simp only [List.map_cons, List.sum_cons, List.filter_cons, ← ih]
    cases p x <;> simp <;> omega
theorem map_sum_congr {α : Type} (L : List α) (f g : α → Nat) (h : ∀ x ∈ L, f x = g x) : (L.map f).sum = (L.map g).sum := by
  rw [List.map_congr_left h]
theorem partS_eq (l : List Nd) (n : Int) : ∀ k, partS l n k = ((leaves l).map (fun x => if below l x n then cnt (fun j => decide (par l j = n) && below l x j) k else 0)).sum
  | 0 => by
    simp only [partS, cnt, ite_self]
    generalize leaves l = L
    induction L with
    | nil => rfl
    | cons x L ih => simpa using ih
  | k + 1 => by
    rw [partS, partS_eq l n k]
    by_cases h : par l k = n
    · rw [if_pos h, alive_filter, sum_add]
      apply map_sum_congr
      intro x _
      cases hb : below l x n
      · simp [hb]
      · simp [hb, cnt, h]
    · rw [if_neg h]
      apply map_sum_congr
      intro x _
      simp [cnt, h]
section
variable {l : List Nd}
theorem Tree.child_on (T : Tree l) (n : Int) (hn : 0 ≤ n) : ∀ (k : Nat) (x : Int), x < k → x < l.length → n ∈ way l x → n ≠ x → ∃ c : Nat, c < l.length ∧ par l c = n ∧ (c : Int) ∈ way l x
  | 0, x, h, _, hx, _ => by rw [way_neg (by omega)] at hx; cases hx
  | k + 1, x, h, hl, hx, hne => by
    by_cases hn : x < 0
    · rw [way_neg hn] at hx; cases hx
    · have h1 := T.par_lt (i := x.toNat) (by omega)
      have hc := T.way_cons (by omega) hl
      rw [hc] at hx ⊢
      rcases List.mem_cons.1 hx with e | hx
      · exact absurd e hne
      · by_cases e : n = par l x.toNat
        · exact ⟨x.toNat, by omega, e.symm, by simp; left; omega⟩
        · obtain ⟨c, a, b, d⟩ := Tree.child_on T n ‹_› k _ (by omega) (by omega) hx e
          exact ⟨c, a, b, List.mem_cons_of_mem _ d⟩
theorem Tree.child_one (T : Tree l) {n x : Int} {i j : Nat} (hx : x < l.length) (hi : (i : Int) ∈ way l x) (hj : (j : Int) ∈ way l x) (pi : par l i = n) (pj : par l j = n) : i = j := by
  have key : ∀ {i j : Nat}, (i : Int) ∈ way l x → (j : Int) ∈ way l x → par l i = n → par l j = n → j ≤ i := by
    intro i j hi hj pi pj
    have li := (T.way_at hx hi).2
    have lj := (T.way_at hx hj).2
    obtain ⟨r, hr, hb⟩ := T.before hx hj
    rw [hr] at hi
    rcases List.mem_append.1 hi with hi | hi
    · have := (hb _ hi).1; omega
    · rw [T.way_cons (by omega) (by omega), Int.toNat_natCast, pj] at hi
      rcases List.mem_cons.1 hi with e | hi
      · omega
      · have h1 := T.par_lt (i := j) (by omega)
        have h2 := T.par_lt (i := i) (by omega)
        have := (T.way_at (by omega) hi).2
        omega
  have a := key hi hj pi pj
  have b := key hj hi pj pi
  omega
theorem Tree.parts (T : Tree l) {n : Int} (h0 : 0 ≤ n) (h1 : n < l.length) (hl : leafB l n = false) : 0 < partN l n l.length ∧ partS l n l.length = (aliveL l [n]).length := by
  have hch : ∃ c : Nat, c < l.length ∧ par l c = n := by
    apply Classical.byContradiction
    intro h
    have : leafB l n = true := (leafB_iff l n).2 ⟨h0, h1, fun x hx e => by
      obtain ⟨c, hc, rfl⟩ := List.getElem_of_mem hx
      exact h ⟨c, hc, by rw [par_at (List.getElem?_eq_getElem hc)]; exact e⟩⟩
    rw [hl] at this; cases this
  obtain ⟨c, hc, hp⟩ := hch
  refine ⟨cnt_pos (j := c) (by simp [hp]) _ hc, ?_⟩
  rw [partS_eq, alive_filter, sum_filter]
  apply map_sum_congr
  intro x hx
  have hx2 := ((mem_leavesIf _ _ _).1 hx).1
  obtain ⟨x0, x1, x3⟩ := (leafB_iff l x).1 hx2
  cases hb : below l x n
  · simp [hb]
  · have hw := (below_iff l x n).1 hb
    have hne : n ≠ x := by rintro rfl; rw [hl] at hx2; cases hx2
    obtain ⟨d, d1, d2, d3⟩ := T.child_on n h0 (x.toNat + 1) x (by omega) x1 hw hne
    rw [cnt_one (j := d) (by simp [d2, below_iff, d3]) (fun i hi => by
      simp only [Bool.and_eq_true, decide_eq_true_eq, below_iff] at hi
      exact T.child_one x1 hi.2 d3 hi.1 d2)]
    simp [hb, d1]
theorem Tree.no_parts (T : Tree l) {n : Int} (hl : leafB l n = true) : partN l n l.length = 0 ∧ aliveL l [n] = [n] := by
  obtain ⟨h0, h1, h2⟩ := (leafB_iff l n).1 hl
  have hno : ∀ i : Nat, i < l.length → par l i ≠ n := fun i hi => by
    rw [par_at (List.getElem?_eq_getElem hi)]; exact h2 _ (List.getElem_mem hi)
  refine ⟨cnt_zero _ (fun i hi => by simp [hno i hi]), ?_⟩
  have key : ∀ x, leafB l x = true → (below l x n = decide (x = n)) := by
    intro x hx
    rw [Bool.eq_iff_iff, below_iff, decide_eq_true_eq]
    obtain ⟨x0, x1, _⟩ := (leafB_iff l x).1 hx
    constructor
    · intro h
      apply Classical.byContradiction
      intro hne
      obtain ⟨c, hc, hp, _⟩ := T.child_on n h0 (x.toNat + 1) x (by omega) x1 h (fun e => hne e.symm)
      exact hno c hc hp
    · rintro rfl; exact T.self x0 x1
  -- of the numbers below the length, n alone
  have : ∀ k : Nat, k ≤ l.length → ((List.range k).map (fun i : Nat => (i : Int))).filter (fun x => leafB l x && [n].all (below l x)) = if n < k then [n] else [] := by
    intro k
    induction k with
    | zero => intro _; simp; omega
    | succ k ih =>
      intro hk
      rw [List.range_succ, List.map_append, List.filter_append, ih (by omega)]
      simp only [List.map_cons, List.map_nil, List.filter_cons, List.filter_nil, List.all_cons, List.all_nil, Bool.and_true]
      by_cases e : (k : Int) = n
      · rw [e, hl, key n hl]; simp; omega
      · have : (leafB l k && below l k n) = false := by
          cases hb : leafB l (k : Int) with
          | false => rfl
          | true => rw [key _ hb]; simp [e]
        rw [this]
        by_cases h : n < k
        · simp [h]; omega
        · have : ¬ n < ((k + 1 : Nat) : Int) := by omega
          simp [h]; omega
  have h3 := this l.length (Nat.le_refl _)
  rw [if_pos h1] at h3
  exact h3
theorem leaves_le (l : List Nd) (h : Int → Bool) : (leavesIf l h).length ≤ l.length := by
  unfold leavesIf
  refine Nat.le_trans (List.length_filter_le _ _) ?_
  simp
theorem partS_le (l : List Nd) (n : Int) : ∀ k, partS l n k ≤ k * l.length
  | 0 => by simp [partS]
  | k + 1 => by
    have := partS_le l n k
    have := leaves_le l (fun x => [n, (k : Int)].all (below l x))
    rw [partS, Nat.add_mul]
    split
    · unfold aliveL; omega
    · omega
/-- A cut more at one node. -/
def addCut (l : List Nd) (i : Nat) (A : Option Addr) (c : Nat) (x : Cut) : List Nd := match l[i]? with | some n => l.set i ⟨n.p, n.f, ⟨A, c, n.cuts.l ++ [x]⟩⟩ | none => l
section
variable {i : Nat} {A : Option Addr} {c : Nat} {x : Cut}
theorem add_get (hi : i < l.length) (j : Nat) : (addCut l i A c x)[j]? = if j = i then some ⟨l[i].p, l[i].f, ⟨A, c, l[i].cuts.l ++ [x]⟩⟩ else l[j]? := by
  simp only [addCut, List.getElem?_eq_getElem hi, List.getElem?_set]
  by_cases e : i = j
  · subst e; simp [hi]
  · have e2 : ¬ j = i := fun h => e h.symm
    simp [e, e2]
theorem add_len (l : List Nd) (i : Nat) : (addCut l i A c x).length = l.length := by
  unfold addCut; split <;> simp
theorem add_par (hi : i < l.length) (j : Nat) : par (addCut l i A c x) j = par l j := by
  simp only [par, add_get hi]
  by_cases e : j = i
  · subst e; simp [List.getElem?_eq_getElem hi]
  · simp [e]
theorem add_frm (hi : i < l.length) (j : Nat) : frm (addCut l i A c x) j = frm l j := by
  simp only [frm, add_get hi]
  by_cases e : j = i
  · subst e; simp [List.getElem?_eq_getElem hi]
  · simp [e]
theorem add_way (hi : i < l.length) (n : Int) : way (addCut l i A c x) n = way l n := by
  unfold way
  generalize 33 = k
  induction k generalizing n with
  | zero => rfl
  | succ k ih => simp only [wayG, add_par hi, ih]
theorem leafB_par (l : List Nd) (n : Int) : leafB l n = (decide (0 ≤ n) && decide (n < l.length) && !((List.range l.length).any fun j => decide (par l j = n))) := by
  unfold leafB
  congr 2
  rw [Bool.eq_iff_iff, List.any_eq_true, List.any_eq_true]
  constructor
  · rintro ⟨y, hy, h⟩
    obtain ⟨j, hj, rfl⟩ := List.getElem_of_mem hy
    exact ⟨j, List.mem_range.2 hj, by rw [par_at (List.getElem?_eq_getElem hj)]; exact h⟩
  · rintro ⟨j, hj, h⟩
    have hj := List.mem_range.1 hj
    rw [par_at (List.getElem?_eq_getElem hj)] at h
    exact ⟨_, List.getElem_mem hj, h⟩
theorem add_leaf (hi : i < l.length) (n : Int) : leafB (addCut l i A c x) n = leafB l n := by
  simp only [leafB_par, add_len, add_par hi]
theorem cutSum_app (a : Bool) (ix m : Int) (u v : List Cut) : cutSum a ix m (u ++ v) = cutSum a ix m u + cutSum a ix m v := by
  induction u with
  | nil => simp [cutSum]
  | cons y u ih => simp [cutSum, ih, Int.add_assoc]
theorem add_cuts (hi : i < l.length) (y : Int) (hy : 0 ≤ y) : cutsAt (addCut l i A c x) y = if y = i then cutsAt l y ++ [x] else cutsAt l y := by
  unfold cutsAt
  rw [add_get hi]
  by_cases e : y = i
  · have : y.toNat = i := by omega
    simp [this, List.getElem?_eq_getElem hi, e]
  · have : ¬ y.toNat = i := by omega
    simp [this, e]
theorem waySum_other (hi : i < l.length) {a : Bool} {ix m : Int} {r : List Int} (h : ∀ y ∈ r, 0 ≤ y ∧ y ≠ i) : waySum (addCut l i A c x) a ix m r = waySum l a ix m r := by
  induction r with
  | nil => rfl
  | cons y r ih =>
    have := h y (by simp)
    rw [waySum, waySum, ih (fun z hz => h z (by simp [hz])), add_cuts hi y this.1, if_neg this.2]
theorem Tree.add_less (T : Tree l) (hi : i < l.length) {leaf : Int} (h0 : 0 ≤ leaf) (h1 : leaf < l.length) (a : Bool) (ix m : Int) :
    lessN (addCut l i A c x) leaf a ix m = lessN l leaf a ix m + (if below l leaf i && mat a ix m x then x.less else 0) := by
  unfold lessN
  rw [add_way hi]
  cases hb : below l leaf i
  · rw [waySum_other hi]
    · simp
    · intro y hy
      refine ⟨(T.way_at h1 hy).1, fun e => ?_⟩
      rw [e, ← below_iff, hb] at hy; cases hy
  · obtain ⟨r, hr, hlt⟩ := T.before h1 ((below_iff _ _ _).1 hb)
    rw [hr, waySum_app, waySum_app, T.way_cons (by omega) (by omega)]
    have h2 := T.par_lt hi
    rw [waySum_other hi (r := r) (fun y hy => by have := (hlt y hy).1; omega)]
    simp only [waySum]
    rw [waySum_other hi (r := way l _) (fun y hy => by have := T.way_at (by simp; omega) hy; simp at this; omega), add_cuts hi _ (by omega), if_pos rfl, cutSum_app]
    simp only [cutSum, Bool.true_and]
    cases mat a ix m x <;> simp <;> omega
end
theorem Tree.cutSum_le (T : Tree l) {y : Int} (a : Bool) (ix m : Int) (k : Nat) : 0 ≤ cutSum a ix m ((cutsAt l y).take k) ∧ cutSum a ix m ((cutsAt l y).take k) ≤ 4096 := by
  have key : ∀ cs : List Cut, (∀ c ∈ cs, 0 ≤ c.less ∧ c.less ≤ 64) → 0 ≤ cutSum a ix m cs ∧ cutSum a ix m cs ≤ 64 * cs.length := by
    intro cs
    induction cs with
    | nil => intro _; simp [cutSum]
    | cons c cs ih =>
      intro h
      obtain ⟨p, q⟩ := ih (fun z hz => h z (by simp [hz]))
      obtain ⟨u, v⟩ := h c (by simp)
      rw [cutSum, List.length_cons]
      split <;> omega
  have hb : ∀ c ∈ (cutsAt l y).take k, 0 ≤ c.less ∧ c.less ≤ 64 := by
    intro c hc
    have hc := List.mem_of_mem_take hc
    unfold cutsAt at hc
    split at hc
    · rename_i n hn
      have := badC_no ((T.nd _ _ hn).cut c hc); omega
    · cases hc
  have hl : ((cutsAt l y).take k).length ≤ 64 := by
    refine Nat.le_trans (List.length_take_le' _ _) ?_
    unfold cutsAt
    split
    · rename_i n hn; exact (T.nd _ _ hn).many
    · simp
  have := key _ hb
  omega
theorem Tree.waySum_le (T : Tree l) (a : Bool) (ix m : Int) : ∀ r : List Int, 0 ≤ waySum l a ix m r ∧ waySum l a ix m r ≤ 4096 * r.length
  | [] => by simp [waySum]
  | y :: r => by
    have := Tree.waySum_le T a ix m r
    have h := T.cutSum_le (y := y) a ix m (cutsAt l y).length
    rw [List.take_length] at h
    rw [waySum, List.length_cons]; omega
theorem wayG_len (l : List Nd) : ∀ (k : Nat) (n : Int), (wayG l k n).length ≤ k
  | 0, _ => by simp [wayG]
  | k + 1, n => by
    unfold wayG
    split
    · simp
    · have := wayG_len l k (par l n.toNat)
      simp; omega
theorem way_len (l : List Nd) (n : Int) : (way l n).length ≤ 33 := wayG_len l 33 n
end
end Go.Proofs.YtilocjliplmmpaaGreat
/- The capacity of a cell, in plain Lean. No program in sight. -/
set_option linter.unusedSimpArgs false
set_option linter.unusedVariables false
namespace Go.Proofs.YtilocjliplmmpaaGreat
def manyOf (t : Tab) (a : Bool) : Nat := if a then t.ms.l.length else t.ss.l.length
def modeAt (t : Tab) (now : Chg) (i : Int) : Int :=
  match t.ms.l[i.toNat]?, now.ms.l[i.toNat]? with
  | some l, some k => (l.l[k.toNat]?).getD 0
  | _, _ => 0
/-- What the forecast takes from volumes. -/
def vcuts (tree : List Nd) (leaf m : Int) : List Int → Int
  | [] => 0
  | v :: r => lessN tree leaf false v m + vcuts tree leaf m r
def seenAll (seen : List Bool) (vs : List Int) : Bool := vs.all (fun v => (seen[v.toNat]?).getD false)
def placesR (t : Tab) (tree : List Nd) (leaf : Int) (now : Chg) (seen : List Bool) (c : Cel) : Int :=
  if c.air then max 0 (modeAt t now c.ix - lessN tree leaf true c.ix c.mi)
  else match t.cs.l[now.cfg.toNat]?, t.ss.l[c.ix.toNat]? with
    | some g, some x => if g.ss.l.any (· == c.ix) then max 0 ((if seenAll seen x.vs.l then x.rad else x.pro) - vcuts tree leaf c.mi x.vs.l) else 0
    | _, _ => 0
def ofE (t : Tab) (tree : List Nd) (leaf : Int) (l : List Chg) (n : Nat) (c : Cel) : Int :=
  if chkS t l ≠ 0 then chkS t l else if vld tree = false then 180
  else if leafB tree leaf = false ∨ (n : Int) ≠ t.n ∨ c.mi < 0 ∨ 1440 ≤ c.mi ∨ c.ix < 0 ∨ (manyOf t c.air : Int) ≤ c.ix then 190 else 0
def ofN (t : Tab) (tree : List Nd) (leaf : Int) (l : List Chg) (seen : List Bool) (c : Cel) : Int :=
  if ofE t tree leaf l seen.length c = 0 then (match inS l c.mi with | some now => placesR t tree leaf now seen c | none => 0) else 0
structure OfOk (t : Tab) (tree : List Nd) (leaf : Int) (l : List Chg) (n : Nat) (c : Cel) : Prop where
  tab : chkT t = 0
  vs : VS t l
  tr : vld tree = true
  lf : leafB tree leaf = true
  sn : (n : Int) = t.n
  m0 : 0 ≤ c.mi
  m1 : c.mi < 1440
  i0 : 0 ≤ c.ix
  i1 : c.ix < (manyOf t c.air : Int)
theorem chkS_ok {t : Tab} {l : List Chg} : chkS t l = 0 ↔ chkT t = 0 ∧ VS t l := by
  unfold chkS
  constructor
  · intro h
    split at h
    · rename_i q; exact absurd h q
    · rename_i q
      split at h
      · rename_i r; exact ⟨by simpa using q, vldS_iff.1 r⟩
      · cases h
  · rintro ⟨h1, h2⟩
    rw [if_neg (by simpa using h1), if_pos (vldS_iff.2 h2)]
theorem ofE_ok {t : Tab} {tree : List Nd} {leaf : Int} {l : List Chg} {n : Nat} {c : Cel} : ofE t tree leaf l n c = 0 ↔ OfOk t tree leaf l n c := by
  unfold ofE
  constructor
  · intro h
    split at h
    · rename_i q; exact absurd h q
    · rename_i q
      obtain ⟨h1, h2⟩ := chkS_ok.1 (by simpa using q)
      split at h
      · cases h
      · rename_i r
        split at h
        · cases h
        · rename_i s
          simp only [ne_eq, not_or, Bool.not_eq_false, Decidable.not_not, Int.not_lt, Int.not_le] at s r
          obtain ⟨s1, s2, s3, s4, s5, s6⟩ := s
          exact ⟨h1, h2, r, s1, s2, s3, s4, s5, s6⟩
  · rintro ⟨h1, h2, h3, h4, h5, h6, h7, h8, h9⟩
    rw [if_neg (by simpa using chkS_ok.2 ⟨h1, h2⟩), if_neg (by simp [h3]), if_neg]
    simp only [ne_eq, not_or, Bool.not_eq_false, Decidable.not_not, Int.not_lt, Int.not_le]
    exact ⟨h4, h5, h6, h7, h8, h9⟩
/-- What valid tables say. -/
structure TabOk (t : Tab) : Prop where
  n0 : 1 ≤ t.n
  n1 : t.n ≤ 64
  div : divT t.n.toNat t.ss.l t.cs.l = true
  sec : ∀ s ∈ t.ss.l, 0 ≤ s.rad ∧ s.rad ≤ 64 ∧ 0 ≤ s.pro ∧ s.pro ≤ s.rad
  mod : ∀ l ∈ t.ms.l, ∀ n ∈ l.l, 0 ≤ n ∧ n ≤ 64
theorem inn_iff {n a b : Int} : inn n a b = true ↔ a ≤ n ∧ n ≤ b := by simp [inn]
theorem tab_ok {t : Tab} (h : chkT t = 0) : TabOk t := by
  unfold chkT at h
  split at h
  · rename_i q
    simp only [Bool.and_eq_true, decide_eq_true_eq, List.all_eq_true] at q
    obtain ⟨⟨⟨⟨⟨⟨⟨⟨q1, q2⟩, q3⟩, q4⟩, q5⟩, q6⟩, q7⟩, q8⟩, q9⟩ := q
    rw [inn_iff] at q1
    refine ⟨q1.1, q1.2, q2, fun s hs => ?_, fun l hl n hn => ?_⟩
    · have := q3 s hs
      simp only [secB, Bool.and_eq_true, inn_iff] at this
      exact ⟨this.1.1, this.1.2, this.2.1, this.2.2⟩
    · have := q5 l hl
      simp only [modeB, Bool.and_eq_true, List.all_eq_true, plcB, inn_iff] at this
      exact this.2 n hn
  · cases h
theorem TabOk.mode {t : Tab} (h : TabOk t) (now : Chg) (i : Int) : 0 ≤ modeAt t now i ∧ modeAt t now i ≤ 64 := by
  unfold modeAt
  split
  · rename_i l k hl hk
    cases hq : l.l[k.toNat]? with
    | none => simp
    | some z => exact h.mod l (List.mem_of_getElem? hl) z (List.mem_of_getElem? hq)
  · simp
theorem less_pos {tree : List Nd} (h : vld tree = true) (leaf : Int) (a : Bool) (i m : Int) : 0 ≤ lessN tree leaf a i m ∧ lessN tree leaf a i m ≤ 135168 := by
  have := (tree_of h).waySum_le a i m (way tree leaf)
  have h2 := way_len tree leaf
  unfold lessN
  omega
theorem vcuts_pos {tree : List Nd} (h : vld tree = true) (leaf m : Int) : ∀ vs : List Int, 0 ≤ vcuts tree leaf m vs ∧ vcuts tree leaf m vs ≤ 135168 * vs.length
  | [] => by simp [vcuts]
  | v :: r => by
    have h1 := vcuts_pos h leaf m r
    have h2 := less_pos h leaf false v m
    simp only [vcuts, List.length_cons]
    omega
/-- Places are between 0 and what the tables may say. -/
theorem places_rng {t : Tab} {tree : List Nd} (ht : TabOk t) (hv : vld tree = true) (leaf : Int) (now : Chg) (seen : List Bool) (c : Cel) : 0 ≤ placesR t tree leaf now seen c ∧ placesR t tree leaf now seen c ≤ 64 := by
  unfold placesR
  split
  · have h1 := ht.mode now c.ix
    have h2 := less_pos hv leaf true c.ix c.mi
    omega
  · split
    · rename_i g x hg hx
      split
      · have h1 := ht.sec x (List.mem_of_getElem? hx)
        have h2 := vcuts_pos hv leaf c.mi x.vs.l
        split <;> omega
      · simp
    · simp
theorem places_more {t : Tab} {tree : List Nd} (ht : TabOk t) (leaf : Int) (now : Chg) {seen better : List Bool} (c : Cel) (h : ∀ vs, seenAll seen vs = true → seenAll better vs = true) :
    placesR t tree leaf now seen c ≤ placesR t tree leaf now better c := by
  unfold placesR
  split
  · exact Int.le_refl _
  · split
    · rename_i g x hg hx
      split
      · have h1 := ht.sec x (List.mem_of_getElem? hx)
        cases e : seenAll seen x.vs.l
        · cases e' : seenAll better x.vs.l <;> simp <;> omega
        · rw [h _ e]; simp
      · exact Int.le_refl _
    · exact Int.le_refl _
def bareL (l : List Nd) : List Nd := l.map (fun n => { n with cuts := ⟨none, 0, []⟩ })
theorem bare_len (l : List Nd) : (bareL l).length = l.length := by simp [bareL]
theorem bare_get (l : List Nd) (j : Nat) : (bareL l)[j]? = (l[j]?).map (fun n => { n with cuts := ⟨none, 0, []⟩ }) := by simp [bareL]
theorem bare_par (l : List Nd) (j : Nat) : par (bareL l) j = par l j := by
  unfold par; rw [bare_get]; cases l[j]? <;> rfl
theorem bare_frm (l : List Nd) (j : Nat) : frm (bareL l) j = frm l j := by
  unfold frm; rw [bare_get]; cases l[j]? <;> rfl
theorem bare_way (l : List Nd) : ∀ (k : Nat) (n : Int), wayG (bareL l) k n = wayG l k n
  | 0, _ => rfl
  | k + 1, n => by simp only [wayG, bare_par, bare_way l k]
theorem bare_leaf (l : List Nd) (n : Int) : leafB (bareL l) n = leafB l n := by
  rw [leafB_par, leafB_par, bare_len]
  simp only [bare_par]
theorem bare_sum (l : List Nd) (a : Bool) (i m : Int) : ∀ r : List Int, waySum (bareL l) a i m r = 0
  | [] => rfl
  | n :: r => by
    simp only [waySum, bare_sum l a i m r]
    unfold cutsAt
    rw [bare_get]
    cases l[n.toNat]? <;> rfl
theorem bare_less (l : List Nd) (leaf : Int) (a : Bool) (i m : Int) : lessN (bareL l) leaf a i m = 0 := bare_sum l a i m _
theorem bare_vcuts (l : List Nd) (leaf m : Int) : ∀ vs, vcuts (bareL l) leaf m vs = 0
  | [] => rfl
  | v :: r => by simp only [vcuts, bare_less, bare_vcuts l leaf m r]; rfl
theorem bare_vld {l : List Nd} (h : vld l = true) : vld (bareL l) = true := by
  rw [vld_iff] at h ⊢
  obtain ⟨h1, h2, h3⟩ := h
  refine ⟨by rw [bare_len]; exact h1, by rw [bare_len]; exact h2, fun i n hn => ?_⟩
  rw [bare_get] at hn
  obtain ⟨x, hx, rfl⟩ := Option.map_eq_some_iff.1 hn
  obtain ⟨a, b, c, d, e⟩ := h3 i x hx
  refine ⟨a, fun q => by rw [bare_frm]; exact b q, fun j y hj hji hy hp => ?_, by simp, by simp⟩
  rw [bare_get] at hy
  obtain ⟨z, hz, rfl⟩ := Option.map_eq_some_iff.1 hy
  exact c j z hj hji hz hp
theorem OfOk.bare {t : Tab} {tree : List Nd} {leaf : Int} {l : List Chg} {n : Nat} {c : Cel} (h : OfOk t tree leaf l n c) : OfOk t (bareL tree) leaf l n c :=
  ⟨h.tab, h.vs, bare_vld h.tr, (bare_leaf tree leaf).trans h.lf, h.sn, h.m0, h.m1, h.i0, h.i1⟩
theorem places_bare {t : Tab} {tree : List Nd} (ht : TabOk t) (hv : vld tree = true) (leaf : Int) (now : Chg) (seen : List Bool) (c : Cel) :
    placesR t tree leaf now seen c ≤ placesR t (bareL tree) leaf now seen c ∧
    (c.air = true → placesR t tree leaf now seen c = max 0 (placesR t (bareL tree) leaf now seen c - lessN tree leaf true c.ix c.mi)) ∧
    (c.air = false → ∀ x, t.ss.l[c.ix.toNat]? = some x → placesR t tree leaf now seen c = max 0 (placesR t (bareL tree) leaf now seen c - vcuts tree leaf c.mi x.vs.l)) := by
  have hb := less_pos hv leaf true c.ix c.mi
  have hm := ht.mode now c.ix
  unfold placesR
  rw [bare_less]
  simp only [bare_vcuts]
  cases ha : c.air
  · simp only [Bool.false_eq_true, if_false, false_implies, true_and, true_implies]
    split
    · rename_i g x hg hx
      have h1 := ht.sec x (List.mem_of_getElem? hx)
      have h2 := vcuts_pos hv leaf c.mi x.vs.l
      refine ⟨?_, fun y hy => ?_⟩
      · split
        · split <;> omega
        · omega
      · cases hx.symm.trans hy
        split
        · split <;> omega
        · omega
    · rename_i hn
      refine ⟨Int.le_refl _, fun x hx => ?_⟩
      have h2 := vcuts_pos hv leaf c.mi x.vs.l
      omega
  · simp only [if_true, true_implies, Bool.true_eq_false, false_implies, and_true]
    constructor <;> omega
theorem OfOk.now {t : Tab} {tree : List Nd} {leaf : Int} {l : List Chg} {n : Nat} {c : Cel} (h : OfOk t tree leaf l n c) : ∃ now, inS l c.mi = some now ∧ now ∈ l := h.vs.at_ h.m0
theorem ofN_ok {t : Tab} {tree : List Nd} {leaf : Int} {l : List Chg} {seen : List Bool} {c : Cel} (h : OfOk t tree leaf l seen.length c) {now : Chg} (hn : inS l c.mi = some now) : ofN t tree leaf l seen c = placesR t tree leaf now seen c := by
  unfold ofN
  rw [if_pos (ofE_ok.2 h), hn]
theorem ofN_no {t : Tab} {tree : List Nd} {leaf : Int} {l : List Chg} {seen : List Bool} {c : Cel} (h : ofE t tree leaf l seen.length c ≠ 0) : ofN t tree leaf l seen c = 0 := by
  unfold ofN
  rw [if_neg h]
end Go.Proofs.YtilocjliplmmpaaGreat
/- The examples of the chapter. No program in sight. -/
set_option linter.unusedSimpArgs false
set_option linter.unusedVariables false
namespace Go.Proofs.YtilocjliplmmpaaGreat
def exT (a : Nat → Option Addr) : Tab :=
  { n := 2
    ss := ⟨a 0, 3, [⟨⟨#[]⟩, ⟨none, 0, 0⟩, ⟨a 1, 2, [0, 1]⟩, 3, 2⟩, ⟨⟨#[]⟩, ⟨none, 0, 0⟩, ⟨a 2, 1, [0]⟩, 2, 1⟩, ⟨⟨#[]⟩, ⟨none, 0, 0⟩, ⟨a 3, 1, [1]⟩, 5, 4⟩]⟩
    cs := ⟨a 4, 2, [⟨⟨#[]⟩, ⟨none, 0, 0⟩, ⟨a 5, 1, [0]⟩⟩, ⟨⟨#[]⟩, ⟨none, 0, 0⟩, ⟨a 6, 2, [1, 2]⟩⟩]⟩
    ws := ⟨a 7, 1, [⟨0, 1, ⟨a 8, 2, [⟨0, 0, 10, ⟨a 9, 1, [⟨0, 1440⟩]⟩⟩, ⟨1, 1, 10, ⟨a 9, 1, [⟨0, 1440⟩]⟩⟩]⟩⟩]⟩
    ms := ⟨a 10, 2, [⟨a 11, 2, [4, 2]⟩, ⟨a 12, 1, [6]⟩]⟩
    ks := ⟨a 13, 1, [⟨1, 2, 1, 1, 60, ⟨a 14, 2, [⟨none, 0, []⟩, ⟨none, 0, []⟩]⟩⟩]⟩ }
def exC1 (A : Option Addr) : Chg := ⟨0, 0, ⟨A, 2, [0, 0]⟩⟩
def exC2 (A : Option Addr) : Chg := ⟨600, 1, ⟨A, 2, [1, 0]⟩⟩
def exN (A : Option Addr) : List Nd := [⟨-1, 0, ⟨A, 1, [⟨true, 0, 0, 10, 3⟩]⟩⟩]
variable (a : Nat → Option Addr) (A B C : Option Addr)
theorem ex0 : chkT (exT a) = 0 := by kernel_rfl
theorem ex1 : addE (exT a) [] (exC1 A) = 0 := by kernel_rfl
theorem ex2 : addL (exT a) [] (exC1 A) = [exC1 A] := by kernel_rfl
theorem ex3 : addE (exT a) [exC1 A] (exC2 B) = 0 := by kernel_rfl
theorem ex4 : addL (exT a) [exC1 A] (exC2 B) = [exC1 A, exC2 B] := by kernel_rfl
theorem ex5 : addE (exT a) [] (exC2 B) = 190 := by kernel_rfl
theorem ex6 : addL (exT a) [] (exC2 B) = [] := by kernel_rfl
theorem ex7 : inS [exC1 A, exC2 B] 599 = some (exC1 A) := by kernel_rfl
theorem ex8 : inS [exC1 A, exC2 B] 600 = some (exC2 B) := by kernel_rfl
theorem ex9 : inS [] 0 = none := by kernel_rfl
theorem ex10 : secR (exT a) [exC1 A, exC2 B] 1 600 = some 2 := by kernel_rfl
theorem ex11 : secR (exT a) [] 0 0 = none := by kernel_rfl
theorem ex12 : ofN (exT a) (exN C) 0 [exC1 A, exC2 B] [true, false] ⟨false, 0, 5⟩ = 2 := by kernel_rfl
theorem ex13 : ofE (exT a) (exN C) 0 [exC1 A, exC2 B] 2 ⟨false, 0, 5⟩ = 0 := by kernel_rfl
theorem ex14 : ofN (exT a) (exN C) 0 [exC1 A, exC2 B] [true, true] ⟨false, 0, 600⟩ = 0 := by kernel_rfl
theorem ex15 : ofE (exT a) (exN C) 0 [exC1 A, exC2 B] 2 ⟨false, 0, 600⟩ = 0 := by kernel_rfl
theorem ex16 : ofN (exT a) (exN C) 0 [exC1 A, exC2 B] [true, true] ⟨true, 0, 9⟩ = 1 := by kernel_rfl
theorem ex17 : ofE (exT a) (exN C) 0 [exC1 A, exC2 B] 2 ⟨true, 0, 9⟩ = 0 := by kernel_rfl
theorem ex18 : ofE (exT a) (exN C) 1 [exC1 A, exC2 B] 2 ⟨false, 0, 0⟩ = 190 := by kernel_rfl
theorem ex19 : ofN (exT a) (exN C) 1 [exC1 A, exC2 B] [true, true] ⟨false, 0, 0⟩ = 0 := by kernel_rfl
theorem ex20 : chkS (exT a) [] = 190 := by kernel_rfl
theorem ex21 : chkS (exT a) [exC1 A, exC2 B] = 0 := by kernel_rfl
end Go.Proofs.YtilocjliplmmpaaGreat
