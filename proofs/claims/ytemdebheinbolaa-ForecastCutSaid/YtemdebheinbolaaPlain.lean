/- The tree of a forecast in plain Lean. No program in sight. -/
import Derived.Test.YtemdebheinbolaaRd
namespace Go.Proofs.Ytemdebheinbolaa
open Go.RowKit
structure Cut where
  air : Bool
  ix : Int
  f : Int
  t : Int
  less : Int
structure Nd where
  p : Int
  f : Int
  cuts : SliceOf Cut
/-- Is a cut wrong for a node that is known from 'from_' on? -/
def badC (n : Int) (c : Cut) : Bool := !(decide (0 ≤ c.ix) && decide (c.ix ≤ (if c.air then 15 else 63))) || !(decide (0 ≤ c.less) && decide (c.less ≤ 64)) || decide (c.f < n) || decide (c.t ≤ c.f) || decide (1440 < c.t)
/-- From of node j (0 if there is none). -/
def frm (l : List Nd) (j : Nat) : Int := match l[j]? with | some n => n.f | none => 0
def par (l : List Nd) (j : Nat) : Int := match l[j]? with | some n => n.p | none => -1
/-- A node before this one, not the root, with this parent and another From. -/
def clash (l : List Nd) (i : Nat) (n : Nd) : Bool := (List.range i).any fun j => decide (1 ≤ j) && decide (par l j = n.p) && decide (frm l j ≠ n.f)
def okP (l : List Nd) (i : Nat) (n : Nd) : Bool :=
  if i = 0 then decide (n.p = -1) && decide (n.f = 0) else decide (0 ≤ n.p) && decide (n.p < i) && decide (frm l n.p.toNat < n.f) && decide (n.f < 1440)
def okN (l : List Nd) (i : Nat) (n : Nd) : Bool := okP l i n && !clash l i n && !(n.cuts.l.any (badC n.f)) && decide (n.cuts.l.length ≤ 64)
def okI (l : List Nd) (i : Nat) : Bool := match l[i]? with | some n => okN l i n | none => true
def vld (l : List Nd) : Bool := decide (1 ≤ l.length) && decide (l.length ≤ 32) && (List.range l.length).all (okI l)
def chkE (l : List Nd) : Int := if vld l then 0 else 180
def leafB (l : List Nd) (n : Int) : Bool := decide (0 ≤ n) && decide (n < l.length) && !(l.any fun x => decide (x.p = n))
def leavesIf (l : List Nd) (h : Int → Bool) : List Int := ((List.range l.length).map (fun i : Nat => (i : Int))).filter (fun n => leafB l n && h n)
def leaves (l : List Nd) : List Int := leavesIf l (fun _ => true)
/-- The way to a node. -/
def wayG (l : List Nd) : Nat → Int → List Int
  | 0, _ => []
  | k + 1, n => if n < 0 then [] else n :: wayG l k (par l n.toNat)
def way (l : List Nd) (n : Int) : List Int := wayG l 33 n
def atN (l : List Nd) (leaf m : Int) : Option Int := (way l leaf).find? (fun n => decide (frm l n.toNat ≤ m))
def below (l : List Nd) (leaf n : Int) : Bool := (way l leaf).any (fun x => decide (x = n))
def inT (l : List Nd) (n : Int) : Bool := decide (0 ≤ n) && decide (n < l.length)
def aliveL (l : List Nd) (seen : List Int) : List Int := leavesIf l (fun x => seen.all (below l x))
def mat (a : Bool) (i m : Int) (c : Cut) : Bool := (c.air == a) && decide (c.ix = i) && decide (c.f ≤ m) && decide (m < c.t)
def cutSum (a : Bool) (i m : Int) : List Cut → Int
  | [] => 0
  | c :: r => (if mat a i m c then c.less else 0) + cutSum a i m r
def cutsAt (l : List Nd) (n : Int) : List Cut := match l[n.toNat]? with | some x => x.cuts.l | none => []
def waySum (l : List Nd) (a : Bool) (i m : Int) : List Int → Int
  | [] => 0
  | n :: r => cutSum a i m (cutsAt l n) + waySum l a i m r
def lessN (l : List Nd) (leaf : Int) (a : Bool) (i m : Int) : Int := waySum l a i m (way l leaf)
def atR (l : List Nd) (leaf m : Int) : Int × Int := if vld l && leafB l leaf && decide (0 ≤ m) then ((atN l leaf m).getD 0, 0) else (0, 180)
def aliveR (l : List Nd) (seen : List Int) : List Int × Int :=
  if vld l && seen.all (inT l) then (if (aliveL l seen).length = 0 then ([], 181) else (aliveL l seen, 0)) else ([], 180)
def lessR (l : List Nd) (leaf : Int) (a : Bool) (i m : Int) : Int × Int := if vld l && leafB l leaf then (lessN l leaf a i m, 0) else (0, 180)
def fewT (l : List Nd) : Bool := decide (l.length ≤ 40) && decide ((l.map (fun n => n.cuts.l.length)).sum ≤ 100)

/-- What a valid tree says of a node. -/
structure Node (l : List Nd) (i : Nat) (n : Nd) : Prop where
  root : i = 0 → n.p = -1 ∧ n.f = 0
  par0 : 0 < i → 0 ≤ n.p ∧ n.p < i ∧ frm l n.p.toNat < n.f ∧ n.f < 1440
  same : ∀ j x, 0 < j → j < i → l[j]? = some x → x.p = n.p → x.f = n.f
  cut : ∀ c ∈ n.cuts.l, badC n.f c = false
  many : n.cuts.l.length ≤ 64
theorem par_at {l : List Nd} {j : Nat} {x : Nd} (h : l[j]? = some x) : par l j = x.p := by simp [par, h]
theorem frm_at {l : List Nd} {j : Nat} {x : Nd} (h : l[j]? = some x) : frm l j = x.f := by simp [frm, h]
theorem okN_iff (l : List Nd) (i : Nat) (n : Nd) (hi : i ≤ l.length) : okN l i n = true ↔ Node l i n := by
  constructor
  · intro h
    simp only [okN, Bool.and_eq_true, Bool.not_eq_true', decide_eq_true_eq] at h
    obtain ⟨⟨⟨h1, h2⟩, h3⟩, h4⟩ := h
    refine ⟨fun e => ?_, fun e => ?_, fun j x j0 ji hx hp => ?_, fun c hc => ?_, h4⟩
    · simpa [okP, e] using h1
    · simp only [okP, if_neg (Nat.ne_of_gt e), Bool.and_eq_true, decide_eq_true_eq] at h1
      exact ⟨h1.1.1.1, h1.1.1.2, h1.1.2, h1.2⟩
    · have := (List.any_eq_false.1 h2) j (List.mem_range.2 ji)
      rw [par_at hx, frm_at hx] at this
      simp [hp] at this
      exact this (by omega)
    · simpa using (List.any_eq_false.1 h3) c hc
  · intro h
    simp only [okN, Bool.and_eq_true, Bool.not_eq_true', decide_eq_true_eq]
    refine ⟨⟨⟨?_, ?_⟩, ?_⟩, h.many⟩
    · unfold okP
      split
      · rename_i e; obtain ⟨a, b⟩ := h.root e; simp [a, b]
      · rename_i e; obtain ⟨a, b, c, d⟩ := h.par0 (by omega); simp [a, b, c, d]
    · refine List.any_eq_false.2 fun j hj => ?_
      have hj' := List.mem_range.1 hj
      obtain ⟨x, hx⟩ : ∃ x, l[j]? = some x := ⟨l[j]'(by omega), List.getElem?_eq_getElem (by omega)⟩
      rw [par_at hx, frm_at hx]
      simp only [Bool.and_eq_true, decide_eq_true_eq, not_and]
      rintro ⟨a, b⟩ c
      exact c (h.same j x (by omega) hj' hx b)
    · exact List.any_eq_false.2 fun c hc => by simp [h.cut c hc]
theorem vld_iff (l : List Nd) : vld l = true ↔ 1 ≤ l.length ∧ l.length ≤ 32 ∧ ∀ i n, l[i]? = some n → Node l i n := by
  simp only [vld, Bool.and_eq_true, decide_eq_true_eq, List.all_eq_true, List.mem_range, and_assoc]
  constructor
  · rintro ⟨a, b, h⟩
    refine ⟨a, b, fun i n hn => ?_⟩
    have hi := (List.getElem?_eq_some_iff.1 hn).1
    have := h i hi
    simp only [okI, hn] at this
    exact (okN_iff l i n (by omega)).1 this
  · rintro ⟨a, b, h⟩
    refine ⟨a, b, fun i hi => ?_⟩
    have hn : l[i]? = some l[i] := List.getElem?_eq_getElem hi
    simp only [okI, hn]
    exact (okN_iff l i _ (by omega)).2 (h i _ hn)
/-- A valid tree. -/
structure Tree (l : List Nd) : Prop where
  lo : 1 ≤ l.length
  hi : l.length ≤ 32
  nd : ∀ i n, l[i]? = some n → Node l i n
theorem tree_of {l : List Nd} (h : vld l = true) : Tree l := by
  obtain ⟨a, b, c⟩ := (vld_iff l).1 h; exact ⟨a, b, c⟩
section
variable {l : List Nd}
theorem Tree.par_lt (T : Tree l) {i : Nat} (hi : i < l.length) : par l i < i ∧ -1 ≤ par l i ∧ (par l i < 0 ↔ i = 0) := by
  have hn : l[i]? = some l[i] := List.getElem?_eq_getElem hi
  have N := T.nd i _ hn
  rw [par_at hn]
  rcases Nat.eq_zero_or_pos i with rfl | h
  · have := N.root rfl; omega
  · have := N.par0 h; omega
theorem Tree.frm_lt (T : Tree l) {i : Nat} (hi : i < l.length) (h0 : 0 < i) : frm l (par l i).toNat < frm l i := by
  have hn : l[i]? = some l[i] := List.getElem?_eq_getElem hi
  have N := T.nd i _ hn
  rw [par_at hn, frm_at hn]
  exact (N.par0 h0).2.2.1
theorem Tree.frm0 (T : Tree l) : frm l 0 = 0 := by
  have hn : l[0]? = some (l[0]'T.lo) := List.getElem?_eq_getElem T.lo
  rw [frm_at hn]; exact ((T.nd 0 _ hn).root rfl).2
/-- More fuel changes nothing. -/
theorem Tree.wayG_fuel (T : Tree l) : ∀ (k j : Nat) (n : Int), n < l.length → n < k → n < j → wayG l k n = wayG l j n
  | 0, j, n, h0, h1, h2 => by
    cases j with
    | zero => rfl
    | succ j => simp [wayG]; omega
  | k + 1, 0, n, h0, h1, h2 => by simp [wayG]; omega
  | k + 1, j + 1, n, h0, h1, h2 => by
    unfold wayG
    by_cases hn : n < 0
    · simp [hn]
    · simp only [hn, if_false]
      have := T.par_lt (i := n.toNat) (by omega)
      rw [Tree.wayG_fuel T k j (par l n.toNat) (by omega) (by omega) (by omega)]
theorem Tree.way_cons (T : Tree l) {n : Int} (h0 : 0 ≤ n) (h1 : n < l.length) : way l n = n :: way l (par l n.toNat) := by
  have := T.par_lt (i := n.toNat) (by omega)
  have := T.hi
  rw [way, wayG, if_neg (by omega), way, Tree.wayG_fuel T 32 33 _ (by omega) (by omega) (by omega)]
theorem way_neg {n : Int} (h : n < 0) : way l n = [] := by simp [way, wayG, h]
/-- Every node of a way is one of the tree. -/
theorem Tree.way_in (T : Tree l) : ∀ (k : Nat) (n : Int), n < k → n < l.length → ∀ x ∈ way l n, 0 ≤ x ∧ x ≤ n
  | 0, n, h, _, x, hx => by rw [way_neg (by omega)] at hx; cases hx
  | k + 1, n, h, hl, x, hx => by
    by_cases hn : n < 0
    · rw [way_neg hn] at hx; cases hx
    · rw [T.way_cons (by omega) hl] at hx
      have := T.par_lt (i := n.toNat) (by omega)
      rcases List.mem_cons.1 hx with rfl | hx
      · omega
      · have := Tree.way_in T k _ (by omega) (by omega) x hx
        omega
theorem Tree.way_at (T : Tree l) {n x : Int} (hl : n < l.length) (hx : x ∈ way l n) : 0 ≤ x ∧ x ≤ n := T.way_in (n.toNat + 1) n (by omega) hl x hx
theorem Tree.way_root (T : Tree l) : ∀ (k : Nat) (n : Int), n < k → 0 ≤ n → n < l.length → 0 ∈ way l n
  | 0, n, h, _, _ => by omega
  | k + 1, n, h, h0, hl => by
    rw [T.way_cons h0 hl]
    rcases Int.lt_or_eq_of_le h0 with hp | rfl
    · have h1 := T.par_lt (i := n.toNat) (by omega)
      exact List.mem_cons_of_mem _ (Tree.way_root T k _ (by omega) (by omega) (by omega))
    · simp
/-- The way of a node of a way is the rest of the way. -/
theorem Tree.way_suffix (T : Tree l) : ∀ (k : Nat) (n : Int), n < k → n < l.length → ∀ x ∈ way l n, ∃ r, way l n = r ++ way l x
  | 0, n, h, _, x, hx => by rw [way_neg (by omega)] at hx; cases hx
  | k + 1, n, h, hl, x, hx => by
    by_cases hn : n < 0
    · rw [way_neg hn] at hx; cases hx
    · have h1 := T.par_lt (i := n.toNat) (by omega)
      have hc := T.way_cons (by omega) hl
      rw [hc] at hx
      rcases List.mem_cons.1 hx with rfl | hx
      · exact ⟨[], by simp⟩
      · obtain ⟨r, hr⟩ := Tree.way_suffix T k _ (by omega) (by omega) x hx
        exact ⟨n :: r, by rw [hc, hr]; simp⟩
end
end Go.Proofs.Ytemdebheinbolaa
