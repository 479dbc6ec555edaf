/- What follows of a valid tree, in plain Lean. No program in sight. -/
import Derived.Test.YtemdebheinbolaaPlain
namespace Go.Proofs.Ytemdebheinbolaa
section
variable {l : List Nd}
/-- Along a way From goes down; the elements ahead of a node of the way are larger in number and later. -/
theorem Tree.way_before (T : Tree l) : ∀ (k : Nat) (n : Int), n < k → n < l.length → ∀ x ∈ way l n, ∃ r, way l n = r ++ way l x ∧ ∀ y ∈ r, x < y ∧ frm l x.toNat < frm l y.toNat
  | 0, n, h, _, x, hx => by rw [way_neg (by omega)] at hx; cases hx
  | k + 1, n, h, hl, x, hx => by
    by_cases hn : n < 0
    · rw [way_neg hn] at hx; cases hx
    · have h1 := T.par_lt (i := n.toNat) (by omega)
      have hc := T.way_cons (by omega) hl
      rw [hc] at hx
      rcases List.mem_cons.1 hx with rfl | hx
      · exact ⟨[], by simp, by simp⟩
      · obtain ⟨r, hr, hb⟩ := Tree.way_before T k _ (by omega) (by omega) x hx
        have h0 : 0 < n.toNat := by
          rcases Nat.eq_zero_or_pos n.toNat with e | e
          · rw [way_neg (h1.2.2.2 e)] at hx; cases hx
          · exact e
        have h2 := T.frm_lt (by omega) h0
        have hx1 := T.way_at (by omega) hx
        refine ⟨n :: r, by rw [hc, hr]; simp, fun y hy => ?_⟩
        rcases List.mem_cons.1 hy with rfl | hy
        · refine ⟨by omega, ?_⟩
          -- the parent is x or lies ahead of it
          have hp : par l y.toNat ∈ way l (par l y.toNat) := by rw [T.way_cons (by omega) (by omega)]; simp
          rw [hr] at hp
          rcases List.mem_append.1 hp with hp | hp
          · have := (hb _ hp).2; omega
          · have := (T.way_at (by omega) hp).2
            have e : par l y.toNat = x := by omega
            rw [← e]; exact h2
        · exact hb y hy
theorem Tree.before (T : Tree l) {n x : Int} (hl : n < l.length) (hx : x ∈ way l n) : ∃ r, way l n = r ++ way l x ∧ ∀ y ∈ r, x < y ∧ frm l x.toNat < frm l y.toNat := T.way_before (n.toNat + 1) n (by omega) hl x hx
theorem below_iff (l : List Nd) (leaf n : Int) : below l leaf n = true ↔ n ∈ way l leaf := by
  simp [below]
theorem Tree.self (T : Tree l) {n : Int} (h0 : 0 ≤ n) (h1 : n < l.length) : n ∈ way l n := by rw [T.way_cons h0 h1]; simp
theorem leafB_iff (l : List Nd) (n : Int) : leafB l n = true ↔ 0 ≤ n ∧ n < l.length ∧ ∀ x ∈ l, x.p ≠ n := by
  simp [leafB, and_assoc]
theorem find_app {p : Int → Bool} (r s : List Int) (h : ∀ y ∈ r, p y = false) : (r ++ s).find? p = s.find? p := by
  induction r with
  | nil => rfl
  | cons a r ih => simp [List.find?_cons, h a (by simp), ih (fun y hy => h y (by simp [hy]))]
/-- At finds a node of the way; those ahead of it are later. -/
theorem Tree.at_some (T : Tree l) {leaf m : Int} (h0 : 0 ≤ leaf) (h1 : leaf < l.length) (hm : 0 ≤ m) : ∃ n, atN l leaf m = some n ∧ n ∈ way l leaf ∧ frm l n.toNat ≤ m ∧ ∃ r, way l leaf = r ++ way l n ∧ ∀ y ∈ r, m < frm l y.toNat := by
  have hr := T.way_root (leaf.toNat + 1) leaf (by omega) h0 h1
  cases hf : atN l leaf m with
  | none =>
    have := List.find?_eq_none.1 hf 0 hr
    rw [Int.toNat_zero, T.frm0] at this
    simp at this; omega
  | some n =>
    have hn := List.mem_of_find?_eq_some hf
    have hp := List.find?_some hf
    simp only [decide_eq_true_eq] at hp
    obtain ⟨r, hr, hb⟩ := T.before h1 hn
    refine ⟨n, rfl, hn, hp, r, hr, fun y hy => ?_⟩
    -- y stands ahead of n, so find? passed it by
    have hf2 : ((r ++ way l n).find? fun n => decide (frm l n.toNat ≤ m)) = some n := by rw [← hr]; exact hf
    clear hf
    have hy1 := (hb y hy).1
    have hny : y ≠ n := by omega
    have : ∀ (r : List Int), (∀ y ∈ r, n < y) → ((r ++ way l n).find? fun n => decide (frm l n.toNat ≤ m)) = some n → ∀ y ∈ r, m < frm l y.toNat := by
      intro r
      induction r with
      | nil => intro _ _ y hy; cases hy
      | cons a r ih =>
        intro hgt h y hy
        rw [List.cons_append, List.find?_cons] at h
        by_cases ha : frm l a.toNat ≤ m
        · simp [ha] at h
          have := hgt a (by simp); omega
        · simp [ha] at h
          rcases List.mem_cons.1 hy with rfl | hy
          · omega
          · exact ih (fun y hy => hgt y (by simp [hy])) (by simpa using h) y hy
    exact this r (fun y hy => (hb y hy).1) hf2 y hy
theorem at_of (l : List Nd) {leaf m n : Int} {r : List Int} (hr : way l leaf = r ++ way l n) (hb : ∀ y ∈ r, m < frm l y.toNat) : atN l leaf m = atN l n m := by
  unfold atN; rw [hr, find_app]
  intro y hy; simp; exact hb y hy
theorem waySum_app (l : List Nd) (a : Bool) (i m : Int) (r s : List Int) : waySum l a i m (r ++ s) = waySum l a i m r + waySum l a i m s := by
  induction r with
  | nil => simp [waySum]
  | cons x r ih => simp [waySum, ih, Int.add_assoc]
theorem cutSum_zero {a : Bool} {i m : Int} {cs : List Cut} (h : ∀ c ∈ cs, mat a i m c = false) : cutSum a i m cs = 0 := by
  induction cs with
  | nil => rfl
  | cons c r ih => simp [cutSum, h c (by simp), ih (fun x hx => h x (by simp [hx]))]
theorem badC_no {n : Int} {c : Cut} (h : badC n c = false) : n ≤ c.f ∧ c.f < c.t ∧ c.t ≤ 1440 ∧ 0 ≤ c.less ∧ c.less ≤ 64 := by
  simp only [badC, Bool.or_eq_false_iff, Bool.not_eq_false', Bool.and_eq_true, decide_eq_true_eq, decide_eq_false_iff_not] at h
  omega
theorem Tree.sum_late (T : Tree l) {a : Bool} {i m : Int} {r : List Int} (h : ∀ y ∈ r, m < frm l y.toNat) : waySum l a i m r = 0 := by
  induction r with
  | nil => rfl
  | cons x r ih =>
    rw [waySum, ih (fun y hy => h y (by simp [hy])), cutSum_zero]
    · rfl
    · intro c hc
      unfold cutsAt at hc
      split at hc
      · rename_i n hn
        have h1 := badC_no ((T.nd _ _ hn).cut c hc)
        have h2 := h x (by simp)
        rw [frm_at hn] at h2
        simp [mat]; intros; omega
      · cases hc
theorem Tree.less_of (T : Tree l) {leaf n m : Int} {a : Bool} {i : Int} {r : List Int} (hr : way l leaf = r ++ way l n) (hb : ∀ y ∈ r, m < frm l y.toNat) : lessN l leaf a i m = lessN l n a i m := by
  unfold lessN; rw [hr, waySum_app, T.sum_late hb]; omega
/-- The main law: the same node at a minute: the same nodes, and the same reductions, at every minute before. -/
theorem Tree.known (T : Tree l) {a b m e : Int} (ha0 : 0 ≤ a) (ha1 : a < l.length) (hb0 : 0 ≤ b) (hb1 : b < l.length) (hm : 0 ≤ m) (he : e ≤ m) (hab : (atN l a m).getD 0 = (atN l b m).getD 0) (air : Bool) (i : Int) :
    lessN l a air i e = lessN l b air i e ∧ atN l a e = atN l b e := by
  obtain ⟨p, h1, _, _, r, hr, hrb⟩ := T.at_some ha0 ha1 hm
  obtain ⟨q, h2, _, _, s, hs, hsb⟩ := T.at_some hb0 hb1 hm
  rw [h1, h2] at hab
  obtain rfl : p = q := by simpa using hab
  have k1 : ∀ y ∈ r, e < frm l y.toNat := fun y hy => by have := hrb y hy; omega
  have k2 : ∀ y ∈ s, e < frm l y.toNat := fun y hy => by have := hsb y hy; omega
  exact ⟨by rw [T.less_of hr k1, T.less_of hs k2], by rw [at_of l hr k1, at_of l hs k2]⟩
/-- A leaf is below a node exactly if the node is the one at the minute from which on it is known. -/
theorem Tree.below_at (T : Tree l) {leaf s : Int} (h0 : 0 ≤ leaf) (h1 : leaf < l.length) (s0 : 0 ≤ s) (s1 : s < l.length) : below l leaf s = decide (atN l leaf (frm l s.toNat) = some s) := by
  rw [Bool.eq_iff_iff, below_iff, decide_eq_true_eq]
  constructor
  · intro h
    obtain ⟨r, hr, hb⟩ := T.before h1 h
    rw [at_of l hr (fun y hy => (hb y hy).2), atN, T.way_cons s0 s1]
    simp
  · intro h; exact List.mem_of_find?_eq_some h
theorem Tree.frm_nonneg (T : Tree l) {n : Int} (h0 : 0 ≤ n) (h1 : n < l.length) : 0 ≤ frm l n.toNat := by
  have := T.way_root (n.toNat + 1) n (by omega) h0 h1
  obtain ⟨r, hr, hb⟩ := T.before h1 this
  have hs := T.self h0 h1
  rw [hr] at hs
  rcases List.mem_append.1 hs with hs | hs
  · have := (hb n hs).2
    rw [Int.toNat_zero, T.frm0] at this; omega
  · have := T.way_at (by have := T.lo; omega) hs
    obtain rfl : n = 0 := by omega
    rw [Int.toNat_zero, T.frm0]; exact Int.le_refl _
/-- Below each node there is a leaf. -/
theorem Tree.leaf_below (T : Tree l) : ∀ (k : Nat) (n : Int), (l.length : Int) - n ≤ k → 0 ≤ n → n < l.length → ∃ x, leafB l x = true ∧ n ∈ way l x
  | 0, n, h, _, _ => by omega
  | k + 1, n, h, h0, h1 => by
    by_cases hl : leafB l n = true
    · exact ⟨n, hl, T.self h0 h1⟩
    · have : ¬ ∀ x ∈ l, x.p ≠ n := fun h => hl ((leafB_iff l n).2 ⟨h0, h1, h⟩)
      have : ∃ x ∈ l, x.p = n := by
        apply Classical.byContradiction
        intro hne
        exact this fun x hx e => hne ⟨x, hx, e⟩
      obtain ⟨x, hx, hp⟩ := this
      obtain ⟨c, hc, rfl⟩ := List.getElem_of_mem hx
      have hpc := par_at (List.getElem?_eq_getElem hc)
      have h2 := T.par_lt hc
      rw [hpc, hp] at h2
      obtain ⟨y, hy, hw⟩ := Tree.leaf_below T k (c : Int) (by omega) (by omega) (by omega)
      refine ⟨y, hy, ?_⟩
      have hy' := (leafB_iff l y).1 hy
      obtain ⟨r, hr, _⟩ := T.before hy'.2.1 hw
      rw [hr, T.way_cons (by omega) (by omega), Int.toNat_natCast, hpc, hp]
      simp [T.self h0 h1]
theorem mem_leavesIf (l : List Nd) (h : Int → Bool) (n : Int) : n ∈ leavesIf l h ↔ leafB l n = true ∧ h n = true := by
  unfold leavesIf
  simp only [List.mem_filter, List.mem_map, List.mem_range, Bool.and_eq_true]
  constructor
  · exact fun h => h.2
  · intro hh
    obtain ⟨a, b, _⟩ := (leafB_iff l n).1 hh.1
    exact ⟨⟨n.toNat, by omega, by omega⟩, hh⟩
theorem Tree.alive_one (T : Tree l) {n : Int} (h0 : 0 ≤ n) (h1 : n < l.length) : (aliveL l [n]).length ≠ 0 := by
  obtain ⟨x, hx, hw⟩ := T.leaf_below (l.length) n (by omega) h0 h1
  intro h
  have : x ∈ aliveL l [n] := (mem_leavesIf _ _ _).2 ⟨hx, by simp [below_iff, hw]⟩
  rw [List.eq_nil_of_length_eq_zero h] at this; cases this
theorem Tree.some_leaf (T : Tree l) : (leaves l).length ≠ 0 := by
  obtain ⟨x, hx, _⟩ := T.leaf_below (l.length) 0 (by omega) (by omega) (by have := T.lo; omega)
  intro h
  have : x ∈ leaves l := (mem_leavesIf _ _ _).2 ⟨hx, rfl⟩
  rw [List.eq_nil_of_length_eq_zero h] at this; cases this
theorem alive_nil (l : List Nd) : aliveL l [] = leaves l := rfl
theorem alive_filter (l : List Nd) (seen : List Int) : aliveL l seen = (leaves l).filter (fun x => seen.all (below l x)) := by
  simp [aliveL, leaves, leavesIf, List.filter_filter, Bool.and_comm]
/-- Only which nodes were seen matters. -/
theorem alive_same (l : List Nd) (a b : List Int) (h : ∀ n, n ∈ a ↔ n ∈ b) : aliveL l a = aliveL l b := by
  unfold aliveL leavesIf
  congr 1
  funext n
  congr 1
  rw [Bool.eq_iff_iff, List.all_eq_true, List.all_eq_true]
  exact ⟨fun k x hx => k x ((h x).2 hx), fun k x hx => k x ((h x).1 hx)⟩
theorem all_same (p : Int → Bool) (a b : List Int) (h : ∀ n, n ∈ a ↔ n ∈ b) : a.all p = b.all p := by
  rw [Bool.eq_iff_iff, List.all_eq_true, List.all_eq_true]
  exact ⟨fun k x hx => k x ((h x).2 hx), fun k x hx => k x ((h x).1 hx)⟩
theorem aliveR_same (l : List Nd) (a b : List Int) (h : ∀ n, n ∈ a ↔ n ∈ b) : aliveR l a = aliveR l b := by
  unfold aliveR; rw [alive_same l a b h, all_same _ a b h]
end
end Go.Proofs.Ytemdebheinbolaa
