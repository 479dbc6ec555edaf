/- What the laws of parts and of order ask, in plain Lean. -/
import Derived.Test.YtemdebheinbolaaPk2
namespace Go.Proofs.Ytemdebheinbolaa
open Go.RowKit
section
variable {l : List Nd}
theorem aliveR_one (hv : vld l = true) {n : Int} (h0 : 0 ≤ n) (h1 : n < l.length) : aliveR l [n] = (aliveL l [n], 0) := by
  rw [aliveR_in hv (by simp [inT, h0, h1]), if_neg ((tree_of hv).alive_one h0 h1)]
theorem alive_child (hv : vld l = true) {n : Int} {k : Nat} (hk : k < l.length) (hp : par l k = n) (h0 : 0 ≤ n) : (aliveL l [n, (k : Int)]).length ≠ 0 := by
  have T := tree_of hv
  obtain ⟨x, hx, hw⟩ := T.leaf_below l.length k (by omega) (by omega) (by omega)
  obtain ⟨x0, x1, _⟩ := (leafB_iff l x).1 hx
  intro h
  have : x ∈ aliveL l [n, (k : Int)] := (mem_leavesIf _ _ _).2 ⟨hx, by
    have h1 : n ∈ way l x := by
      obtain ⟨r, hr, _⟩ := T.before x1 hw
      have := T.par_lt hk
      rw [hr, T.way_cons (by omega) (by omega), Int.toNat_natCast, hp]
      simp [T.self h0 (by omega)]
    simp [below_iff, hw, h1]⟩
  rw [List.eq_nil_of_length_eq_zero h] at this; cases this
theorem aliveR_two (hv : vld l = true) {n : Int} {k : Nat} (hk : k < l.length) (hp : par l k = n) (h0 : 0 ≤ n) : aliveR l [n, (k : Int)] = (aliveL l [n, (k : Int)], 0) := by
  have hl := (tree_of hv).par_lt hk
  rw [aliveR_in hv (by simp [inT, h0, hk]; omega), if_neg (alive_child hv hk hp h0)]
theorem alive_sub {n : Int} {s : List Int} {x : Int} (h : x ∈ aliveL l (n :: s)) : x ∈ aliveL l [n] := by
  have := (mem_leavesIf _ _ _).1 h
  refine (mem_leavesIf _ _ _).2 ⟨this.1, ?_⟩
  have h2 := this.2
  simp only [List.all_cons, Bool.and_eq_true, List.all_nil, Bool.and_true] at h2 ⊢
  exact h2.1
theorem partN_step {n : Int} {k : Nat} : partN l n (k + 1) = partN l n k + if par l k = n then 1 else 0 := by
  simp only [partN, cnt, decide_eq_true_eq]
theorem partN_le (n : Int) (k : Nat) : partN l n k ≤ k := cnt_le _ _
/-- Nodes in the other order, each twice. -/
def revd (s : List Int) : List Int := s.reverse.flatMap (fun x => [x, x])
theorem revd_cons (x : Int) (s : List Int) : revd (x :: s) = revd s ++ [x, x] := by simp [revd]
theorem revd_len (s : List Int) : (revd s).length = 2 * s.length := by
  induction s with
  | nil => rfl
  | cons x s ih => rw [revd_cons, List.length_append, ih]; simp; omega
theorem mem_revd (s : List Int) (n : Int) : n ∈ revd s ↔ n ∈ s := by
  simp only [revd, List.mem_flatMap, List.mem_reverse, List.mem_cons, List.not_mem_nil, or_false, or_self]
  constructor
  · rintro ⟨a, b, rfl⟩; exact b
  · intro h; exact ⟨n, h, rfl⟩
/-- The parents of nodes. -/
def pars (l : List Nd) (s : List Int) : List Int := (s.map (fun n => par l n.toNat)).filter (fun p => decide (0 ≤ p))
theorem pars_snoc (s : List Int) (x : Int) : pars l (s ++ [x]) = pars l s ++ (if 0 ≤ par l x.toNat then [par l x.toNat] else []) := by
  simp only [pars, List.map_append, List.filter_append, List.map_cons, List.map_nil, List.filter_cons, List.filter_nil]
  split <;> simp_all
theorem pars_len (s : List Int) : (pars l s).length ≤ s.length := by
  refine Nat.le_trans (List.length_filter_le _ _) (by simp)
theorem order_R (hv : vld l = true) {s : List Int} (hs : s.all (inT l) = true) : aliveR l (revd s ++ pars l s) = aliveR l s := by
  have T := tree_of hv
  have hp : ∀ p ∈ pars l s, ∃ n ∈ s, inT l n = true ∧ p = par l n.toNat ∧ 0 ≤ p := by
    intro p hp
    simp only [pars, List.mem_filter, List.mem_map, decide_eq_true_eq] at hp
    obtain ⟨⟨n, hn, rfl⟩, h0⟩ := hp
    exact ⟨n, hn, (List.all_eq_true.1 hs) n hn, rfl, h0⟩
  have hin : (revd s ++ pars l s).all (inT l) = true := by
    rw [List.all_append, Bool.and_eq_true]
    refine ⟨by rw [all_same (inT l) (revd s) s (mem_revd s)]; exact hs, List.all_eq_true.2 fun p hpp => ?_⟩
    obtain ⟨n, _, hn, rfl, h0⟩ := hp p hpp
    simp only [inT, Bool.and_eq_true, decide_eq_true_eq] at hn ⊢
    have := T.par_lt (i := n.toNat) (by omega)
    omega
  have hal : aliveL l (revd s ++ pars l s) = aliveL l s := by
    unfold aliveL leavesIf
    apply List.filter_congr
    intro x hx
    obtain ⟨i, hi, rfl⟩ := List.mem_map.1 hx
    have hi := List.mem_range.1 hi
    congr 1
    show (revd s ++ pars l s).all (below l (i : Int)) = s.all (below l (i : Int))
    rw [List.all_append, all_same (below l (i : Int)) (revd s) s (mem_revd s)]
    cases ha : s.all (below l (i : Int))
    · rfl
    · rw [Bool.true_and]
      refine List.all_eq_true.2 fun p hpp => ?_
      obtain ⟨n, hns, hn, rfl, h0⟩ := hp p hpp
      have hb := (below_iff _ _ _).1 ((List.all_eq_true.1 ha) n hns)
      simp only [inT, Bool.and_eq_true, decide_eq_true_eq] at hn
      obtain ⟨r, hr, _⟩ := T.before (by omega) hb
      have := T.par_lt (i := n.toNat) (by omega)
      rw [below_iff, hr, T.way_cons hn.1 hn.2]
      simp [T.self h0 (by omega)]
  rw [aliveR_in hv hin, aliveR_in hv hs, hal]
theorem aliveR_e {s : List Int} {x : List Int} {e : Int} (h : aliveR l s = (x, e)) : (e ≠ 0 → x = []) ∧ (e = 0 → vld l = true ∧ s.all (inT l) = true) := by
  unfold aliveR at h
  split at h
  · rename_i hv
    simp only [Bool.and_eq_true] at hv
    split at h
    · injection h with h1 h2; subst h1 h2; exact ⟨fun _ => rfl, fun h => by cases h⟩
    · injection h with h1 h2; subst h1 h2; exact ⟨fun h => absurd rfl h, fun _ => hv⟩
  · injection h with h1 h2; subst h1 h2; exact ⟨fun _ => rfl, fun h => by cases h⟩
end
end Go.Proofs.Ytemdebheinbolaa
