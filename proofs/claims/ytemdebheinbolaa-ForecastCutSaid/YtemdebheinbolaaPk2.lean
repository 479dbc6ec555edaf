/- What the law of Alive asks, in plain Lean. -/
import Derived.Test.YtemdebheinbolaaPk
namespace Go.Proofs.Ytemdebheinbolaa
open Go.RowKit
theorem leavesR_ok {l : List Nd} (h : vld l = true) : leavesR l = (leaves l, 0) := by simp [leavesR, h]
theorem leavesR_no {l : List Nd} (h : vld l = false) : leavesR l = ([], 180) := by simp [leavesR, h]
theorem aliveR_no {l : List Nd} {s : List Int} (h : vld l = false) : aliveR l s = ([], 180) := by simp [aliveR, h]
theorem aliveR_all {l : List Nd} (h : vld l = true) : aliveR l [] = (leaves l, 0) := by
  have := (tree_of h).some_leaf
  simp [aliveR, h, alive_nil, this]
theorem aliveR_out {l : List Nd} {s : List Int} (h : s.all (inT l) = false) : aliveR l s = ([], 180) := by simp [aliveR, h]
theorem aliveR_in {l : List Nd} {s : List Int} (hv : vld l = true) (h : s.all (inT l) = true) : aliveR l s = (aliveL l s, if (aliveL l s).length = 0 then 181 else 0) := by
  simp only [aliveR, hv, h, Bool.and_self, if_true]
  split
  · rename_i hz; rw [List.eq_nil_of_length_eq_zero hz]
  · rfl
theorem mem_leaves {l : List Nd} {n : Int} : n ∈ leaves l ↔ leafB l n = true := by
  unfold leaves; rw [mem_leavesIf]; simp
theorem mem_alive {l : List Nd} {s : List Int} {n : Int} (h : n ∈ leaves l) : decide (n ∈ aliveL l s) = s.all (below l n) := by
  rw [Bool.eq_iff_iff, decide_eq_true_eq]
  unfold aliveL
  rw [mem_leavesIf]
  exact ⟨fun h => h.2, fun hh => ⟨mem_leaves.1 h, hh⟩⟩
/-- How many of the first k leaves are possible. -/
def manyK (l : List Nd) (s : List Int) (k : Nat) : Nat := (((leaves l).take k).filter (fun x => s.all (below l x))).length
theorem manyK_step {l : List Nd} {s : List Int} {k : Nat} {x : Int} (h : (leaves l)[k]? = some x) : manyK l s (k + 1) = manyK l s k + if s.all (below l x) then 1 else 0 := by
  unfold manyK
  rw [List.take_add_one, h, Option.toList_some, List.filter_append, List.length_append]
  cases hb : s.all (below l x) <;> simp [List.filter_cons, hb]
theorem manyK_end {l : List Nd} {s : List Int} {k : Nat} (h : (leaves l).length ≤ k) : manyK l s k = (aliveL l s).length := by
  unfold manyK; rw [List.take_of_length_le h, alive_filter]
theorem manyK_le (l : List Nd) (s : List Int) (k : Nat) : manyK l s k ≤ k := by
  unfold manyK
  exact Nat.le_trans (List.length_filter_le _ _) (List.length_take_le _ _)
theorem leaves_len {l : List Nd} (T : Tree l) : (leaves l).length ≤ 32 := Nat.le_trans (leaves_le l _) T.hi
/-- The node at the minute from which on s is known: s exactly if it is on the way. -/
theorem at_below {l : List Nd} (T : Tree l) (hv : vld l = true) {x s : Int} (hx : x ∈ leaves l) (hs : inT l s = true) : ∃ n, atR l x (frm l s.toNat) = (n, 0) ∧ below l x s = decide (n = s) := by
  have hlf := mem_leaves.1 hx
  obtain ⟨x0, x1, _⟩ := (leafB_iff l x).1 hlf
  simp only [inT, Bool.and_eq_true, decide_eq_true_eq] at hs
  have hf := T.frm_nonneg hs.1 hs.2
  obtain ⟨n, hn, _⟩ := T.at_some x0 x1 hf
  refine ⟨n, by simp [atR, hv, hlf, hf, hn], ?_⟩
  rw [T.below_at x0 x1 hs.1 hs.2, hn]
  simp
end Go.Proofs.Ytemdebheinbolaa
