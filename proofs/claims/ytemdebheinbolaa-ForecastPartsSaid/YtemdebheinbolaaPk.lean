/- What the laws ask, in plain Lean. -/
import Derived.Test.YtemdebheinbolaaO
namespace Go.Proofs.Ytemdebheinbolaa
open Go.RowKit
def SomeBB (w : World) (e : Ending) (w' : World) : Prop := (∃ r, e = .returned (.bool r)) ∧ Below w.heap.size w w'
theorem few_b {A : Option Addr} {n c : Nat} {l : List Nd} {w : World} (hn : n = l.length) (ha : TOk w A l) : Calls Try.prog 12 #[.slice A n c] w (SomeBB w) :=
  (few_at hn ha).mono fun _ _ ⟨h1, h2⟩ => ⟨h1, by rw [← h2]; exact ext_refl _⟩
theorem leavesR_len (l : List Nd) : (leavesR l).1.length ≤ 32 := by
  unfold leavesR
  split
  · rename_i hv; have := (tree_of hv).hi; exact Nat.le_trans (leaves_le l _) this
  · simp
theorem aliveR_len (l : List Nd) (s : List Int) : (aliveR l s).1.length ≤ 32 := by
  unfold aliveR
  split
  · rename_i hv
    simp only [Bool.and_eq_true] at hv
    have := (tree_of hv.1).hi
    split
    · simp
    · exact Nat.le_trans (leaves_le l _) this
  · simp
theorem at_ok {l : List Nd} {a m p : Int} (h : atR l a m = (p, 0)) : Tree l ∧ leafB l a = true ∧ 0 ≤ m ∧ vld l = true ∧ (atN l a m).getD 0 = p := by
  unfold atR at h
  split at h
  · rename_i hv
    simp only [Bool.and_eq_true, decide_eq_true_eq] at hv
    simp only [Prod.mk.injEq, and_true] at h
    exact ⟨tree_of hv.1.1, hv.1.2, hv.2, hv.1.1, h⟩
  · simp at h
theorem known_R {l : List Nd} {a b m p e : Int} (h1 : atR l a m = (p, 0)) (h2 : atR l b m = (p, 0)) (he : e ≤ m) (air : Bool) (ix : Int) :
    ∃ s r ec, lessR l a air ix e = (s, 0) ∧ lessR l b air ix e = (s, 0) ∧ atR l a e = (r, ec) ∧ atR l b e = (r, ec) ∧ (e < 0 → ec = 180) ∧ (0 ≤ e → ec = 0) := by
  obtain ⟨T, la, m0, hv, pa⟩ := at_ok h1
  obtain ⟨_, lb, _, _, pb⟩ := at_ok h2
  obtain ⟨a0, a1, _⟩ := (leafB_iff l a).1 la
  obtain ⟨b0, b1, _⟩ := (leafB_iff l b).1 lb
  obtain ⟨k1, k2⟩ := T.known a0 a1 b0 b1 m0 he (by rw [pa, pb]) air ix
  refine ⟨lessN l a air ix e, (atR l a e).1, (atR l a e).2, by simp [lessR, hv, la], by simp [lessR, hv, lb, k1], rfl, ?_, fun h => ?_, fun h => ?_⟩
  · simp [atR, hv, la, lb, k2]
  · have hn : ¬ 0 ≤ e := by omega
    simp [atR, hn]
  · simp [atR, hv, la, h]
end Go.Proofs.Ytemdebheinbolaa
