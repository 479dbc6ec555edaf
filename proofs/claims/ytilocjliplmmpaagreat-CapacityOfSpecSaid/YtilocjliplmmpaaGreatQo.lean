/- What laws 6 and 7 share. -/
import Derived.Test.YtilocjliplmmpaaGreatQ3
set_option linter.unusedSimpArgs false
set_option linter.unusedVariables false
namespace Go.Proofs.YtilocjliplmmpaaGreat
open Go.RowKit
theorem b_info : (Tryz.prog.info? 4).map (fun i => (i.zero, i.size, i.bytes)) = some (some (.bool false), 1, 1) := by kernel_rfl
theorem bI : EInfo Tryz.prog 45 4 bc 1 1 := by
  obtain ⟨i, h1, h2, h3, h4⟩ := iparts b_info
  exact ⟨Tryz.underlying45, ⟨i, _, h1, h2, h3, h4, rfl⟩, by decide, fun _ => rfl, fun x u hu => by simp [bc] at hu; subst hu; rfl⟩
theorem nd_info : (Tryz.prog.info? 63).map (fun i => (i.zero, i.size, i.bytes)) = some (some (.agg #[.int .i64 0, .int .i64 0, .slice none 0 0]), 3, 40) := by kernel_rfl
theorem ndI : EInfo Tryz.prog 44 63 Nd.cells 3 40 := by
  obtain ⟨i, h1, h2, h3, h4⟩ := iparts nd_info
  exact ⟨Tryz.underlying44, ⟨i, _, h1, h2, h3, h4, rfl⟩, by decide, fun _ => rfl, fun x u hu => by simp [Nd.cells] at hu; rcases hu with rfl | rfl | rfl <;> rfl⟩
theorem seenAll_set {seen : List Bool} {k : Nat} (vs : List Int) (h : seenAll seen vs = true) : seenAll (seen.set k true) vs = true := by
  unfold seenAll at h ⊢
  rw [List.all_eq_true] at h ⊢
  intro v hv
  have := h v hv
  rw [List.getElem?_set]
  split
  · split
    · rfl
    · rename_i e hn
      rw [← e, List.getElem?_eq_none (by omega)] at this
      cases this
  · exact this
theorem few18_any (A : Option Addr) (c : Nat) (l : List Nd) (w : World) (ha : Slc w Nd.cells 3 A l) (hn : l.length ≤ maxLen) : Calls Tryz.prog 13 #[.slice A l.length c] w fun e w' => ∃ r : Bool, e = .returned (.bool r) ∧ Below w.heap.size w w' :=
  (few_any A c l w ha hn).mono fun _ _ ⟨⟨r, h1⟩, h2⟩ => ⟨r, h1, by rw [← h2]; exact ext_refl _⟩
/-- The nodes while their cuts are struck. -/
def midL (tree : List Nd) (k : Nat) : List Nd := bareL (tree.take k) ++ tree.drop k
theorem mid_len (tree : List Nd) (k : Nat) : (midL tree k).length = tree.length := by simp [midL, bareL]; omega
theorem mid_zero (tree : List Nd) : midL tree 0 = tree := by simp [midL, bareL]
theorem mid_end {tree : List Nd} {k : Nat} (h : tree.length ≤ k) : midL tree k = bareL tree := by simp [midL, List.take_of_length_le h, List.drop_eq_nil_of_le h]
theorem mid_get {tree : List Nd} {k : Nat} {x : Nd} (h : tree[k]? = some x) : (midL tree k)[k]? = some x := by
  have hk := (List.getElem?_eq_some_iff.1 h).1
  unfold midL
  rw [List.getElem?_append_right (by simp [bareL]; omega)]
  simp [bareL, Nat.min_eq_left (Nat.le_of_lt hk), h]
theorem mid_set {tree : List Nd} {k : Nat} {x : Nd} (h : tree[k]? = some x) : (midL tree k).set k { x with cuts := ⟨none, 0, []⟩ } = midL tree (k + 1) := by
  have hk := (List.getElem?_eq_some_iff.1 h).1
  have hl : (bareL (tree.take k)).length = k := by simp [bareL]; omega
  obtain ⟨_, rfl⟩ := List.getElem?_eq_some_iff.1 h
  unfold midL
  rw [List.set_append_right _ _ (by omega), hl, Nat.sub_self, List.drop_eq_getElem_cons hk, List.set_cons_zero, List.take_add_one, h]
  unfold bareL
  rw [List.map_append, List.append_assoc]
  rfl
theorem bare_tok {w : World} {A : Option Addr} {tree : List Nd} (h : Slc w Nd.cells 3 A (bareL tree)) (hl : tree.length ≤ maxLen) : TOk w A (bareL tree) := by
  refine ⟨h, fun n hn => ?_, by rw [bare_len]; exact hl, fun n hn => ?_⟩
  · obtain ⟨x, _, rfl⟩ := List.mem_map.1 hn
    exact Slc.nil
  · obtain ⟨x, _, rfl⟩ := List.mem_map.1 hn
    exact Nat.zero_le _
end Go.Proofs.YtilocjliplmmpaaGreat
