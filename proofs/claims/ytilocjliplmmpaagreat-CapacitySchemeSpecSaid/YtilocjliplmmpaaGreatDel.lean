/- Rows of the call's own written in place: an element stored; what stands behind cleared. No program in sight. -/
import Derived.Test.YtilocjliplmmpaaGreatIns
import Derived.Test.YtilocjliplmmpaaGreatLB
set_option linter.unusedSimpArgs false
set_option linter.unusedVariables false
namespace Go.Proofs.YtilocjliplmmpaaGreat
open Go.RowKit
theorem splice_nil (L : List Value) (o : Nat) : splice L o [] = L := by unfold splice; simp
theorem splice_set (L : List Value) (o : Nat) (v : Value) (vs : List Value) (h : o < L.length) : splice (L.set o v) (o + 1) vs = splice L o (v :: vs) := by
  unfold splice
  have h1 : (L.set o v).take (o + 1) = L.take o ++ [v] := by
    rw [List.take_add_one, List.take_set_of_le (Nat.le_refl _)]
    simp [h]
  have h2 : (L.set o v).drop (o + 1 + vs.length) = L.drop (o + (v :: vs).length) := by
    rw [List.drop_set_of_lt (by omega)]
    congr 1; simp only [List.length_cons]; omega
  rw [h1, h2]
  simp
/-- A row known whole behind one store into it. -/
theorem row_set {w : World} {g : Nat} {e : TypeId} {cur : List Value} (hg : w.heap[g]? = some (.cells cur.toArray e (0, 0))) (o : Nat) (v : Value) : (w.setCell ⟨g, o, none⟩ v).heap[g]? = some (.cells (cur.set o v).toArray e (0, 0)) := by
  rw [heap_setCell_same w g o cur.toArray e v hg]; simp
theorem take_splice (L cs : List Value) (o k : Nat) (hk : k ≤ o) (ho : o ≤ L.length) : (splice L o cs).take k = L.take k := by
  unfold splice
  rw [List.take_append_of_le_length (by rw [List.length_take]; omega), List.take_take, Nat.min_eq_left hk]
/-- clear over the tail of a row. -/
theorem run_clearG {α : Type} {P : Program} {t e : TypeId} {enc : α → List Value} {sz b : Nat} (I : EInfo P t e enc sz b) (w : World) (ty : TypeId) (g o n c : Nat) (cur : List Value) (te : TypeId) (z : Value)
    (hg : w.heap[g]? = some (.cells cur.toArray te (0, 0))) (hfit : o + n * z.cells.size ≤ cur.length) (hz : ∀ w, (zeroValue e).run P w = .ok z w) (h1 : ∀ u ∈ z.cells, u.oneCell' = true) :
    ∃ w', (Builtin.clear_ #[t] ty #[.slice (some ⟨g, o, none⟩) n c]).run P w = .ok (.tuple #[]) w' ∧ (∃ zs : List Value, zs.length = n * z.cells.size ∧ w'.heap[g]? = some (.cells (splice cur o zs).toArray te (0, 0))) ∧ w.grownBy w' (some g) := by
  obtain ⟨zs, hzs⟩ : ∃ zs, (Builtin.zeroCells z.cells n).toList = zs := ⟨_, rfl⟩
  have hl : zs.length = n * z.cells.size := by rw [← hzs]; simp [Builtin.zeroCells]
  have hz1 : ∀ u ∈ zs, u.oneCell' = true := by
    intro u hu
    rw [← hzs] at hu
    simp only [Builtin.zeroCells, Array.toList_map, List.mem_map] at hu
    obtain ⟨i, hi, rfl⟩ := hu
    have hi' : i < n * z.cells.size := by simpa using hi
    have hpos : 0 < z.cells.size := by
      rcases Nat.eq_zero_or_pos z.cells.size with h | h
      · rw [h] at hi'; omega
      · exact h
    have hm := Nat.mod_lt i hpos
    have : z.cells[i % z.cells.size]! = z.cells[i % z.cells.size] := by simp [hm]
    first
      | exact h1 _ (by simp [hm])
      | (rw [this]; exact h1 _ (Array.getElem_mem hm))
      | simp [hm, h1, Array.getElem_mem]
  rcases Nat.eq_zero_or_pos n with h0 | h0
  · subst h0
    refine ⟨w, by simp [Builtin.clear_, run_underlying I.ht], ⟨[], by simp, by rw [splice_nil]; exact hg⟩, ⟨rfl, rfl, rfl, Nat.le_refl _, fun _ _ _ => rfl⟩⟩
  · have hst := run_storeCells_at P g o te zs 0 cur.toArray w hg (by simpa [hl] using hfit) hz1
    refine ⟨w.setRow g (splice cur o zs).toArray, ?_, ⟨zs, hl, setRow_heap w g _ _ te _ hg⟩, ⟨rfl, rfl, rfl, by simp [World.setRow], fun k hk hne => setRow_other w g k _ (fun e => hne (by rw [e]))⟩⟩
    obtain ⟨m, rfl⟩ : ∃ m, n = m + 1 := ⟨n - 1, by omega⟩
    simp [Builtin.clear_, run_underlying I.ht, hz, hzs, hst, splice]
/-- A row whose block holds what it held, cut to a head. -/
theorem own_cut {α : Type} {enc : α → List Value} {sz : Nat} (hs : ∀ x, (enc x).length = sz) {w : World} {base g c : Nat} {e : TypeId} {cur cur' : List Value} {l m : List α} {k : Nat} (hb : base ≤ g) (hg : w.heap[g]? = some (.cells cur'.toArray e (0, 0))) (hm : c ≤ maxLen) (hz : cur'.length = c * sz)
    (ht : cur.take (m.length * sz) = m.flatMap enc) (hk : k ≤ m.length) (hmc : m.length ≤ c) (he : cur'.take (k * sz) = cur.take (k * sz)) (hl : m.take k = l) : Own w base e enc sz (.slice (some ⟨g, 0, none⟩) l.length c) l := by
  have hlk : l.length = k := by rw [← hl]; simp; omega
  refine own_of hs hb hg (by omega) hm hz ?_
  rw [hlk, he, ← hl]
  have h1 := congrArg (List.take (k * sz)) ht
  rw [List.take_take, Nat.min_eq_left (Nat.mul_le_mul_right sz hk)] at h1
  rw [h1, ← List.take_append_drop k m, List.flatMap_append, List.take_append_of_le_length (by rw [flat_len hs]; simp; rw [Nat.min_eq_left hk]; exact Nat.le_refl _)]
  rw [List.take_append_drop]
  rw [List.take_of_length_le (by rw [flat_len hs]; simp; rw [Nat.min_eq_left hk]; exact Nat.le_refl _)]
/-- An element stored in place. -/
theorem own_put {α : Type} {enc : α → List Value} {sz : Nat} (hs : ∀ x, (enc x).length = sz) {w : World} {base g c : Nat} {e : TypeId} {cur : List Value} {m : List α} {i : Nat} {x : α} (hb : base ≤ g) (hm : c ≤ maxLen) (hmc : m.length ≤ c) (hz : cur.length = c * sz) (ht : cur.take (m.length * sz) = m.flatMap enc) (hi : i < m.length)
    (hg : w.heap[g]? = some (.cells (splice cur (i * sz) (enc x)).toArray e (0, 0))) : Own w base e enc sz (.slice (some ⟨g, 0, none⟩) m.length c) (m.set i x) := by
  have hi1 : (i + 1) * sz ≤ m.length * sz := Nat.mul_le_mul_right sz hi
  have hmm : m.length * sz ≤ c * sz := Nat.mul_le_mul_right sz hmc
  rw [Nat.add_mul, Nat.one_mul] at hi1
  have hml : (m.set i x).length = m.length := List.length_set
  rw [← hml]
  refine own_of hs hb hg (by rw [hml]; exact hmc) hm (by rw [splice_len (by rw [hs]; omega)]; exact hz) ?_
  rw [hml]
  apply List.ext_getElem?
  intro q
  by_cases hq : q < m.length * sz
  · rw [List.getElem?_take, if_pos hq]
    have hsp : (splice cur (i * sz) (enc x))[q]? = if i * sz ≤ q ∧ q < i * sz + sz then (enc x)[q - i * sz]? else cur[q]? := by
      unfold splice
      have hlt : (cur.take (i * sz)).length = i * sz := by rw [List.length_take]; omega
      rw [List.getElem?_append, hlt]
      split
      · rw [List.getElem?_take, if_pos ‹_›, if_neg (by omega)]
      · rw [List.getElem?_append, hs]
        split
        · rw [if_pos (by omega)]
        · rw [if_neg (by omega), List.getElem?_drop]; congr 1; omega
    have hco : cur[q]? = (m.flatMap enc)[q]? := by rw [← ht, List.getElem?_take, if_pos hq]
    rw [hsp, hco]
    obtain ⟨u, hu⟩ : ∃ u, (m.flatMap enc)[q]? = some u := ⟨_, List.getElem?_eq_getElem (by rw [flat_len hs]; exact hq)⟩
    obtain ⟨a, y, r, ha, hr, rfl⟩ := flat_get hs m q u hu
    have hrs : r < sz := by rw [← hs y]; exact (List.getElem?_eq_some_iff.1 hr).1
    by_cases hai : a = i
    · subst hai
      rw [if_pos (by omega), show a * sz + r - a * sz = r by omega]
      obtain ⟨v, hv⟩ : ∃ v, (enc x)[r]? = some v := ⟨_, List.getElem?_eq_getElem (by rw [hs]; exact hrs)⟩
      rw [hv, flat_put hs (m.set a x) a r x v (by simp [hi]) hv]
    · rw [if_neg (fun h => by have := place_inj (i := a) (j := r) (k := i) (r := a * sz + r - i * sz) hrs (by omega) (by omega); exact hai this.1), hu]
      exact (flat_put hs (m.set i x) a r y u (by rw [List.getElem?_set_ne (Ne.symm hai)]; exact ha) hr).symm
  · rw [List.getElem?_take, if_neg hq, List.getElem?_eq_none (by rw [flat_len hs, hml]; omega)]
end Go.Proofs.YtilocjliplmmpaaGreat
