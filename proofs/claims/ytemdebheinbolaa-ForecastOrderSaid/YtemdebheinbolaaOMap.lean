/- Words for a map that the call itself makes, keyed by int, its elements ints, read as a function to options. No program in sight. -/
import Derived.Test.YtemdebheinbolaaMaps
import Derived.Maps.Views
namespace Go.Proofs.Ytemdebheinbolaa
open Go.RowKit Go.Maps
/-- Block b is a map of at most n entries; at every key that fits: is there one, and which. -/
def OMap (P : Program) (k e : TypeId) (w : World) (b n : Nat) (f : Int → Option Int) : Prop :=
  ∃ D : DataW Unit, w.ownsMap P k (plainElem P e) b n D ∧ IsMap D ∧ ∀ i, (Lit.int .i64 i).wf = true → Maps.has D (.int .i64 i) = (f i).isSome ∧ D.atKey (.int .i64 i) (.lit (.int .i64 0)) = .lit (.int .i64 ((f i).getD 0))
section
variable {P : Program} {k e t : TypeId} {w w' : World} {b n : Nat}
theorem OMap.made (w : World) : OMap P k e (w.alloc (.map #[] 0)) w.heap.size 0 (fun _ => none) :=
  ⟨.map [], World.ownsMap_made _ _ _ _, isMap_empty, fun _ _ => ⟨rfl, rfl⟩⟩
theorem OMap.lt {f : Int → Option Int} (h : OMap P k e w b n f) : b < w.heap.size := let ⟨_, h, _⟩ := h; ownsMap_lt h
theorem OMap.block {f : Int → Option Int} (h : OMap P k e w b n f) (hh : w'.heap[b]? = w.heap[b]?) : OMap P k e w' b n f :=
  let ⟨D, h, r⟩ := h; ⟨D, ownsMap_block h hh, r⟩
theorem OMap.ext {f : Int → Option Int} (h : OMap P k e w b n f) (hb : Below w.heap.size w w') : OMap P k e w' b n f := h.block (hb.block b h.lt)
theorem OMap.mono_ {f : Int → Option Int} {n' : Nat} (h : OMap P k e w b n f) (hn : n ≤ n') : OMap P k e w b n' f := by
  obtain ⟨D, ⟨es, cl, h1, h2, h3, h4⟩, r⟩ := h
  exact ⟨D, ⟨es, cl, h1, h2, Nat.le_trans h3 hn, h4⟩, r⟩
theorem OMap.congr {f g : Int → Option Int} (h : OMap P k e w b n f) (hg : ∀ i, f i = g i) : OMap P k e w b n g := by
  rw [← funext hg]; exact h
theorem OMap.look {f : Int → Option Int} (h : OMap P k e w b n f) (hk : P.underlying k = some (.int .i64)) (ht : P.underlying t = some (.map k e)) (he : P.underlying e = some (.int .i64)) (hz : (zeroValue e).run P w = .ok (.int .i64 0) w)
    (i : Int) (hi : (Lit.int .i64 i).wf = true) : (Instr.lookup t (.map (some b)) (.int .i64 i) true).run P w = .ok (.tuple #[.int .i64 ((f i).getD 0), .bool (f i).isSome]) w := by
  obtain ⟨D, h, hm, hf⟩ := h
  obtain ⟨v, ps, hrun, hv⟩ := h.look_ok (int_keyed hk) ht hz (plainElem_int he (by decide)) (keyOf_int_mk hk hi)
  obtain ⟨c, rfl, hc, _⟩ := plainElem_int_inv he hv
  rw [(hf i hi).2] at hc
  have hc : (f i).getD 0 = c := by simp at hc; exact hc.1
  rw [hrun, hc, (hf i hi).1]
theorem OMap.put {f : Int → Option Int} (h : OMap P k e w b n f) (hk : P.underlying k = some (.int .i64)) (ht : P.underlying t = some (.map k e)) (he : P.underlying e = some (.int .i64)) (hn : n < maxLen)
    (i : Int) (x : Int) (hi : (Lit.int .i64 i).wf = true) (hx : (Lit.int .i64 x).wf = true) : ∃ w', (Instr.mapUpdate t (.map (some b)) (.int .i64 i) (.int .i64 x)).run P w = .ok () w' ∧ OMap P k e w' b (n + 1) (fun j => if j = i then some x else f j) ∧ w.grownBy w' (some b) := by
  obtain ⟨D, h, hm, hf⟩ := h
  obtain ⟨w', hrun, ho, hg⟩ := h.update (int_keyed hk) ht hn (keyOf_int_mk hk hi) (plainElem_int he hx)
  refine ⟨w', hrun, ⟨_, ho, hm.put _ _, fun j hj => ?_⟩, hg⟩
  by_cases e : j = i
  · subst e
    rw [atKey_put_same hm ((int_keyed hk).key (keyOf_int_mk hk hi)), has_put_same hm ((int_keyed hk).key (keyOf_int_mk hk hi))]; simp
  · rw [atKey_put_other (by simpa using e), has_put_other (by simpa using e), (hf j hj).1, (hf j hj).2]; simp [e]
end
end Go.Proofs.Ytemdebheinbolaa
