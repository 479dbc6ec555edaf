/- Words for a map that the call itself makes, keyed by int, its elements bools or ints, read as a function. No program in sight. -/
import Derived.Maps.Own
import Derived.Maps.OwnOps
import Derived.Maps.OwnSet
import Derived.WalkKit
namespace Go.Proofs.Ytemdebheinbolaa
open Go.RowKit Go.Maps

/-- Block b is a map of at most n entries; at every key that fits it reads as f says (false where there is none). -/
def BMap (P : Program) (k e : TypeId) (w : World) (b n : Nat) (f : Int → Bool) : Prop :=
  ∃ D : DataW Unit, w.ownsMap P k (plainElem P e) b n D ∧ IsMap D ∧ ∀ i, (Lit.int .i64 i).wf = true → D.atKey (.int .i64 i) (.lit (.bool false)) = .lit (.bool (f i))
/-- The same, its elements ints. -/
def NMap (P : Program) (k e : TypeId) (w : World) (b n : Nat) (f : Int → Int) : Prop :=
  ∃ D : DataW Unit, w.ownsMap P k (plainElem P e) b n D ∧ IsMap D ∧ ∀ i, (Lit.int .i64 i).wf = true → D.atKey (.int .i64 i) (.lit (.int .i64 0)) = .lit (.int .i64 (f i))

theorem plainElem_bool_inv {H : Type} {P : Program} {e : TypeId} (he : P.underlying e = some .bool) {v : Value} {z : DataW H × List MemPlace} (h : plainElem P e v = some z) : ∃ a, v = .bool a ∧ z = (.lit (.bool a), []) := by
  unfold plainElem at h
  rw [he] at h
  cases v <;> simp at h
  exact ⟨_, rfl, h.symm⟩

section
variable {P : Program} {k e t : TypeId} {w w' : World} {b n : Nat}
theorem BMap.made (w : World) : BMap P k e (w.alloc (.map #[] 0)) w.heap.size 0 (fun _ => false) :=
  ⟨.map [], World.ownsMap_made _ _ _ _, isMap_empty, fun _ _ => rfl⟩
theorem NMap.made (w : World) : NMap P k e (w.alloc (.map #[] 0)) w.heap.size 0 (fun _ => 0) :=
  ⟨.map [], World.ownsMap_made _ _ _ _, isMap_empty, fun _ _ => rfl⟩
theorem ownsMap_block {H : Type} {R : Value → Option (DataW H × List MemPlace)} {D : DataW H} (h : w.ownsMap P k R b n D) (hh : w'.heap[b]? = w.heap[b]?) : w'.ownsMap P k R b n D := by
  obtain ⟨es, cl, hb, r⟩ := h
  exact ⟨es, cl, hh.trans hb, r⟩
theorem ownsMap_lt {H : Type} {R : Value → Option (DataW H × List MemPlace)} {D : DataW H} (h : w.ownsMap P k R b n D) : b < w.heap.size := by
  obtain ⟨es, cl, hb, r⟩ := h
  exact (Array.getElem?_eq_some_iff.1 hb).1
theorem BMap.lt {f : Int → Bool} (h : BMap P k e w b n f) : b < w.heap.size := let ⟨_, h, _⟩ := h; ownsMap_lt h
theorem NMap.lt {f : Int → Int} (h : NMap P k e w b n f) : b < w.heap.size := let ⟨_, h, _⟩ := h; ownsMap_lt h
theorem BMap.block {f : Int → Bool} (h : BMap P k e w b n f) (hh : w'.heap[b]? = w.heap[b]?) : BMap P k e w' b n f :=
  let ⟨D, h, r⟩ := h; ⟨D, ownsMap_block h hh, r⟩
theorem NMap.block {f : Int → Int} (h : NMap P k e w b n f) (hh : w'.heap[b]? = w.heap[b]?) : NMap P k e w' b n f :=
  let ⟨D, h, r⟩ := h; ⟨D, ownsMap_block h hh, r⟩
theorem BMap.ext {f : Int → Bool} (h : BMap P k e w b n f) (hb : Below w.heap.size w w') : BMap P k e w' b n f := h.block (hb.block b h.lt)
theorem NMap.ext {f : Int → Int} (h : NMap P k e w b n f) (hb : Below w.heap.size w w') : NMap P k e w' b n f := h.block (hb.block b h.lt)

theorem BMap.mono_ {f : Int → Bool} {n' : Nat} (h : BMap P k e w b n f) (hn : n ≤ n') : BMap P k e w b n' f := by
  obtain ⟨D, ⟨es, cl, h1, h2, h3, h4⟩, r⟩ := h
  exact ⟨D, ⟨es, cl, h1, h2, Nat.le_trans h3 hn, h4⟩, r⟩
theorem NMap.mono_ {f : Int → Int} {n' : Nat} (h : NMap P k e w b n f) (hn : n ≤ n') : NMap P k e w b n' f := by
  obtain ⟨D, ⟨es, cl, h1, h2, h3, h4⟩, r⟩ := h
  exact ⟨D, ⟨es, cl, h1, h2, Nat.le_trans h3 hn, h4⟩, r⟩
theorem BMap.look {f : Int → Bool} (h : BMap P k e w b n f) (hk : P.underlying k = some (.int .i64)) (ht : P.underlying t = some (.map k e)) (he : P.underlying e = some .bool) (hz : (zeroValue e).run P w = .ok (.bool false) w)
    (i : Int) (hi : (Lit.int .i64 i).wf = true) : (Instr.lookup t (.map (some b)) (.int .i64 i) false).run P w = .ok (.bool (f i)) w := by
  obtain ⟨D, h, hm, hf⟩ := h
  obtain ⟨v, ps, hrun, hv⟩ := h.lookup (int_keyed hk) ht hz (plainElem_bool he false) (keyOf_int_mk hk hi)
  obtain ⟨c, rfl, hc⟩ := plainElem_bool_inv he hv
  rw [hf i hi] at hc
  simp only [Prod.mk.injEq, DataW.lit.injEq, Lit.bool.injEq] at hc
  rw [hrun, hc.1]
theorem NMap.look {f : Int → Int} (h : NMap P k e w b n f) (hk : P.underlying k = some (.int .i64)) (ht : P.underlying t = some (.map k e)) (he : P.underlying e = some (.int .i64)) (hz : (zeroValue e).run P w = .ok (.int .i64 0) w)
    (i : Int) (hi : (Lit.int .i64 i).wf = true) : (Instr.lookup t (.map (some b)) (.int .i64 i) false).run P w = .ok (.int .i64 (f i)) w := by
  obtain ⟨D, h, hm, hf⟩ := h
  obtain ⟨c, hrun, hc, _⟩ := h.lookup_int (int_keyed hk) ht he hz (keyOf_int_mk hk hi)
  rw [hf i hi] at hc
  simp only [DataW.lit.injEq, Lit.int.injEq, true_and] at hc
  rw [hrun, hc]
theorem BMap.put {f : Int → Bool} (h : BMap P k e w b n f) (hk : P.underlying k = some (.int .i64)) (ht : P.underlying t = some (.map k e)) (he : P.underlying e = some .bool) (hn : n < maxLen)
    (i : Int) (x : Bool) (hi : (Lit.int .i64 i).wf = true) : ∃ w', (Instr.mapUpdate t (.map (some b)) (.int .i64 i) (.bool x)).run P w = .ok () w' ∧ BMap P k e w' b (n + 1) (fun j => if j = i then x else f j) ∧ w.grownBy w' (some b) := by
  obtain ⟨D, h, hm, hf⟩ := h
  obtain ⟨w', hrun, ho, hg⟩ := h.update (int_keyed hk) ht hn (keyOf_int_mk hk hi) (plainElem_bool he x)
  refine ⟨w', hrun, ⟨_, ho, hm.put _ _, fun j hj => ?_⟩, hg⟩
  by_cases e : j = i
  · subst e; rw [atKey_put_same hm ((int_keyed hk).key (keyOf_int_mk hk hi))]; simp
  · rw [atKey_put_other (by simpa using e), hf j hj]; simp [e]
theorem NMap.put {f : Int → Int} (h : NMap P k e w b n f) (hk : P.underlying k = some (.int .i64)) (ht : P.underlying t = some (.map k e)) (he : P.underlying e = some (.int .i64)) (hn : n < maxLen)
    (i : Int) (x : Int) (hi : (Lit.int .i64 i).wf = true) (hx : (Lit.int .i64 x).wf = true) : ∃ w', (Instr.mapUpdate t (.map (some b)) (.int .i64 i) (.int .i64 x)).run P w = .ok () w' ∧ NMap P k e w' b (n + 1) (fun j => if j = i then x else f j) ∧ w.grownBy w' (some b) := by
  obtain ⟨D, h, hm, hf⟩ := h
  obtain ⟨w', hrun, ho, hg⟩ := h.update (int_keyed hk) ht hn (keyOf_int_mk hk hi) (plainElem_int he hx)
  refine ⟨w', hrun, ⟨_, ho, hm.put _ _, fun j hj => ?_⟩, hg⟩
  by_cases e : j = i
  · subst e; rw [atKey_put_same hm ((int_keyed hk).key (keyOf_int_mk hk hi))]; simp
  · rw [atKey_put_other (by simpa using e), hf j hj]; simp [e]
end
end Go.Proofs.Ytemdebheinbolaa
