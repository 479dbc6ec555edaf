/- copy into a row of the call's own, whatever the elements' size; append of zeros; an element laid into a row. No program in sight. -/
import Derived.Test.YtilocjliplmmpaaGreatLB
import Derived.Laws.CopyRow
import Derived.Lib.AppendZerosOnto
import Derived.Lib.Overlaps
import Derived.Laws.Externs
import Derived.Laws.CopyOwn
import Derived.Test.YtilocjliplmmpaaGreatRg
set_option linter.unusedSimpArgs false
set_option linter.unusedVariables false
namespace Go.Proofs.YtilocjliplmmpaaGreat
open Go.RowKit
/-- copy's run, the row's block named; the elements of sz cells. -/
theorem run_copyK {α : Type} {P : Program} {t e : TypeId} {enc : α → List Value} {sz b : Nat} (I : EInfo P t e enc sz b) (w : World) (sT ty : TypeId) (g o dLen dCap : Nat) (a : Addr) (sLen sCap : Nat) (cur : List Value) (te : TypeId) (ys : List α)
    (hg : w.heap[g]? = some (.cells cur.toArray te (0, 0))) (hn : ys.length = Nat.min sLen dLen)
    (hsrc : ∀ j v, (ys.flatMap enc)[j]? = some v → w.cell? (a.add j) = some v) (hfit : o + ys.length * sz ≤ cur.length) :
    (Builtin.copy_ #[t, sT] ty #[.slice (some ⟨g, o, none⟩) dLen dCap, .slice (some a) sLen sCap]).run P w =
      .ok (goInt ys.length) (w.setRow g (splice cur o (ys.flatMap enc)).toArray) := by
  have hfl := flat_len I.hl ys
  have hl := run_loadCells_list (P := P) w a (ys.flatMap enc) hsrc
  have hst := run_storeCells_at P g o te (ys.flatMap enc) 0 cur.toArray w hg (by simpa [hfl] using hfit) (flat_ones I.h1 ys)
  obtain ⟨i, z, hi, hz, hsz, hbb, hzz⟩ := I.hi
  rw [hfl] at hl
  simp [Builtin.copy_, run_underlying I.ht, Builtin.lenOf, Builtin.firstCells, sizeOf, typeInfo, hi, hsz, ← hn, hl, hst, splice, hfl]
/-- .. as it is handed on: a world in which the row is so and all other blocks are as they were. -/
theorem run_copyG {α : Type} {P : Program} {t e : TypeId} {enc : α → List Value} {sz b : Nat} (I : EInfo P t e enc sz b) (w : World) (sT ty : TypeId) (g o dLen dCap : Nat) (a : Addr) (sLen sCap : Nat) (cur : List Value) (te : TypeId) (ys : List α)
    (hg : w.heap[g]? = some (.cells cur.toArray te (0, 0))) (hn : ys.length = Nat.min sLen dLen)
    (hsrc : ∀ j v, (ys.flatMap enc)[j]? = some v → w.cell? (a.add j) = some v) (hfit : o + ys.length * sz ≤ cur.length) :
    ∃ v w', (Builtin.copy_ #[t, sT] ty #[.slice (some ⟨g, o, none⟩) dLen dCap, .slice (some a) sLen sCap]).run P w = .ok v w' ∧ w'.heap[g]? = some (.cells (splice cur o (ys.flatMap enc)).toArray te (0, 0)) ∧ w.grownBy w' (some g) := by
  refine ⟨_, _, run_copyK I w sT ty g o dLen dCap a sLen sCap cur te ys hg hn hsrc hfit, setRow_heap w g _ _ te _ hg, ⟨rfl, rfl, rfl, by simp [World.setRow], fun k hk hne => ?_⟩⟩
  exact setRow_other w g k _ (fun e => hne (by rw [e]))
theorem splice_len {L cs : List Value} {o : Nat} (h : o + cs.length ≤ L.length) : (splice L o cs).length = L.length := length_splice L o cs h
/-- Two copies that fill a row: first what stands behind, then the element. -/
theorem splice_shift (L X Y Z : List Value) (h : L.take (X.length + Y.length) = X ++ Y) (hl : X.length + Y.length + Z.length ≤ L.length) :
    (splice (splice L (X.length + Z.length) Y) X.length Z).take (X.length + Z.length + Y.length) = X ++ Z ++ Y := by
  have h1 : L.take X.length = X := by
    have := congrArg (List.take X.length) h
    rw [List.take_take, Nat.min_eq_left (by omega)] at this
    simpa using this
  have hk : (L.take (X.length + Z.length)).length = X.length + Z.length := by simp; omega
  unfold splice
  have e1 : (L.take (X.length + Z.length) ++ (Y ++ L.drop (X.length + Z.length + Y.length))).take X.length = X := by
    rw [List.take_append_of_le_length (by rw [hk]; omega), List.take_take, Nat.min_eq_left (by omega), h1]
  have e2 : (L.take (X.length + Z.length) ++ (Y ++ L.drop (X.length + Z.length + Y.length))).drop (X.length + Z.length) = Y ++ L.drop (X.length + Z.length + Y.length) := by
    rw [List.drop_append_of_le_length (by rw [hk]; omega), List.drop_eq_nil_of_le (by rw [hk]; omega), List.nil_append]
  rw [e1, e2, ← List.append_assoc, ← List.append_assoc, List.take_append_of_le_length (by first | (simp; done) | (simp; omega)), List.take_of_length_le (by first | (simp; done) | (simp; omega))]
/-- .. first the element, then what stands behind. -/
theorem splice_fill (L X Y Z : List Value) (h : L.take X.length = X) (hl : X.length + Z.length + Y.length ≤ L.length) :
    (splice (splice L X.length Z) (X.length + Z.length) Y).take (X.length + Z.length + Y.length) = X ++ Z ++ Y := by
  unfold splice
  rw [h]
  have e1 : (X ++ (Z ++ L.drop (X.length + Z.length))).take (X.length + Z.length) = X ++ Z := by
    rw [← List.append_assoc, List.take_append_of_le_length (by first | (simp; done) | (simp; omega)), List.take_of_length_le (by first | (simp; done) | (simp; omega))]
  rw [e1, ← List.append_assoc, List.take_append_of_le_length (by first | (simp; done) | (simp; omega)), List.take_of_length_le (by first | (simp; done) | (simp; omega))]
/-- A row of one's own out of its block. -/
theorem own_of {α : Type} {enc : α → List Value} {sz : Nat} (hs : ∀ x, (enc x).length = sz) {w : World} {base g c : Nat} {e : TypeId} {cur : List Value} {l : List α} (hb : base ≤ g) (hg : w.heap[g]? = some (.cells cur.toArray e (0, 0))) (hc : l.length ≤ c) (hm : c ≤ maxLen) (hz : cur.length = c * sz) (ht : cur.take (l.length * sz) = l.flatMap enc) :
    Own w base e enc sz (.slice (some ⟨g, 0, none⟩) l.length c) l :=
  ⟨flat_len hs l, .inr ⟨g, c, cur.toArray, rfl, hb, hg, hc, hm, by simpa using hz, by simpa using ht⟩⟩
theorem Own.row {α : Type} {w : World} {base : Nat} {e : TypeId} {enc : α → List Value} {sz : Nat} {g n c : Nat} {l : List α} (h : Own w base e enc sz (.slice (some ⟨g, 0, none⟩) n c) l) : n = l.length ∧ base ≤ g ∧ g < w.heap.size ∧ l.length ≤ c ∧ c ≤ maxLen ∧ ∃ cur : List Value, w.heap[g]? = some (.cells cur.toArray e (0, 0)) ∧ cur.length = c * sz ∧ cur.take (l.length * sz) = l.flatMap enc := by
  rcases h.2 with ⟨hv, _⟩ | ⟨g', cap, cur, hv, hb, hg, hc, hm, hz, ht⟩
  · cases hv
  · injection hv with h1 h2 h3
    injection h1 with h1; injection h1 with h1
    subst h1 h3
    exact ⟨h2, hb, (Array.getElem?_eq_some_iff.1 hg).1, hc, hm, cur.toList, by simpa using hg, by simpa using hz, ht⟩
/-- append of zeros to a head of a row that has no room for them: a new row. -/
theorem Own.zeros {α : Type} {P : Program} {t e tn : TypeId} {enc : α → List Value} {sz b : Nat} (I : EInfo P t e enc sz b) (htn : P.underlying tn = some (.int .i64)) {w : World} {base g n c : Nat} {l : List α} (ty : TypeId) (h : Own w base e enc sz (.slice (some ⟨g, 0, none⟩) n c) l)
    (i k : Nat) (hi : i ≤ l.length) (hk : 0 < k) (hc : c < i + k) (hm : i + k ≤ maxLen) (hb : (i + k) * b ≤ 140737488355328) :
    ∃ v' w' G, ∃ cur : List Value, (Builtin.append_ #[t, tn] ty #[.slice (some ⟨g, 0, none⟩) i c, .int .i64 k]).run P w = .ok v' w' ∧ v' = .slice (some ⟨w.heap.size, 0, none⟩) (i + k) G ∧ i + k ≤ G ∧ G ≤ maxLen ∧
      w'.heap[w.heap.size]? = some (.cells cur.toArray e (0, 0)) ∧ cur.length = G * sz ∧ cur.take (i * sz) = (l.take i).flatMap enc ∧ Below w.heap.size w w' := by
  obtain ⟨inf, z, hin, hz, hsz, hbb, hzz⟩ := I.hi
  have hS : Slc w enc sz (some ⟨g, 0, none⟩) (l.take i) := (h.slc I.hl I.hz).take i
  have htl : (l.take i).length = i := by simp; omega
  have hfl := flat_len I.hl (l.take i)
  rw [htl] at hfl
  have hold : (Builtin.firstCells inf.size i (.slice (some ⟨g, 0, none⟩) i c)).run P w.drew = .ok ((l.take i).flatMap enc).toArray w.drew := by
    have := run_loadCells_list (P := P) w.drew ⟨g, 0, none⟩ ((l.take i).flatMap enc) (hS.olds I.hl ⟨g, 0, none⟩ rfl)
    rw [hfl] at this
    rw [hsz]; exact this
  have hz0 := I.hz
  have hkb : k * b ≤ 281474976710656 := by
    have : k * b ≤ (i + k) * b := Nat.mul_le_mul_right b (by omega)
    omega
  have hrun := Lib.run_append_grow_zeros (P := P) w t tn ty e inf z .i64 .i64 I.ht htn hin hz (some ⟨g, 0, none⟩) i c _ hold k hk (by omega) hc (by unfold maxLen at hm; omega) (by rw [hbb]; exact hkb) (by rw [hbb]; exact growslice_fits hc hb)
  have hG1 := grownCap_ge w (i + k) c e
  refine ⟨_, _, grownCap w (i + k) c e, (l.take i).flatMap enc ++ (Builtin.zeroCells z.cells k).toList ++ (Builtin.zeroCells z.cells (grownCap w (i + k) c e - (i + k))).toList, hrun, rfl, hG1, grownCap_le_maxLen w _ _ _ hm, ?_, ?_, ?_, ?_⟩
  · rw [show w.heap.size = w.drew.heap.size from rfl, heap_alloc_new]
    simp
  · simp only [List.length_append, hfl, Array.length_toList]
    simp only [Builtin.zeroCells, Array.size_map, Array.size_range, hzz]
    rw [← Nat.add_mul, ← Nat.add_mul]
    congr 1; omega
  · rw [List.append_assoc, List.take_append_of_le_length (by rw [hfl]; exact Nat.le_refl _), List.take_of_length_le (by rw [hfl]; exact Nat.le_refl _)]
  · exact ext_alloc (ext_drew (ext_refl w)) _
theorem row_cell {w : World} {g : Nat} {e : TypeId} {cur : List Value} (hg : w.heap[g]? = some (.cells cur.toArray e (0, 0))) {j : Nat} {v : Value} (h : cur[j]? = some v) : w.cell? ⟨g, j, none⟩ = some v := by
  rw [cell_of_row w g j cur.toArray e (0, 0) hg]; simpa using h
theorem row_frozen {w : World} {g : Nat} {e : TypeId} {cur : List Value} (hg : w.heap[g]? = some (.cells cur.toArray e (0, 0))) (j : Nat) : w.frozen? ⟨g, j, none⟩ = false := by simp [World.frozen?, hg]
theorem row_shape {w : World} {g : Nat} {e : TypeId} {cur : List Value} (hg : w.heap[g]? = some (.cells cur.toArray e (0, 0))) : w.shape? g = some (e, cur.length) := by simp [World.shape?, hg]
/-- copy as one operation, its run known. -/
theorem rg_copy {P : Program} {Q : Exit → Act → World → Prop} {o : Oper} {a : Act} {w : World} {K : Act → World → Prop} (d : Option Tmp) (s x : Operand) (t ty : TypeId) (hop : o.op = Op.call { callee := Callee.builtin Builtin.copy, args := #[s, x], argTypes := #[t, t] }) (hd : o.dst = d) (hty : o.type = ty) (u v : Value) (hs : a.eval s = u) (hx : a.eval x = v)
    {R : Value → World → Prop} (hrun : ∃ v' w', (Builtin.copy_ #[t, t] ty #[u, v]).run P w = .ok v' w' ∧ R v' w') (hK : ∀ v' w', R v' w' → K (a.put d v') w') : Oper.wp P o a w K Q := by
  subst hd hty
  obtain ⟨v', w', hr, hR⟩ := hrun
  unfold Oper.wp
  simp [execOp, hop, resolve, invoke, builtin, hs, hx, hr, Result.andThen]
  exact hK v' w' hR
theorem wpList_copy_of {P : Program} {w : World} {ops : Array Oper} {rest : List Oper} {o : Oper} {a : Act} {Q : Exit → Act → World → Prop} (hgd : o.guard = none) (d s : Operand) (t : TypeId)
    (ho : o.op = .call { callee := .builtin .copy, args := #[d, s], argTypes := #[t, t] }) (u v : Value) (hd : a.eval d = u) (hs : a.eval s = v)
    {R : Value → World → Prop} (hrun : ∃ v' w', (Builtin.copy_ #[t, t] o.type #[u, v]).run P w = .ok v' w' ∧ R v' w') (h : ∀ v' w', R v' w' → wpList P ops Q rest (a.put o.dst v') w') : wpList P ops Q (o :: rest) a w := by
  refine wpList_plain hgd fun K hK => ?_
  obtain ⟨v', w', hr, hR⟩ := hrun
  unfold Oper.wp
  simp [execOp, ho, resolve, invoke, builtin, hd, hs, hr, Result.andThen]
  exact hK _ _ (h v' w' hR)
theorem runs_eq {P : Program} {m : Sem Value} {w w' : World} {v : Value} (h : m.run P w = .ok v w') : ∃ v' w'', m.run P w = .ok v' w'' ∧ (v = v' ∧ w' = w'') := ⟨v, w', h, rfl, rfl⟩
theorem addr0 (g j : Nat) : (⟨g, 0, none⟩ : Addr).add j = ⟨g, j, none⟩ := by
  unfold Addr.add; split
  · rename_i h; simp [h]
  · simp
theorem from0 (g c k sz : Nat) (h : c ≠ k) : (if c = k then (some ⟨g, 0, none⟩ : Option Addr) else (some ⟨g, 0, none⟩ : Option Addr).map (·.add (k * sz))) = some ⟨g, k * sz, none⟩ := by
  rw [if_neg h]; simp [addr0]
theorem Slc.tailCells {α : Type} {enc : α → List Value} {sz : Nat} (hs : ∀ x, (enc x).length = sz) {w : World} {g : Nat} {l : List α} (h : Slc w enc sz (some ⟨g, 0, none⟩) l) (k : Nat) : ∀ j v, ((l.drop k).flatMap enc)[j]? = some v → w.cell? ((⟨g, k * sz, none⟩ : Addr).add j) = some v := by
  have h1 := h.drop k
  simp only [Option.map_some, addr0] at h1
  exact h1.olds hs _ rfl
theorem Slc.keep {α : Type} {enc : α → List Value} {sz : Nat} {w w' : World} {g : Nat} {l : List α} (h : Slc w enc sz (some ⟨g, 0, none⟩) l) (hb : w'.heap[g]? = w.heap[g]?) (hz : w.heap.size ≤ w'.heap.size) : Slc w' enc sz (some ⟨g, 0, none⟩) l := fun i x hx => by
  obtain ⟨b, o, e, hlt, hc⟩ := h i x hx
  cases e
  exact ⟨g, 0, rfl, Nat.lt_of_lt_of_le hlt hz, fun j v hj => (World.cell?_of_block (w := w) (a := ⟨g, 0 + i * sz + j, none⟩) hb).trans (hc j v hj)⟩
theorem flat1 {α : Type} (enc : α → List Value) (x : α) : ([x] : List α).flatMap enc = enc x := by simp
theorem take_len {α : Type} {l : List α} {k : Nat} (h : k ≤ l.length) : (l.take k).length = k := by simp; omega
/-- The row behind both copies, in place. -/
theorem own_shift {α : Type} {enc : α → List Value} {sz : Nat} (hs : ∀ x, (enc x).length = sz) {w : World} {base g c k : Nat} {e : TypeId} {cur : List Value} {l : List α} {x : α} (hb : base ≤ g) (hk : k ≤ l.length) (hc : l.length + 1 ≤ c) (hm : c ≤ maxLen) (hz : cur.length = c * sz) (ht : cur.take (l.length * sz) = l.flatMap enc)
    (hg : w.heap[g]? = some (.cells (splice (splice cur ((k + 1) * sz) ((l.drop k).flatMap enc)) (k * sz) (([x] : List α).flatMap enc)).toArray e (0, 0))) :
    Own w base e enc sz (.slice (some ⟨g, 0, none⟩) (l.length + 1) c) (l.take k ++ x :: l.drop k) := by
  have hX : ((l.take k).flatMap enc).length = k * sz := by rw [flat_len hs, take_len hk]
  have hY : ((l.drop k).flatMap enc).length = (l.length - k) * sz := by rw [flat_len hs]; simp
  have hZ : (enc x).length = sz := hs x
  have hn : l.length * sz = k * sz + (l.length - k) * sz := by rw [← Nat.add_mul]; congr 1; omega
  have hcz : (l.length + 1) * sz ≤ c * sz := Nat.mul_le_mul_right sz hc
  rw [Nat.add_mul, Nat.one_mul] at hcz
  have hle : ((l.take k).flatMap enc).length + ((l.drop k).flatMap enc).length + (enc x).length ≤ cur.length := by omega
  have htt : cur.take (((l.take k).flatMap enc).length + ((l.drop k).flatMap enc).length) = (l.take k).flatMap enc ++ (l.drop k).flatMap enc := by
    rw [hX, hY, ← hn, ht, ← List.flatMap_append, List.take_append_drop]
  have hsp := splice_shift cur _ _ (enc x) htt hle
  rw [flat1, show (k + 1) * sz = ((l.take k).flatMap enc).length + (enc x).length by rw [hX, hZ, Nat.add_mul]; omega] at hg
  rw [show k * sz = ((l.take k).flatMap enc).length by rw [hX]] at hg
  have hl1 : (splice cur (((l.take k).flatMap enc).length + (enc x).length) ((l.drop k).flatMap enc)).length = cur.length := splice_len (by omega)
  have hll : (l.take k ++ x :: l.drop k).length = l.length + 1 := by simp; omega
  have := own_of hs (l := l.take k ++ x :: l.drop k) hb hg (by omega) hm (by rw [splice_len (by rw [hl1]; omega), hl1, hz]) (by
    rw [hll, show (l.length + 1) * sz = ((l.take k).flatMap enc).length + (enc x).length + ((l.drop k).flatMap enc).length by rw [hX, hY, hZ, Nat.add_mul, hn]; omega, hsp]
    simp)
  rw [hll] at this
  exact this
/-- .. in a new row. -/
theorem own_fill {α : Type} {enc : α → List Value} {sz : Nat} (hs : ∀ x, (enc x).length = sz) {w : World} {base g c k : Nat} {e : TypeId} {cur : List Value} {l : List α} {x : α} (hb : base ≤ g) (hk : k ≤ l.length) (hc : l.length + 1 ≤ c) (hm : c ≤ maxLen) (hz : cur.length = c * sz) (ht : cur.take (k * sz) = (l.take k).flatMap enc)
    (hg : w.heap[g]? = some (.cells (splice (splice cur (k * sz) (([x] : List α).flatMap enc)) ((k + 1) * sz) ((l.drop k).flatMap enc)).toArray e (0, 0))) :
    Own w base e enc sz (.slice (some ⟨g, 0, none⟩) (l.length + 1) c) (l.take k ++ x :: l.drop k) := by
  have hX : ((l.take k).flatMap enc).length = k * sz := by rw [flat_len hs, take_len hk]
  have hY : ((l.drop k).flatMap enc).length = (l.length - k) * sz := by rw [flat_len hs]; simp
  have hZ : (enc x).length = sz := hs x
  have hn : l.length * sz = k * sz + (l.length - k) * sz := by rw [← Nat.add_mul]; congr 1; omega
  have hcz : (l.length + 1) * sz ≤ c * sz := Nat.mul_le_mul_right sz hc
  rw [Nat.add_mul, Nat.one_mul] at hcz
  have hle : ((l.take k).flatMap enc).length + (enc x).length + ((l.drop k).flatMap enc).length ≤ cur.length := by omega
  have hsp := splice_fill cur ((l.take k).flatMap enc) ((l.drop k).flatMap enc) (enc x) (by rw [hX, ht]) hle
  rw [flat1, show (k + 1) * sz = ((l.take k).flatMap enc).length + (enc x).length by rw [hX, hZ, Nat.add_mul]; omega] at hg
  rw [show k * sz = ((l.take k).flatMap enc).length by rw [hX]] at hg
  have hl1 : (splice cur ((l.take k).flatMap enc).length (enc x)).length = cur.length := splice_len (by omega)
  have hll : (l.take k ++ x :: l.drop k).length = l.length + 1 := by simp; omega
  have := own_of hs (l := l.take k ++ x :: l.drop k) hb hg (by omega) hm (by rw [splice_len (by rw [hl1]; omega), hl1, hz]) (by
    rw [hll, show (l.length + 1) * sz = ((l.take k).flatMap enc).length + (enc x).length + ((l.drop k).flatMap enc).length by rw [hX, hY, hZ, Nat.add_mul, hn]; omega, hsp]
    simp)
  rw [hll] at this
  exact this
end Go.Proofs.YtilocjliplmmpaaGreat
