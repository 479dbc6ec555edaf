/- append, in words of lists: rows of the call's own; slices that came in. No program in sight. -/
import Derived.Test.YtmgpbjpohbpgpaaMem
import Derived.Maps.AppendAt
import Derived.Deep.RegionLaw
import Derived.ArgAppend
import Derived.WalkKit
set_option linter.unusedSimpArgs false
set_option linter.unusedVariables false
namespace Go.Proofs.Ytmgpbjpohbpgpaa
open Go.RowKit

/-- What is known of the slice type t of elements of type e, each encoded by enc in sz cells and taking b bytes. -/
structure EInfo {α : Type} (P : Program) (t e : TypeId) (enc : α → List Value) (sz b : Nat) : Prop where
  ht : P.underlying t = some (.slice e)
  hi : ∃ i z, P.info? e = some i ∧ i.zero = some z ∧ i.size = sz ∧ i.bytes = b ∧ z.cells.size = sz
  hz : 0 < sz
  hl : ∀ x, (enc x).length = sz
  h1 : ∀ x, ∀ u ∈ enc x, u.oneCell' = true

theorem flat_ones {α : Type} {enc : α → List Value} (h : ∀ x, ∀ u ∈ enc x, u.oneCell' = true) (l : List α) : ∀ u ∈ l.flatMap enc, u.oneCell' = true := by
  intro u hu
  obtain ⟨x, _, hx⟩ := List.mem_flatMap.1 hu
  exact h x u hx

/-- v is a slice in memory of the call's own (from block base on) that holds the list l. -/
def Own {α : Type} (w : World) (base : Nat) (e : TypeId) (enc : α → List Value) (sz : Nat) (v : Value) (l : List α) : Prop := w.ownsRow base e sz v l.length (l.flatMap enc)

section
variable {α : Type} {w w' : World} {base : Nat} {e : TypeId} {enc : α → List Value} {sz : Nat} {v : Value} {l : List α}
theorem Own.nil (w : World) (base : Nat) (e : TypeId) (enc : α → List Value) (sz : Nat) : Own w base e enc sz (.slice none 0 0) ([] : List α) := World.ownsRow_nil w _ e sz
theorem Own.made (w : World) (base : Nat) (e : TypeId) (enc : α → List Value) (sz : Nat) (hb : base ≤ w.heap.size) : Own (w.alloc (.cells #[] e)) base e enc sz (.slice (some ⟨w.heap.size, 0, none⟩) 0 0) ([] : List α) :=
  World.ownsRow_made w #[] 0 hb (by decide) (by simp)
theorem Own.form (h : Own w base e enc sz v l) : ∃ A c, v = .slice A l.length c ∧ l.length ≤ c ∧ (A = none → l = []) ∧ ∀ b o s, A = some ⟨b, o, s⟩ → base ≤ b ∧ o = 0 ∧ s = none ∧ b < w.heap.size ∧ ∃ cur, w.heap[b]? = some (.cells cur e (0, 0)) := by
  rcases h.2 with ⟨hv, h0⟩ | ⟨g, cap, cur, hv, hb, hg, hc, _⟩
  · have hl := List.eq_nil_of_length_eq_zero h0
    subst hl
    exact ⟨none, 0, hv, Nat.le_refl _, fun _ => rfl, fun b o s h => by cases h⟩
  · exact ⟨some ⟨g, 0, none⟩, cap, hv, hc, (fun h => by cases h), fun b o s h => by cases h; exact ⟨hb, rfl, rfl, (Array.getElem?_eq_some_iff.1 hg).1, cur, hg⟩⟩
theorem Own.some_ (h : Own w base e enc sz v l) (hn : 0 < l.length) : ∃ g c cur, v = .slice (some ⟨g, 0, none⟩) l.length c ∧ l.length ≤ c ∧ base ≤ g ∧ g < w.heap.size ∧ w.heap[g]? = some (.cells cur e (0, 0)) := by
  rcases h.2 with ⟨hv, h0⟩ | ⟨g, cap, cur, hv, hb, hg, hc, _⟩
  · omega
  · exact ⟨g, cap, cur, hv, hc, hb, (Array.getElem?_eq_some_iff.1 hg).1, hg⟩
theorem Own.slc {A : Option Addr} {n c : Nat} (hs : ∀ x, (enc x).length = sz) (hz : 0 < sz) (h : Own w base e enc sz (.slice A n c) l) : Slc w enc sz A l := by
  have hn : n = l.length := by
    rcases h.2 with ⟨hv, h0⟩ | ⟨g, cap, cur, hv, _⟩
    · injection hv with h1 h2 h3; omega
    · injection hv with h1 h2 h3
  subst hn
  exact Slc.of_own hs hz h
theorem Own.block (h : Own w base e enc sz v l) (hb : ∀ k, v.ownBlock = some k → w'.heap[k]? = w.heap[k]?) : Own w' base e enc sz v l := by
  obtain ⟨h1, h2⟩ := h
  refine ⟨h1, ?_⟩
  rcases h2 with h2 | ⟨g, cap, cur, hv, hbb, hg, r⟩
  · exact .inl h2
  · exact .inr ⟨g, cap, cur, hv, hbb, (hb g (by rw [hv]; rfl)).trans hg, r⟩
theorem Own.lt (h : Own w base e enc sz v l) : ∀ k, v.ownBlock = some k → k < w.heap.size ∧ base ≤ k := by
  intro k hk
  rcases h.2 with ⟨hv, _⟩ | ⟨g, cap, cur, hv, hbb, hg, r⟩
  · rw [hv] at hk; cases hk
  · rw [hv] at hk; cases hk; exact ⟨(Array.getElem?_eq_some_iff.1 hg).1, hbb⟩
theorem Own.ext (h : Own w base e enc sz v l) (hb : Below w.heap.size w w') : Own w' base e enc sz v l :=
  h.block (fun k hk => hb.block k (h.lt k hk).1)
theorem Own.alloc (h : Own w base e enc sz v l) (o : Obj) : Own (w.alloc o) base e enc sz v l := h.ext ((Below.refl _ _).alloc (Nat.le_refl _) _)
theorem Own.drewN_ (h : Own w base e enc sz v l) (n : Nat) : Own (w.drewN n) base e enc sz v l := h
theorem Own.low {base' : Nat} (h : Own w base e enc sz v l) (hb : base' ≤ base) : Own w base' e enc sz v l := by
  obtain ⟨h1, h2⟩ := h
  refine ⟨h1, ?_⟩
  rcases h2 with h2 | ⟨g, cap, cur, hv, hbb, r⟩
  · exact .inl h2
  · exact .inr ⟨g, cap, cur, hv, Nat.le_trans hb hbb, r⟩
theorem Own.append {P : Program} {t : TypeId} {b : Nat} (I : EInfo P t e enc sz b) (ty : TypeId) (h : Own w base e enc sz v l) {B : Option Addr} {ys : List α} {m : Nat} (hm : m = ys.length) (c : Nat) (hs : Slc w enc sz B ys) (hby : (l.length + ys.length) * b ≤ 140737488355328) (hml : l.length + ys.length ≤ maxLen) (hbase : base ≤ w.heap.size) :
    ∃ v' w', (Builtin.append_ #[t, t] ty #[v, .slice B m c]).run P w = .ok v' w' ∧ Own w' base e enc sz v' (l ++ ys) ∧ w.grownBy w' v.ownBlock ∧ (v'.ownBlock = v.ownBlock ∨ v'.ownBlock = some w.heap.size) := by
  obtain ⟨i, z, hi, hz, hsz, hbb, hzz⟩ := I.hi
  subst hm
  cases B with
  | none =>
    have h0 : ys = [] := List.eq_nil_of_length_eq_zero (hs.none_len rfl)
    subst h0
    obtain ⟨A, c', rfl, hc, _⟩ := h.form
    refine ⟨_, w, ?_, by simpa using h, ⟨rfl, rfl, rfl, Nat.le_refl _, fun _ _ _ => rfl⟩, .inl rfl⟩
    cases A <;> simp [Builtin.append_, run_underlying I.ht, sizeOf, typeInfo, hi, Builtin.lenOf, Builtin.firstCells, hc, storeCells]
  | some a =>
    obtain ⟨v', w', h1, h2, h3, _, h5⟩ := run_append_own_at (P := P) w base t ty e i z sz b I.ht hi hz hsz hbb hzz I.hz v l.length (l.flatMap enc) h a ys.length c (ys.flatMap enc) (flat_len I.hl ys) (hs.olds I.hl a rfl) (flat_ones I.h1 ys) hml hby hbase
    refine ⟨v', w', h1, ?_, h3, h5⟩
    show w'.ownsRow base e sz v' (l ++ ys).length ((l ++ ys).flatMap enc)
    rw [List.length_append, List.flatMap_append]
    exact h2
/-- append to a slice that is full (or clipped): a new row. -/
theorem Slc.append_full {P : Program} {t : TypeId} {b : Nat} (I : EInfo P t e enc sz b) (ty : TypeId) {A : Option Addr} {n cp : Nat} (hn : n = l.length) (h : Slc w enc sz A l) (hA : A = none → cp = 0) {B : Option Addr} {ys : List α} {m : Nat} (hm : m = ys.length) (c : Nat) (hs : Slc w enc sz B ys) (hfull : cp < l.length + ys.length) (hpos : 0 < ys.length) (hby : (l.length + ys.length) * b ≤ 140737488355328) (hml : l.length + ys.length ≤ maxLen) :
    ∃ v' w', (Builtin.append_ #[t, t] ty #[.slice A n cp, .slice B m c]).run P w = .ok v' w' ∧ Own w' w.heap.size e enc sz v' (l ++ ys) ∧ w.grownBy w' none := by
  obtain ⟨i, z, hi, hz, hsz, hbb, hzz⟩ := I.hi
  subst hm hn
  cases B with
  | none => have := hs.none_len rfl; omega
  | some bd =>
    cases A with
    | none =>
      have hl0 : l = [] := List.eq_nil_of_length_eq_zero (h.none_len rfl)
      obtain rfl := hA rfl
      subst hl0
      obtain ⟨v', w', h1, h2, h3, _⟩ := (Own.nil w w.heap.size e enc sz).append I ty (hm := rfl) c hs hby hml (Nat.le_refl _)
      exact ⟨v', w', h1, h2, h3⟩
    | some a =>
      obtain ⟨v', w', h1, h2, h3⟩ := run_append_arg_grows (P := P) w t ty e i z sz b I.ht hi hz hsz hbb hzz I.hz a l.length cp (l.flatMap enc) (flat_len I.hl l) (h.olds I.hl a rfl) bd ys.length c (ys.flatMap enc) (flat_len I.hl ys) (hs.olds I.hl bd rfl) hfull hml hby
      refine ⟨v', w', h1, ?_, h3⟩
      show w'.ownsRow w.heap.size e sz v' (l ++ ys).length ((l ++ ys).flatMap enc)
      rw [List.length_append, List.flatMap_append]
      exact h2
end
theorem slc_lit {α : Type} {enc : α → List Value} {sz : Nat} (w : World) (l : List α) (cs : Array Value) (e : TypeId) (hs : ∀ x, (enc x).length = sz) (hcs : cs = (l.flatMap enc).toArray) : Slc (w.alloc (.cells cs e)) enc sz (some ⟨w.heap.size, 0, none⟩) l := by
  subst hcs
  intro i x hx
  refine ⟨w.heap.size, 0, rfl, by simp, fun j v hj => ?_⟩
  have := cells_new w (l.flatMap enc) e (i * sz + j) v (flat_put hs l i j x v hx hj)
  rw [show (⟨w.heap.size, 0, none⟩ : Addr).add (i * sz + j) = ⟨w.heap.size, 0 + i * sz + j, none⟩ by unfold Addr.add; split <;> simp_all] at this
  exact this
theorem own_lit {α : Type} {enc : α → List Value} {sz : Nat} (w : World) (l : List α) (cs : Array Value) (e : TypeId) (base : Nat) (hb : base ≤ w.heap.size) (hs : ∀ x, (enc x).length = sz) (hm : l.length ≤ maxLen) (hcs : cs = (l.flatMap enc).toArray) : Own (w.alloc (.cells cs e)) base e enc sz (.slice (some ⟨w.heap.size, 0, none⟩) l.length l.length) l := by
  subst hcs
  refine ⟨flat_len hs l, .inr ⟨w.heap.size, l.length, _, rfl, hb, heap_alloc_new w _, Nat.le_refl _, hm, by simp [flat_len hs], ?_⟩⟩
  rw [List.take_of_length_le]
  rw [← flat_len hs l]; exact Nat.le_refl _
theorem Own.madeH {α : Type} (w : World) (base : Nat) (e : TypeId) (enc : α → List Value) (sz : Nat) (hb : base ≤ w.heap.size) (H : Nat) (hH : w.heap.size = H) : Own (w.alloc (.cells #[] e)) base e enc sz (.slice (some ⟨H, 0, none⟩) 0 0) ([] : List α) := by
  subst hH; exact Own.made w base e enc sz hb
theorem slc_litH {α : Type} {enc : α → List Value} {sz : Nat} (w : World) (l : List α) (cs : Array Value) (e : TypeId) (hs : ∀ x, (enc x).length = sz) (hcs : cs = (l.flatMap enc).toArray) (H : Nat) (hH : w.heap.size = H) : Slc (w.alloc (.cells cs e)) enc sz (some ⟨H, 0, none⟩) l := by
  subst hH; exact slc_lit w l cs e hs hcs
theorem own_litH {α : Type} {enc : α → List Value} {sz : Nat} (w : World) (l : List α) (cs : Array Value) (e : TypeId) (base : Nat) (hb : base ≤ w.heap.size) (hs : ∀ x, (enc x).length = sz) (hm : l.length ≤ maxLen) (hcs : cs = (l.flatMap enc).toArray) (H : Nat) (hH : w.heap.size = H) : Own (w.alloc (.cells cs e)) base e enc sz (.slice (some ⟨H, 0, none⟩) l.length l.length) l := by
  subst hH; exact own_lit w l cs e base hb hs hm hcs
theorem Own.drew_ {α : Type} {w : World} {base : Nat} {e : TypeId} {enc : α → List Value} {sz : Nat} {v : Value} {l : List α} (h : Own w base e enc sz v l) : Own w.drew base e enc sz v l := h
theorem sz_drew (w : World) : w.drew.heap.size = w.heap.size := rfl
theorem cell_drew (w : World) (a : Addr) : w.drew.cell? a = w.cell? a := rfl
theorem far {w w' : World} {row : Option Nat} (hg : w.grownBy w' row) (b : Nat) (hlt : b < w.heap.size) (hne : some b ≠ row) (o : Nat) (v : Option Value) (hv : w.cell? ⟨b, o, none⟩ = v) : w'.cell? ⟨b, o, none⟩ = v :=
  (World.cell?_of_block (hg.block b hlt hne)).trans hv
theorem Slc.grown {α : Type} {w w' : World} {enc : α → List Value} {sz : Nat} {A : Option Addr} {l : List α} {row : Option Nat} (h : Slc w enc sz A l) (hg : w.grownBy w' row) (hne : ∀ b o s, A = some ⟨b, o, s⟩ → some b ≠ row) : Slc w' enc sz A l := fun i x hx => by
  obtain ⟨b, o, e, hlt, hc⟩ := h i x hx
  exact ⟨b, o, e, Nat.lt_of_lt_of_le hlt hg.size, fun j v hj => (World.cell?_of_block (w := w) (a := ⟨b, o + i * sz + j, none⟩) (hg.block b hlt (hne b o none e))).trans (hc j v hj)⟩
theorem le1 (w : World) (o : Obj) : w.heap.size ≤ (w.alloc o).heap.size := by simp
theorem le2 (w : World) (o p : Obj) : w.heap.size ≤ ((w.alloc o).alloc p).heap.size := by simp; omega
theorem le3 (w : World) (o p q : Obj) : w.heap.size ≤ (((w.alloc o).alloc p).alloc q).heap.size := by simp; omega
/-- A step of a region that draws: append, its run known in the form that the laws above give. -/
theorem step_append_of {P : Program} {ops : Array Oper} {o : Oper} {a : Act} {w : World} {K : Act → World → Prop} {Q : Exit → Act → World → Prop} {E : Prop} {R : Value → World → Prop}
    (hg : o.guard = none) (s x : Operand) (t : TypeId) (hop : o.op = Op.call { callee := Callee.builtin Builtin.append, args := #[s, x], argTypes := #[t, t] }) (u v : Value) (hs : a.eval s = u) (hx : a.eval x = v)
    (hrun : ∃ v' w', (Builtin.append_ #[t, t] o.type #[u, v]).run P w = .ok v' w' ∧ R v' w') (hK : ∀ v' w', R v' w' → K (a.put o.dst v') w') :
    if Region.wanted o (yielded ops a.tmps) = true then Oper.wp P o a w K Q else E := by
  have hw : Region.wanted o (yielded ops a.tmps) = true := by simp [Region.wanted, hg]
  rw [if_pos hw]
  obtain ⟨v', w', hr, hR⟩ := hrun
  unfold Oper.wp
  simp [execOp, hop, resolve, invoke, builtin, hs, hx, hr, Result.andThen]
  exact hK v' w' hR
/-- append in a plain region, its run known. -/
theorem wpList_append_run {P : Program} {w : World} {ops : Array Oper} {rest : List Oper} {o : Oper} {a : Act} {Q : Exit → Act → World → Prop}
    (hg : o.guard = none) (s x : Operand) (t : TypeId) (hop : o.op = Op.call { callee := Callee.builtin Builtin.append, args := #[s, x], argTypes := #[t, t] }) (u v : Value) (hs : a.eval s = u) (hx : a.eval x = v)
    {v' : Value} {w' : World} (hrun : (Builtin.append_ #[t, t] o.type #[u, v]).run P w = .ok v' w') (h : wpList P ops Q rest (a.put o.dst v') w') : wpList P ops Q (o :: rest) a w := by
  refine wpList_plain hg fun K hK' => ?_
  unfold Oper.wp
  simp [execOp, hop, resolve, invoke, builtin, hs, hx, hrun, Result.andThen]
  exact hK' _ _ h
end Go.Proofs.Ytmgpbjpohbpgpaa
