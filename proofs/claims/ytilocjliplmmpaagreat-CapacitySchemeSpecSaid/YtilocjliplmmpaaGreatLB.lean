/- append, in words of lists: rows of the call's own; slices that came in. No program in sight. -/
import Derived.Test.YtilocjliplmmpaaGreatLA
import Derived.Maps.AppendAt
import Derived.Deep.RegionLaw
import Derived.ArgAppend
import Derived.WalkKit
import Derived.Maps.Own
import Derived.Maps.OwnOps
import Derived.Maps.OwnSet
import Derived.Laws.Rows
import Derived.Maps.Views
set_option linter.unusedSimpArgs false
set_option linter.unusedVariables false
namespace Go.Proofs.YtilocjliplmmpaaGreat
open Go.RowKit

/-- What is known of the slice type t of elements of type e, each encoded by enc in sz cells and taking b bytes. -/
structure EInfo {α : Type} (P : Program) (t e : TypeId) (enc : α → List Value) (sz b : Nat) : Prop where
  ht : P.underlying t = some (.slice e)
  hi : ∃ i z, P.info? e = some i ∧ i.zero = some z ∧ i.size = sz ∧ i.bytes = b ∧ z.cells.size = sz
  hz : 0 < sz
  hl : ∀ x, (enc x).length = sz
  h1 : ∀ x, ∀ u ∈ enc x, u.oneCell' = true

theorem flat_ones {α : Type} {enc : α → List Value} (h : ∀ x, ∀ u ∈ enc x, u.oneCell' = true) (l : List α) : ∀ u ∈ l.flatMap enc, u.oneCell' = true := by
  intro u hu
  obtain ⟨x, _, hx⟩ := List.mem_flatMap.1 hu
  exact h x u hx

/-- v is a slice in memory of the call's own (from block base on) that holds the list l. -/
def Own {α : Type} (w : World) (base : Nat) (e : TypeId) (enc : α → List Value) (sz : Nat) (v : Value) (l : List α) : Prop := w.ownsRow base e sz v l.length (l.flatMap enc)

section
variable {α : Type} {w w' : World} {base : Nat} {e : TypeId} {enc : α → List Value} {sz : Nat} {v : Value} {l : List α}
theorem Own.nil (w : World) (base : Nat) (e : TypeId) (enc : α → List Value) (sz : Nat) : Own w base e enc sz (.slice none 0 0) ([] : List α) := World.ownsRow_nil w _ e sz
theorem Own.made (w : World) (base : Nat) (e : TypeId) (enc : α → List Value) (sz : Nat) (hb : base ≤ w.heap.size) : Own (w.alloc (.cells #[] e)) base e enc sz (.slice (some ⟨w.heap.size, 0, none⟩) 0 0) ([] : List α) :=
  World.ownsRow_made w #[] 0 hb (by decide) (by simp)
theorem Own.form (h : Own w base e enc sz v l) : ∃ A c, v = .slice A l.length c ∧ l.length ≤ c ∧ (A = none → l = []) ∧ ∀ b o s, A = some ⟨b, o, s⟩ → base ≤ b ∧ o = 0 ∧ s = none ∧ b < w.heap.size ∧ ∃ cur, w.heap[b]? = some (.cells cur e (0, 0)) := by
  rcases h.2 with ⟨hv, h0⟩ | ⟨g, cap, cur, hv, hb, hg, hc, _⟩
  · have hl := List.eq_nil_of_length_eq_zero h0
    subst hl
    exact ⟨none, 0, hv, Nat.le_refl _, fun _ => rfl, fun b o s h => by cases h⟩
  · exact ⟨some ⟨g, 0, none⟩, cap, hv, hc, (fun h => by cases h), fun b o s h => by cases h; exact ⟨hb, rfl, rfl, (Array.getElem?_eq_some_iff.1 hg).1, cur, hg⟩⟩
theorem Own.some_ (h : Own w base e enc sz v l) (hn : 0 < l.length) : ∃ g c cur, v = .slice (some ⟨g, 0, none⟩) l.length c ∧ l.length ≤ c ∧ base ≤ g ∧ g < w.heap.size ∧ w.heap[g]? = some (.cells cur e (0, 0)) := by
  rcases h.2 with ⟨hv, h0⟩ | ⟨g, cap, cur, hv, hb, hg, hc, _⟩
  · omega
  · exact ⟨g, cap, cur, hv, hc, hb, (Array.getElem?_eq_some_iff.1 hg).1, hg⟩
theorem Own.slc {A : Option Addr} {n c : Nat} (hs : ∀ x, (enc x).length = sz) (hz : 0 < sz) (h : Own w base e enc sz (.slice A n c) l) : Slc w enc sz A l := by
  have hn : n = l.length := by
    rcases h.2 with ⟨hv, h0⟩ | ⟨g, cap, cur, hv, _⟩
    · injection hv with h1 h2 h3; omega
    · injection hv with h1 h2 h3
  subst hn
  exact Slc.of_own hs hz h
theorem Own.block (h : Own w base e enc sz v l) (hb : ∀ k, v.ownBlock = some k → w'.heap[k]? = w.heap[k]?) : Own w' base e enc sz v l := by
  obtain ⟨h1, h2⟩ := h
  refine ⟨h1, ?_⟩
  rcases h2 with h2 | ⟨g, cap, cur, hv, hbb, hg, r⟩
  · exact .inl h2
  · exact .inr ⟨g, cap, cur, hv, hbb, (hb g (by rw [hv]; rfl)).trans hg, r⟩
theorem Own.lt (h : Own w base e enc sz v l) : ∀ k, v.ownBlock = some k → k < w.heap.size ∧ base ≤ k := by
  intro k hk
  rcases h.2 with ⟨hv, _⟩ | ⟨g, cap, cur, hv, hbb, hg, r⟩
  · rw [hv] at hk; cases hk
  · rw [hv] at hk; cases hk; exact ⟨(Array.getElem?_eq_some_iff.1 hg).1, hbb⟩
theorem Own.ext (h : Own w base e enc sz v l) (hb : Below w.heap.size w w') : Own w' base e enc sz v l :=
  h.block (fun k hk => hb.block k (h.lt k hk).1)
theorem Own.alloc (h : Own w base e enc sz v l) (o : Obj) : Own (w.alloc o) base e enc sz v l := h.ext ((Below.refl _ _).alloc (Nat.le_refl _) _)
theorem Own.drewN_ (h : Own w base e enc sz v l) (n : Nat) : Own (w.drewN n) base e enc sz v l := h
theorem Own.low {base' : Nat} (h : Own w base e enc sz v l) (hb : base' ≤ base) : Own w base' e enc sz v l := by
  obtain ⟨h1, h2⟩ := h
  refine ⟨h1, ?_⟩
  rcases h2 with h2 | ⟨g, cap, cur, hv, hbb, r⟩
  · exact .inl h2
  · exact .inr ⟨g, cap, cur, hv, Nat.le_trans hb hbb, r⟩
theorem Own.append {P : Program} {t : TypeId} {b : Nat} (I : EInfo P t e enc sz b) (ty : TypeId) (h : Own w base e enc sz v l) {B : Option Addr} {ys : List α} {m : Nat} (hm : m = ys.length) (c : Nat) (hs : Slc w enc sz B ys) (hby : (l.length + ys.length) * b ≤ 140737488355328) (hml : l.length + ys.length ≤ maxLen) (hbase : base ≤ w.heap.size) :
    ∃ v' w', (Builtin.append_ #[t, t] ty #[v, .slice B m c]).run P w = .ok v' w' ∧ Own w' base e enc sz v' (l ++ ys) ∧ w.grownBy w' v.ownBlock ∧ (v'.ownBlock = v.ownBlock ∨ v'.ownBlock = some w.heap.size) := by
  obtain ⟨i, z, hi, hz, hsz, hbb, hzz⟩ := I.hi
  subst hm
  cases B with
  | none =>
    have h0 : ys = [] := List.eq_nil_of_length_eq_zero (hs.none_len rfl)
    subst h0
    obtain ⟨A, c', rfl, hc, _⟩ := h.form
    refine ⟨_, w, ?_, by simpa using h, ⟨rfl, rfl, rfl, Nat.le_refl _, fun _ _ _ => rfl⟩, .inl rfl⟩
    cases A <;> simp [Builtin.append_, run_underlying I.ht, sizeOf, typeInfo, hi, Builtin.lenOf, Builtin.firstCells, hc, storeCells]
  | some a =>
    obtain ⟨v', w', h1, h2, h3, _, h5⟩ := run_append_own_at (P := P) w base t ty e i z sz b I.ht hi hz hsz hbb hzz I.hz v l.length (l.flatMap enc) h a ys.length c (ys.flatMap enc) (flat_len I.hl ys) (hs.olds I.hl a rfl) (flat_ones I.h1 ys) hml hby hbase
    refine ⟨v', w', h1, ?_, h3, h5⟩
    show w'.ownsRow base e sz v' (l ++ ys).length ((l ++ ys).flatMap enc)
    rw [List.length_append, List.flatMap_append]
    exact h2
/-- append to a slice that is full (or clipped): a new row. -/
theorem Slc.append_full {P : Program} {t : TypeId} {b : Nat} (I : EInfo P t e enc sz b) (ty : TypeId) {A : Option Addr} {n cp : Nat} (hn : n = l.length) (h : Slc w enc sz A l) (hA : A = none → cp = 0) {B : Option Addr} {ys : List α} {m : Nat} (hm : m = ys.length) (c : Nat) (hs : Slc w enc sz B ys) (hfull : cp < l.length + ys.length) (hpos : 0 < ys.length) (hby : (l.length + ys.length) * b ≤ 140737488355328) (hml : l.length + ys.length ≤ maxLen) :
    ∃ v' w', (Builtin.append_ #[t, t] ty #[.slice A n cp, .slice B m c]).run P w = .ok v' w' ∧ Own w' w.heap.size e enc sz v' (l ++ ys) ∧ w.grownBy w' none := by
  obtain ⟨i, z, hi, hz, hsz, hbb, hzz⟩ := I.hi
  subst hm hn
  cases B with
  | none => have := hs.none_len rfl; omega
  | some bd =>
    cases A with
    | none =>
      have hl0 : l = [] := List.eq_nil_of_length_eq_zero (h.none_len rfl)
      obtain rfl := hA rfl
      subst hl0
      obtain ⟨v', w', h1, h2, h3, _⟩ := (Own.nil w w.heap.size e enc sz).append I ty (hm := rfl) c hs hby hml (Nat.le_refl _)
      exact ⟨v', w', h1, h2, h3⟩
    | some a =>
      obtain ⟨v', w', h1, h2, h3⟩ := run_append_arg_grows (P := P) w t ty e i z sz b I.ht hi hz hsz hbb hzz I.hz a l.length cp (l.flatMap enc) (flat_len I.hl l) (h.olds I.hl a rfl) bd ys.length c (ys.flatMap enc) (flat_len I.hl ys) (hs.olds I.hl bd rfl) hfull hml hby
      refine ⟨v', w', h1, ?_, h3⟩
      show w'.ownsRow w.heap.size e sz v' (l ++ ys).length ((l ++ ys).flatMap enc)
      rw [List.length_append, List.flatMap_append]
      exact h2
end
theorem slc_lit {α : Type} {enc : α → List Value} {sz : Nat} (w : World) (l : List α) (cs : Array Value) (e : TypeId) (hs : ∀ x, (enc x).length = sz) (hcs : cs = (l.flatMap enc).toArray) : Slc (w.alloc (.cells cs e)) enc sz (some ⟨w.heap.size, 0, none⟩) l := by
  subst hcs
  intro i x hx
  refine ⟨w.heap.size, 0, rfl, by simp, fun j v hj => ?_⟩
  have := cells_new w (l.flatMap enc) e (i * sz + j) v (flat_put hs l i j x v hx hj)
  rw [show (⟨w.heap.size, 0, none⟩ : Addr).add (i * sz + j) = ⟨w.heap.size, 0 + i * sz + j, none⟩ by unfold Addr.add; split <;> simp_all] at this
  exact this
theorem own_lit {α : Type} {enc : α → List Value} {sz : Nat} (w : World) (l : List α) (cs : Array Value) (e : TypeId) (base : Nat) (hb : base ≤ w.heap.size) (hs : ∀ x, (enc x).length = sz) (hm : l.length ≤ maxLen) (hcs : cs = (l.flatMap enc).toArray) : Own (w.alloc (.cells cs e)) base e enc sz (.slice (some ⟨w.heap.size, 0, none⟩) l.length l.length) l := by
  subst hcs
  refine ⟨flat_len hs l, .inr ⟨w.heap.size, l.length, _, rfl, hb, heap_alloc_new w _, Nat.le_refl _, hm, by simp [flat_len hs], ?_⟩⟩
  rw [List.take_of_length_le]
  rw [← flat_len hs l]; exact Nat.le_refl _
theorem Own.madeH {α : Type} (w : World) (base : Nat) (e : TypeId) (enc : α → List Value) (sz : Nat) (hb : base ≤ w.heap.size) (H : Nat) (hH : w.heap.size = H) : Own (w.alloc (.cells #[] e)) base e enc sz (.slice (some ⟨H, 0, none⟩) 0 0) ([] : List α) := by
  subst hH; exact Own.made w base e enc sz hb
theorem slc_litH {α : Type} {enc : α → List Value} {sz : Nat} (w : World) (l : List α) (cs : Array Value) (e : TypeId) (hs : ∀ x, (enc x).length = sz) (hcs : cs = (l.flatMap enc).toArray) (H : Nat) (hH : w.heap.size = H) : Slc (w.alloc (.cells cs e)) enc sz (some ⟨H, 0, none⟩) l := by
  subst hH; exact slc_lit w l cs e hs hcs
theorem own_litH {α : Type} {enc : α → List Value} {sz : Nat} (w : World) (l : List α) (cs : Array Value) (e : TypeId) (base : Nat) (hb : base ≤ w.heap.size) (hs : ∀ x, (enc x).length = sz) (hm : l.length ≤ maxLen) (hcs : cs = (l.flatMap enc).toArray) (H : Nat) (hH : w.heap.size = H) : Own (w.alloc (.cells cs e)) base e enc sz (.slice (some ⟨H, 0, none⟩) l.length l.length) l := by
  subst hH; exact own_lit w l cs e base hb hs hm hcs
theorem Own.drew_ {α : Type} {w : World} {base : Nat} {e : TypeId} {enc : α → List Value} {sz : Nat} {v : Value} {l : List α} (h : Own w base e enc sz v l) : Own w.drew base e enc sz v l := h
theorem sz_drew (w : World) : w.drew.heap.size = w.heap.size := rfl
theorem cell_drew (w : World) (a : Addr) : w.drew.cell? a = w.cell? a := rfl
theorem far {w w' : World} {row : Option Nat} (hg : w.grownBy w' row) (b : Nat) (hlt : b < w.heap.size) (hne : some b ≠ row) (o : Nat) (v : Option Value) (hv : w.cell? ⟨b, o, none⟩ = v) : w'.cell? ⟨b, o, none⟩ = v :=
  (World.cell?_of_block (hg.block b hlt hne)).trans hv
theorem Slc.grown {α : Type} {w w' : World} {enc : α → List Value} {sz : Nat} {A : Option Addr} {l : List α} {row : Option Nat} (h : Slc w enc sz A l) (hg : w.grownBy w' row) (hne : ∀ b o s, A = some ⟨b, o, s⟩ → some b ≠ row) : Slc w' enc sz A l := fun i x hx => by
  obtain ⟨b, o, e, hlt, hc⟩ := h i x hx
  exact ⟨b, o, e, Nat.lt_of_lt_of_le hlt hg.size, fun j v hj => (World.cell?_of_block (w := w) (a := ⟨b, o + i * sz + j, none⟩) (hg.block b hlt (hne b o none e))).trans (hc j v hj)⟩
theorem le1 (w : World) (o : Obj) : w.heap.size ≤ (w.alloc o).heap.size := by simp
theorem le2 (w : World) (o p : Obj) : w.heap.size ≤ ((w.alloc o).alloc p).heap.size := by simp; omega
theorem le3 (w : World) (o p q : Obj) : w.heap.size ≤ (((w.alloc o).alloc p).alloc q).heap.size := by simp; omega
/-- A step of a region that draws: append, its run known in the form that the laws above give. -/
theorem step_append_of {P : Program} {ops : Array Oper} {o : Oper} {a : Act} {w : World} {K : Act → World → Prop} {Q : Exit → Act → World → Prop} {E : Prop} {R : Value → World → Prop}
    (hg : o.guard = none) (s x : Operand) (t : TypeId) (hop : o.op = Op.call { callee := Callee.builtin Builtin.append, args := #[s, x], argTypes := #[t, t] }) (u v : Value) (hs : a.eval s = u) (hx : a.eval x = v)
    (hrun : ∃ v' w', (Builtin.append_ #[t, t] o.type #[u, v]).run P w = .ok v' w' ∧ R v' w') (hK : ∀ v' w', R v' w' → K (a.put o.dst v') w') :
    if Region.wanted o (yielded ops a.tmps) = true then Oper.wp P o a w K Q else E := by
  have hw : Region.wanted o (yielded ops a.tmps) = true := by simp [Region.wanted, hg]
  rw [if_pos hw]
  obtain ⟨v', w', hr, hR⟩ := hrun
  unfold Oper.wp
  simp [execOp, hop, resolve, invoke, builtin, hs, hx, hr, Result.andThen]
  exact hK v' w' hR
/-- append in a plain region, its run known. -/
theorem wpList_append_run {P : Program} {w : World} {ops : Array Oper} {rest : List Oper} {o : Oper} {a : Act} {Q : Exit → Act → World → Prop}
    (hg : o.guard = none) (s x : Operand) (t : TypeId) (hop : o.op = Op.call { callee := Callee.builtin Builtin.append, args := #[s, x], argTypes := #[t, t] }) (u v : Value) (hs : a.eval s = u) (hx : a.eval x = v)
    {v' : Value} {w' : World} (hrun : (Builtin.append_ #[t, t] o.type #[u, v]).run P w = .ok v' w') (h : wpList P ops Q rest (a.put o.dst v') w') : wpList P ops Q (o :: rest) a w := by
  refine wpList_plain hg fun K hK' => ?_
  unfold Oper.wp
  simp [execOp, hop, resolve, invoke, builtin, hs, hx, hrun, Result.andThen]
  exact hK' _ _ h
end Go.Proofs.YtilocjliplmmpaaGreat
/- append to a clipped slice, whatever is appended; a slice's head and tail; a whole block. No program in sight. -/
set_option linter.unusedSimpArgs false
set_option linter.unusedVariables false
namespace Go.Proofs.YtilocjliplmmpaaGreat
open Go.RowKit
section
variable {α : Type} {w w' : World} {base : Nat} {e : TypeId} {enc : α → List Value} {sz : Nat} {v : Value} {l : List α}
theorem Own.cap (h : Own w base e enc sz v l) : ∃ A c, v = .slice A l.length c ∧ l.length ≤ c ∧ c ≤ maxLen ∧ (A = none → c = 0) := by
  rcases h.2 with ⟨hv, h0⟩ | ⟨g, cap, cur, hv, hb, hg, hc, hm, _⟩
  · exact ⟨none, 0, by rw [hv, h0], by omega, by simp, fun _ => rfl⟩
  · exact ⟨_, cap, hv, hc, hm, fun h => by cases h⟩
/-- What append leaves: a slice that reads as the list, in a world that lies on the old one. -/
def Grown (w : World) (A0 : Option Addr) (k : Nat) (enc : α → List Value) (sz : Nat) (l : List α) (v : Value) (w' : World) : Prop :=
  ∃ A c, v = .slice A l.length c ∧ Slc w' enc sz A l ∧ Below w.heap.size w w' ∧ l.length ≤ c ∧ c ≤ maxLen ∧ (A = none → c = 0) ∧ (A = A0 ∧ l.length = k ∨ ∀ b o s, A = some ⟨b, o, s⟩ → w.heap.size ≤ b)
theorem Slc.append_any {P : Program} {t : TypeId} {b : Nat} (I : EInfo P t e enc sz b) (ty : TypeId) {A : Option Addr} {n cp : Nat} (hn : n = l.length) (hcp : cp = l.length) (h : Slc w enc sz A l) {B : Option Addr} {ys : List α} {m : Nat} (hm : m = ys.length) (c : Nat) (hs : Slc w enc sz B ys)
    (hby : (l.length + ys.length) * b ≤ 140737488355328) (hml : l.length + ys.length ≤ maxLen) :
    ∃ v' w', (Builtin.append_ #[t, t] ty #[.slice A n cp, .slice B m c]).run P w = .ok v' w' ∧ Grown w A l.length enc sz (l ++ ys) v' w' := by
  have hA : A = none → cp = 0 := fun e => by rw [hcp]; exact h.none_len e
  rcases Nat.eq_zero_or_pos ys.length with h0 | h0
  · obtain rfl := List.eq_nil_of_length_eq_zero h0
    obtain ⟨i, z, hi, hz, hsz, hbb, hzz⟩ := I.hi
    subst hm hn hcp
    refine ⟨.slice A l.length l.length, w, ?_, A, l.length, by simp, by simpa using h, ext_refl w, by simp, by simpa using hml, hA, .inl ⟨rfl, by simp⟩⟩
    cases A <;> cases B <;> simp [Builtin.append_, run_underlying I.ht, sizeOf, typeInfo, hi, Builtin.lenOf, Builtin.firstCells, storeCells, loadCells, loadCellsFrom, Result.andThen]
  · obtain ⟨v', w', h1, h2, h3⟩ := h.append_full I ty hn hA hm c hs (by omega) h0 hby hml
    obtain ⟨A', c', rfl, k1, k2, k3⟩ := h2.cap
    exact ⟨_, w', h1, A', c', rfl, h2.slc I.hl I.hz, ⟨h3.os, h3.tape, h3.output, h3.size, fun k hk => h3.block k hk (by simp)⟩, k1, k2, k3, .inr (fun b o s e => (h2.lt b (by rw [e]; rfl)).2)⟩
theorem ext_grown {w0 w w' : World} {row : Option Nat} (hE : Below w0.heap.size w0 w) (hg : w.grownBy w' row) (hr : ∀ r, row = some r → w0.heap.size ≤ r) : Below w0.heap.size w0 w' :=
  ⟨hg.os.trans hE.os, hg.tape.trans hE.tape, hg.output.trans hE.output, Nat.le_trans hE.size hg.size, fun k hk => (hg.block k (Nat.lt_of_lt_of_le hk hE.size) (fun e => by have := hr k e.symm; omega)).trans (hE.block k hk)⟩
theorem Own.append_to {w0 : World} {P : Program} {t : TypeId} {b : Nat} (I : EInfo P t e enc sz b) (ty : TypeId) (h : Own w w0.heap.size e enc sz v l) (hE : Below w0.heap.size w0 w) {B : Option Addr} {ys : List α} {m : Nat} (hm : m = ys.length) (c : Nat) (hs : Slc w enc sz B ys)
    (hby : (l.length + ys.length) * b ≤ 140737488355328) (hml : l.length + ys.length ≤ maxLen) :
    ∃ v' w', (Builtin.append_ #[t, t] ty #[v, .slice B m c]).run P w = .ok v' w' ∧ ∃ A c, v' = .slice A (l ++ ys).length c ∧ Own w' w0.heap.size e enc sz (.slice A (l ++ ys).length c) (l ++ ys) ∧ Below w0.heap.size w0 w' ∧ w.grownBy w' v.ownBlock ∧ (l ++ ys).length ≤ c ∧ c ≤ maxLen := by
  obtain ⟨v', w', h1, h2, h3, _⟩ := h.append I ty hm c hs hby hml hE.size
  obtain ⟨A, c', rfl, k1, k2, _⟩ := h2.cap
  exact ⟨_, w', h1, A, c', rfl, h2, ext_grown hE h3 (fun r e => (h.lt r e).2), h3, k1, k2⟩
/-- A row that does not lie in block b (an empty one lies nowhere). -/
def rowOff (A : Option Addr) (l : List α) (b : Nat) : Prop := l ≠ [] → ∀ c o s, A = some ⟨c, o, s⟩ → c ≠ b
theorem Slc.rowOff {A : Option Addr} (h : Slc w enc sz A l) {b : Nat} (hb : w.heap.size ≤ b) : Go.Proofs.YtilocjliplmmpaaGreat.rowOff A l b := by
  intro hl c o s e hc
  cases l with
  | nil => exact hl rfl
  | cons x xs =>
    obtain ⟨b', o', e', hlt, _⟩ := h 0 x rfl
    rw [e'] at e; cases e; omega
/-- A store elsewhere. -/
theorem Slc.far {A : Option Addr} (h : Slc w enc sz A l) {p : Addr} {v : Value} (hp : Go.Proofs.YtilocjliplmmpaaGreat.rowOff A l p.block) : Slc (w.setCell p v) enc sz A l := fun i x hx => by
  obtain ⟨b, o, rfl, hlt, hc⟩ := h i x hx
  refine ⟨b, o, rfl, by simpa [World.setCell] using hlt, fun j u hj => ?_⟩
  rw [World.cell?_setCell_other _ _ _ _ (by intro e; exact hp (by intro h0; rw [h0] at hx; simp at hx) b o none rfl (by rw [e]))]
  exact hc j u hj
theorem Slc.take {A : Option Addr} (h : Slc w enc sz A l) (k : Nat) : Slc w enc sz A (l.take k) := fun i x hx => by
  rw [List.getElem?_take] at hx
  split at hx
  · exact h i x hx
  · cases hx
theorem Slc.drop {A : Option Addr} (h : Slc w enc sz A l) (k : Nat) : Slc w enc sz (A.map (·.add (k * sz))) (l.drop k) := fun i x hx => by
  rw [List.getElem?_drop] at hx
  obtain ⟨b, o, rfl, hlt, hc⟩ := h (k + i) x hx
  refine ⟨b, o + k * sz, ?_, hlt, fun j v hj => ?_⟩
  · simp only [Option.map_some, Option.some.injEq]
    unfold Addr.add
    split
    · rename_i h0; simp [h0]
    · rfl
  · have := hc j v hj
    rw [Nat.add_mul] at this
    rw [show o + k * sz + i * sz + j = o + (k * sz + i * sz) + j by omega]
    exact this
/-- The slice s[k:], as Go lays it. -/
theorem Slc.from_ {A : Option Addr} (h : Slc w enc sz A l) (k c : Nat) (hc : l.length ≤ c) : Slc w enc sz (if c = k then A else A.map (·.add (k * sz))) (l.drop k) := by
  split
  · rename_i e; rw [List.drop_eq_nil_of_le (by omega)]; exact Slc.nil
  · exact h.drop k
end
/-- A block known whole. -/
structure Blk (w : World) (b : Nat) (cs : List Value) : Prop where
  lt : b < w.heap.size
  c : ∀ j v, cs[j]? = some v → w.cell? ⟨b, j, none⟩ = some v
  f : ∀ j, w.frozen? ⟨b, j, none⟩ = false
theorem Blk.ext {w w' : World} {b : Nat} {cs : List Value} (h : Blk w b cs) (hb : Below w.heap.size w w') : Blk w' b cs :=
  ⟨Nat.lt_of_lt_of_le h.lt hb.size, fun j v hj => (hb.cell (p := ⟨b, j, none⟩) h.lt).trans (h.c j v hj), fun j => (hb.frozen (p := ⟨b, j, none⟩) h.lt).trans (h.f j)⟩
theorem Blk.new (w : World) (cs : List Value) (t : TypeId) : Blk (w.alloc (.cells cs.toArray t)) w.heap.size cs :=
  ⟨by simp, fun j v hj => by rw [cell_of_row _ w.heap.size j cs.toArray t (0, 0) (heap_alloc_new w _)]; simpa using hj, fun j => by simp⟩
theorem Blk.newH (w : World) (cs : List Value) (t : TypeId) (H : Nat) (hH : w.heap.size = H) : Blk (w.alloc (.cells cs.toArray t)) H cs := by
  subst hH; exact Blk.new w cs t
theorem Blk.alloc {w : World} {b : Nat} {cs : List Value} (h : Blk w b cs) (o : Obj) : Blk (w.alloc o) b cs := h.ext (ext_alloc (ext_refl w) o)
theorem Blk.drew {w : World} {b : Nat} {cs : List Value} (h : Blk w b cs) : Blk w.drew b cs := h.ext (ext_drew (ext_refl w))
theorem Blk.set {w : World} {b : Nat} {cs : List Value} (h : Blk w b cs) {j : Nat} (hj : j < cs.length) (v : Value) : Blk (w.setCell ⟨b, j, none⟩ v) b (cs.set j v) := by
  refine ⟨by simpa [World.setCell] using h.lt, fun i u hu => ?_, fun i => by simpa using h.f i⟩
  rw [List.getElem?_set] at hu
  split at hu
  · rename_i e
    subst e
    try rw [if_pos hj] at hu
    cases hu
    exact World.cell?_setCell_same' _ _ _ (by rw [h.c j _ (List.getElem?_eq_getElem hj)]; rfl)
  · rename_i e
    rw [World.cell?_setCell_other _ _ _ _ (by intro e'; injection e' with _ e'; exact e e')]
    exact h.c i u hu
theorem Blk.other {w : World} {b : Nat} {cs : List Value} (h : Blk w b cs) {p : Addr} (v : Value) (hp : p.block ≠ b) : Blk (w.setCell p v) b cs :=
  ⟨by simpa [World.setCell] using h.lt, fun i u hu => by
    rw [World.cell?_setCell_other _ _ _ _ (by intro e'; exact hp (by rw [e']))]
    exact h.c i u hu, fun i => by simpa using h.f i⟩
/-- A whole struct of two or three cells stored. -/
def set2 (w : World) (b : Nat) (u v : Value) : World := (w.setCell ⟨b, 0, none⟩ u).setCell ⟨b, 1, none⟩ v
def set3 (w : World) (b : Nat) (u v x : Value) : World := ((w.setCell ⟨b, 0, none⟩ u).setCell ⟨b, 1, none⟩ v).setCell ⟨b, 2, none⟩ x
theorem Blk.put2 {w : World} {b : Nat} {a0 a1 : Value} (h : Blk w b [a0, a1]) (u v : Value) : Blk (set2 w b u v) b [u, v] := (h.set (j := 0) (by simp) u).set (j := 1) (by simp) v
theorem Blk.put3 {w : World} {b : Nat} {a0 a1 a2 : Value} (h : Blk w b [a0, a1, a2]) (u v x : Value) : Blk (set3 w b u v x) b [u, v, x] := ((h.set (j := 0) (by simp) u).set (j := 1) (by simp) v).set (j := 2) (by simp) x
theorem Blk.off2 {w : World} {b c : Nat} {cs : List Value} (h : Blk w b cs) (u v : Value) (hc : c ≠ b) : Blk (set2 w c u v) b cs := (h.other (p := ⟨c, 0, none⟩) u hc).other (p := ⟨c, 1, none⟩) v hc
theorem Blk.off3 {w : World} {b c : Nat} {cs : List Value} (h : Blk w b cs) (u v x : Value) (hc : c ≠ b) : Blk (set3 w c u v x) b cs := ((h.other (p := ⟨c, 0, none⟩) u hc).other (p := ⟨c, 1, none⟩) v hc).other (p := ⟨c, 2, none⟩) x hc
theorem below_set {B : Nat} {a b : World} (h : Below B a b) (p : Addr) (v : Value) (hp : B ≤ p.block) : Below B a (b.setCell p v) := h.setCell (p := p) hp v
theorem ext_set2 {a b : World} (h : Below a.heap.size a b) (c : Nat) (u v : Value) (hc : a.heap.size ≤ c) : Below a.heap.size a (set2 b c u v) := below_set (below_set h ⟨c, 0, none⟩ u hc) ⟨c, 1, none⟩ v hc
theorem ext_set3 {a b : World} (h : Below a.heap.size a b) (c : Nat) (u v x : Value) (hc : a.heap.size ≤ c) : Below a.heap.size a (set3 b c u v x) := below_set (below_set (below_set h ⟨c, 0, none⟩ u hc) ⟨c, 1, none⟩ v hc) ⟨c, 2, none⟩ x hc
theorem set2_size (w : World) (b : Nat) (u v : Value) : (set2 w b u v).heap.size = w.heap.size := by simp [set2]
theorem set3_size (w : World) (b : Nat) (u v x : Value) : (set3 w b u v x).heap.size = w.heap.size := by simp [set3]
/-- Stores into blocks that lie behind the old ones. -/
theorem ext_set {a b : World} (h : Below a.heap.size a b) (p : Addr) (v : Value) (hp : a.heap.size ≤ p.block) : Below a.heap.size a (b.setCell p v) := h.setCell (p := p) hp v
end Go.Proofs.YtilocjliplmmpaaGreat
/- A struct of four or five cells stored. No program in sight. -/
set_option linter.unusedSimpArgs false
set_option linter.unusedVariables false
namespace Go.Proofs.YtilocjliplmmpaaGreat
open Go.RowKit
def set1 (w : World) (b : Nat) (v0 : Value) : World := w.setCell ⟨b, 0, none⟩ v0
def set4 (w : World) (b : Nat) (v0 v1 v2 v3 : Value) : World := (((w.setCell ⟨b, 0, none⟩ v0).setCell ⟨b, 1, none⟩ v1).setCell ⟨b, 2, none⟩ v2).setCell ⟨b, 3, none⟩ v3
def set5 (w : World) (b : Nat) (v0 v1 v2 v3 v4 : Value) : World := ((((w.setCell ⟨b, 0, none⟩ v0).setCell ⟨b, 1, none⟩ v1).setCell ⟨b, 2, none⟩ v2).setCell ⟨b, 3, none⟩ v3).setCell ⟨b, 4, none⟩ v4
theorem Blk.put4 {w : World} {b : Nat} {a0 a1 a2 a3 : Value} (h : Blk w b [a0, a1, a2, a3]) (v0 v1 v2 v3 : Value) : Blk (set4 w b v0 v1 v2 v3) b [v0, v1, v2, v3] :=
  (((h.set (j := 0) (by simp) v0).set (j := 1) (by simp) v1).set (j := 2) (by simp) v2).set (j := 3) (by simp) v3
theorem Blk.put5 {w : World} {b : Nat} {a0 a1 a2 a3 a4 : Value} (h : Blk w b [a0, a1, a2, a3, a4]) (v0 v1 v2 v3 v4 : Value) : Blk (set5 w b v0 v1 v2 v3 v4) b [v0, v1, v2, v3, v4] :=
  ((((h.set (j := 0) (by simp) v0).set (j := 1) (by simp) v1).set (j := 2) (by simp) v2).set (j := 3) (by simp) v3).set (j := 4) (by simp) v4
theorem Blk.off4 {w : World} {b c : Nat} {cs : List Value} (h : Blk w b cs) (v0 v1 v2 v3 : Value) (hc : c ≠ b) : Blk (set4 w c v0 v1 v2 v3) b cs :=
  (((h.other (p := ⟨c, 0, none⟩) v0 hc).other (p := ⟨c, 1, none⟩) v1 hc).other (p := ⟨c, 2, none⟩) v2 hc).other (p := ⟨c, 3, none⟩) v3 hc
theorem Blk.off5 {w : World} {b c : Nat} {cs : List Value} (h : Blk w b cs) (v0 v1 v2 v3 v4 : Value) (hc : c ≠ b) : Blk (set5 w c v0 v1 v2 v3 v4) b cs :=
  ((((h.other (p := ⟨c, 0, none⟩) v0 hc).other (p := ⟨c, 1, none⟩) v1 hc).other (p := ⟨c, 2, none⟩) v2 hc).other (p := ⟨c, 3, none⟩) v3 hc).other (p := ⟨c, 4, none⟩) v4 hc
theorem ext_set4 {a b : World} (h : Below a.heap.size a b) (c : Nat) (v0 v1 v2 v3 : Value) (hc : a.heap.size ≤ c) : Below a.heap.size a (set4 b c v0 v1 v2 v3) :=
  below_set (below_set (below_set (below_set h ⟨c, 0, none⟩ v0 hc) ⟨c, 1, none⟩ v1 hc) ⟨c, 2, none⟩ v2 hc) ⟨c, 3, none⟩ v3 hc
theorem ext_set5 {a b : World} (h : Below a.heap.size a b) (c : Nat) (v0 v1 v2 v3 v4 : Value) (hc : a.heap.size ≤ c) : Below a.heap.size a (set5 b c v0 v1 v2 v3 v4) :=
  below_set (below_set (below_set (below_set (below_set h ⟨c, 0, none⟩ v0 hc) ⟨c, 1, none⟩ v1 hc) ⟨c, 2, none⟩ v2 hc) ⟨c, 3, none⟩ v3 hc) ⟨c, 4, none⟩ v4 hc
theorem set4_size (w : World) (b : Nat) (v0 v1 v2 v3 : Value) : (set4 w b v0 v1 v2 v3).heap.size = w.heap.size := by simp [set4]
theorem set5_size (w : World) (b : Nat) (v0 v1 v2 v3 v4 : Value) : (set5 w b v0 v1 v2 v3 v4).heap.size = w.heap.size := by simp [set5]
theorem Slc.far4 {α : Type} {w : World} {enc : α → List Value} {sz : Nat} {l : List α} {A : Option Addr} (h : Slc w enc sz A l) {b : Nat} (v0 v1 v2 v3 : Value) (hp : Go.Proofs.YtilocjliplmmpaaGreat.rowOff A l b) : Slc (set4 w b v0 v1 v2 v3) enc sz A l :=
  (((h.far (p := ⟨b, 0, none⟩) hp).far (p := ⟨b, 1, none⟩) hp).far (p := ⟨b, 2, none⟩) hp).far (p := ⟨b, 3, none⟩) hp
theorem Slc.far5 {α : Type} {w : World} {enc : α → List Value} {sz : Nat} {l : List α} {A : Option Addr} (h : Slc w enc sz A l) {b : Nat} (v0 v1 v2 v3 v4 : Value) (hp : Go.Proofs.YtilocjliplmmpaaGreat.rowOff A l b) : Slc (set5 w b v0 v1 v2 v3 v4) enc sz A l :=
  ((((h.far (p := ⟨b, 0, none⟩) hp).far (p := ⟨b, 1, none⟩) hp).far (p := ⟨b, 2, none⟩) hp).far (p := ⟨b, 3, none⟩) hp).far (p := ⟨b, 4, none⟩) hp
theorem Blk.keepB {w w' : World} {b : Nat} {cs : List Value} (h : Blk w b cs) (hb : w'.heap[b]? = w.heap[b]?) : Blk w' b cs :=
  ⟨by have := h.lt; have h1 : w'.heap[b]? = some w.heap[b] := hb.trans (Array.getElem?_eq_getElem this); exact (Array.getElem?_eq_some_iff.1 h1).1,
    fun j v hj => (World.cell?_of_block (w := w) (a := ⟨b, j, none⟩) hb).trans (h.c j v hj), fun j => (World.frozen?_of_block (w := w) (a := ⟨b, j, none⟩) hb).trans (h.f j)⟩
/-- A row elsewhere, while another one grows. -/
theorem Slc.grown2 {α : Type} {w w' : World} {enc : α → List Value} {sz : Nat} {A : Option Addr} {l : List α} {row : Option Nat} (h : Slc w enc sz A l) (hg : w.grownBy w' row) (hr : ∀ r, row = some r → Go.Proofs.YtilocjliplmmpaaGreat.rowOff A l r) : Slc w' enc sz A l := fun i x hx => by
  obtain ⟨b, o, rfl, hlt, hc⟩ := h i x hx
  refine ⟨b, o, rfl, Nat.lt_of_lt_of_le hlt hg.size, fun j v hj => (World.cell?_of_block (w := w) (a := ⟨b, o + i * sz + j, none⟩) (hg.block b hlt (fun e => ?_))).trans (hc j v hj)⟩
  exact hr b e.symm (by intro h0; rw [h0] at hx; simp at hx) b o none rfl rfl
/-- append to a row of the call's own, what comes out named. -/
theorem Own.append_k {α : Type} {w w0 : World} {enc : α → List Value} {sz : Nat} {e : TypeId} {v : Value} {l : List α} {P : Program} {t : TypeId} {b : Nat} (I : EInfo P t e enc sz b) (ty : TypeId) (h : Own w w0.heap.size e enc sz v l) (hE : Below w0.heap.size w0 w) {B : Option Addr} {ys : List α} {m : Nat} (hm : m = ys.length) (c : Nat) (hs : Slc w enc sz B ys)
    (r : List α) (hr : l ++ ys = r) (k : Nat) (hk : r.length = k) (hby : k * b ≤ 140737488355328) (hml : k ≤ maxLen) :
    ∃ v' w', (Builtin.append_ #[t, t] ty #[v, .slice B m c]).run P w = .ok v' w' ∧ ∃ A c, v' = .slice A k c ∧ Own w' w0.heap.size e enc sz (.slice A k c) r ∧ Below w0.heap.size w0 w' ∧ w.grownBy w' v.ownBlock ∧ k ≤ c ∧ c ≤ maxLen := by
  subst hr hk
  exact h.append_to I ty hE hm c hs (by rw [← List.length_append]; exact hby) (by rw [← List.length_append]; exact hml)
end Go.Proofs.YtilocjliplmmpaaGreat
/- Words for a map that the call itself makes, keyed by int, its elements bools or ints, read as a function. No program in sight. -/
set_option linter.unusedSimpArgs false
set_option linter.unusedVariables false
namespace Go.Proofs.YtilocjliplmmpaaGreat
open Go.RowKit Go.Maps

/-- Block b is a map of at most n entries; at every key that fits it reads as f says (false where there is none). -/
def BMap (P : Program) (k e : TypeId) (w : World) (b n : Nat) (f : Int → Bool) : Prop :=
  ∃ D : DataW Unit, w.ownsMap P k (plainElem P e) b n D ∧ IsMap D ∧ ∀ i, (Lit.int .i64 i).wf = true → D.atKey (.int .i64 i) (.lit (.bool false)) = .lit (.bool (f i))
/-- The same, its elements ints. -/
def NMap (P : Program) (k e : TypeId) (w : World) (b n : Nat) (f : Int → Int) : Prop :=
  ∃ D : DataW Unit, w.ownsMap P k (plainElem P e) b n D ∧ IsMap D ∧ ∀ i, (Lit.int .i64 i).wf = true → D.atKey (.int .i64 i) (.lit (.int .i64 0)) = .lit (.int .i64 (f i))

theorem plainElem_bool_inv {H : Type} {P : Program} {e : TypeId} (he : P.underlying e = some .bool) {v : Value} {z : DataW H × List MemPlace} (h : plainElem P e v = some z) : ∃ a, v = .bool a ∧ z = (.lit (.bool a), []) := by
  unfold plainElem at h
  rw [he] at h
  cases v <;> simp at h
  exact ⟨_, rfl, h.symm⟩

section
variable {P : Program} {k e t : TypeId} {w w' : World} {b n : Nat}
theorem BMap.made (w : World) : BMap P k e (w.alloc (.map #[] 0)) w.heap.size 0 (fun _ => false) :=
  ⟨.map [], World.ownsMap_made _ _ _ _, isMap_empty, fun _ _ => rfl⟩
theorem NMap.made (w : World) : NMap P k e (w.alloc (.map #[] 0)) w.heap.size 0 (fun _ => 0) :=
  ⟨.map [], World.ownsMap_made _ _ _ _, isMap_empty, fun _ _ => rfl⟩
theorem ownsMap_block {H : Type} {R : Value → Option (DataW H × List MemPlace)} {D : DataW H} (h : w.ownsMap P k R b n D) (hh : w'.heap[b]? = w.heap[b]?) : w'.ownsMap P k R b n D := by
  obtain ⟨es, cl, hb, r⟩ := h
  exact ⟨es, cl, hh.trans hb, r⟩
theorem ownsMap_lt {H : Type} {R : Value → Option (DataW H × List MemPlace)} {D : DataW H} (h : w.ownsMap P k R b n D) : b < w.heap.size := by
  obtain ⟨es, cl, hb, r⟩ := h
  exact (Array.getElem?_eq_some_iff.1 hb).1
theorem BMap.lt {f : Int → Bool} (h : BMap P k e w b n f) : b < w.heap.size := let ⟨_, h, _⟩ := h; ownsMap_lt h
theorem NMap.lt {f : Int → Int} (h : NMap P k e w b n f) : b < w.heap.size := let ⟨_, h, _⟩ := h; ownsMap_lt h
theorem BMap.block {f : Int → Bool} (h : BMap P k e w b n f) (hh : w'.heap[b]? = w.heap[b]?) : BMap P k e w' b n f :=
  let ⟨D, h, r⟩ := h; ⟨D, ownsMap_block h hh, r⟩
theorem NMap.block {f : Int → Int} (h : NMap P k e w b n f) (hh : w'.heap[b]? = w.heap[b]?) : NMap P k e w' b n f :=
  let ⟨D, h, r⟩ := h; ⟨D, ownsMap_block h hh, r⟩
theorem BMap.ext {f : Int → Bool} (h : BMap P k e w b n f) (hb : Below w.heap.size w w') : BMap P k e w' b n f := h.block (hb.block b h.lt)
theorem NMap.ext {f : Int → Int} (h : NMap P k e w b n f) (hb : Below w.heap.size w w') : NMap P k e w' b n f := h.block (hb.block b h.lt)

theorem BMap.mono_ {f : Int → Bool} {n' : Nat} (h : BMap P k e w b n f) (hn : n ≤ n') : BMap P k e w b n' f := by
  obtain ⟨D, ⟨es, cl, h1, h2, h3, h4⟩, r⟩ := h
  exact ⟨D, ⟨es, cl, h1, h2, Nat.le_trans h3 hn, h4⟩, r⟩
theorem NMap.mono_ {f : Int → Int} {n' : Nat} (h : NMap P k e w b n f) (hn : n ≤ n') : NMap P k e w b n' f := by
  obtain ⟨D, ⟨es, cl, h1, h2, h3, h4⟩, r⟩ := h
  exact ⟨D, ⟨es, cl, h1, h2, Nat.le_trans h3 hn, h4⟩, r⟩
theorem BMap.look {f : Int → Bool} (h : BMap P k e w b n f) (hk : P.underlying k = some (.int .i64)) (ht : P.underlying t = some (.map k e)) (he : P.underlying e = some .bool) (hz : (zeroValue e).run P w = .ok (.bool false) w)
    (i : Int) (hi : (Lit.int .i64 i).wf = true) : (Instr.lookup t (.map (some b)) (.int .i64 i) false).run P w = .ok (.bool (f i)) w := by
  obtain ⟨D, h, hm, hf⟩ := h
  obtain ⟨v, ps, hrun, hv⟩ := h.lookup (int_keyed hk) ht hz (plainElem_bool he false) (keyOf_int_mk hk hi)
  obtain ⟨c, rfl, hc⟩ := plainElem_bool_inv he hv
  rw [hf i hi] at hc
  simp only [Prod.mk.injEq, DataW.lit.injEq, Lit.bool.injEq] at hc
  rw [hrun, hc.1]
theorem NMap.look {f : Int → Int} (h : NMap P k e w b n f) (hk : P.underlying k = some (.int .i64)) (ht : P.underlying t = some (.map k e)) (he : P.underlying e = some (.int .i64)) (hz : (zeroValue e).run P w = .ok (.int .i64 0) w)
    (i : Int) (hi : (Lit.int .i64 i).wf = true) : (Instr.lookup t (.map (some b)) (.int .i64 i) false).run P w = .ok (.int .i64 (f i)) w := by
  obtain ⟨D, h, hm, hf⟩ := h
  obtain ⟨c, hrun, hc, _⟩ := h.lookup_int (int_keyed hk) ht he hz (keyOf_int_mk hk hi)
  rw [hf i hi] at hc
  simp only [DataW.lit.injEq, Lit.int.injEq, true_and] at hc
  rw [hrun, hc]
theorem BMap.put {f : Int → Bool} (h : BMap P k e w b n f) (hk : P.underlying k = some (.int .i64)) (ht : P.underlying t = some (.map k e)) (he : P.underlying e = some .bool) (hn : n < maxLen)
    (i : Int) (x : Bool) (hi : (Lit.int .i64 i).wf = true) : ∃ w', (Instr.mapUpdate t (.map (some b)) (.int .i64 i) (.bool x)).run P w = .ok () w' ∧ BMap P k e w' b (n + 1) (fun j => if j = i then x else f j) ∧ w.grownBy w' (some b) := by
  obtain ⟨D, h, hm, hf⟩ := h
  obtain ⟨w', hrun, ho, hg⟩ := h.update (int_keyed hk) ht hn (keyOf_int_mk hk hi) (plainElem_bool he x)
  refine ⟨w', hrun, ⟨_, ho, hm.put _ _, fun j hj => ?_⟩, hg⟩
  by_cases e : j = i
  · subst e; rw [atKey_put_same hm ((int_keyed hk).key (keyOf_int_mk hk hi))]; simp
  · rw [atKey_put_other (by simpa using e), hf j hj]; simp [e]
theorem NMap.put {f : Int → Int} (h : NMap P k e w b n f) (hk : P.underlying k = some (.int .i64)) (ht : P.underlying t = some (.map k e)) (he : P.underlying e = some (.int .i64)) (hn : n < maxLen)
    (i : Int) (x : Int) (hi : (Lit.int .i64 i).wf = true) (hx : (Lit.int .i64 x).wf = true) : ∃ w', (Instr.mapUpdate t (.map (some b)) (.int .i64 i) (.int .i64 x)).run P w = .ok () w' ∧ NMap P k e w' b (n + 1) (fun j => if j = i then x else f j) ∧ w.grownBy w' (some b) := by
  obtain ⟨D, h, hm, hf⟩ := h
  obtain ⟨w', hrun, ho, hg⟩ := h.update (int_keyed hk) ht hn (keyOf_int_mk hk hi) (plainElem_int he hx)
  refine ⟨w', hrun, ⟨_, ho, hm.put _ _, fun j hj => ?_⟩, hg⟩
  by_cases e : j = i
  · subst e; rw [atKey_put_same hm ((int_keyed hk).key (keyOf_int_mk hk hi))]; simp
  · rw [atKey_put_other (by simpa using e), hf j hj]; simp [e]
end
end Go.Proofs.YtilocjliplmmpaaGreat
/- A cell of a row of the call's own is written. No program in sight. -/
set_option linter.unusedSimpArgs false
set_option linter.unusedVariables false
namespace Go.Proofs.YtilocjliplmmpaaGreat
open Go.RowKit
theorem flat_set {α : Type} {enc : α → List Value} {sz : Nat} (hs : ∀ x, (enc x).length = sz) : ∀ (l : List α) (k r : Nat) (x y : α) (v : Value), l[k]? = some x → r < sz → enc y = (enc x).set r v → (l.set k y).flatMap enc = (l.flatMap enc).set (k * sz + r) v
  | [], k, r, x, y, v, h, _, _ => by simp at h
  | z :: zs, 0, r, x, y, v, h, hr, hy => by
    simp at h; subst h
    simp only [List.set_cons_zero, List.flatMap_cons, Nat.zero_mul, Nat.zero_add]
    rw [List.set_append_left _ _ (by rw [hs]; exact hr), hy]
  | z :: zs, k + 1, r, x, y, v, h, hr, hy => by
    have ih := flat_set hs zs k r x y v (by simpa using h) hr hy
    simp only [List.set_cons_succ, List.flatMap_cons, ih]
    rw [List.set_append_right _ _ (by rw [hs, Nat.add_mul]; omega), hs, show (k + 1) * sz + r - sz = k * sz + r by rw [Nat.add_mul]; omega]
theorem Own.set_ {α : Type} {w : World} {base : Nat} {e : TypeId} {enc : α → List Value} {sz : Nat} {g n c : Nat} {l : List α} (hs : ∀ x, (enc x).length = sz) (h : Own w base e enc sz (.slice (some ⟨g, 0, none⟩) n c) l) {k r : Nat} {x y : α} {v : Value} (hx : l[k]? = some x) (hr : r < sz) (hy : enc y = (enc x).set r v) :
    Own (w.setCell ⟨g, k * sz + r, none⟩ v) base e enc sz (.slice (some ⟨g, 0, none⟩) n c) (l.set k y) := by
  obtain ⟨h1, h2⟩ := h
  have hfs := flat_set hs l k r x y v hx hr hy
  refine ⟨by rw [hfs, List.length_set, List.length_set]; exact h1, ?_⟩
  rcases h2 with ⟨h2, _⟩ | ⟨g', cap, cur, hv, hb, hg, r1, r2, r3, r4⟩
  · cases h2
  · injection hv with e1 e2 e3
    injection e1 with e1
    injection e1 with e1 _ _
    subst e1 e2 e3
    refine .inr ⟨g, c, cur.setIfInBounds (k * sz + r) v, by rw [List.length_set], hb, heap_setCell_same w g (k * sz + r) cur e v hg, by rw [List.length_set]; exact r1, r2, by simpa using r3, ?_⟩
    rw [hfs, List.length_set, Array.toList_setIfInBounds, List.take_set, r4]
theorem Own.frozen {α : Type} {w : World} {base : Nat} {e : TypeId} {enc : α → List Value} {sz : Nat} {g n c : Nat} {l : List α} (h : Own w base e enc sz (.slice (some ⟨g, 0, none⟩) n c) l) (i : Nat) : w.frozen? ⟨g, i, none⟩ = false := by
  rcases h.2 with ⟨h2, _⟩ | ⟨g', cap, cur, hv, hb, hg, _⟩
  · cases h2
  · injection hv with e1 e2 e3
    injection e1 with e1
    injection e1 with e1 _ _
    subst e1
    simp [World.frozen?, hg]
end Go.Proofs.YtilocjliplmmpaaGreat
/- Words for a map that the call itself makes, keyed by int, its elements ints, read as a function to options. No program in sight. -/
set_option linter.unusedSimpArgs false
set_option linter.unusedVariables false
namespace Go.Proofs.YtilocjliplmmpaaGreat
open Go.RowKit Go.Maps
/-- Block b is a map of at most n entries; at every key that fits: is there one, and which. -/
def OMap (P : Program) (k e : TypeId) (w : World) (b n : Nat) (f : Int → Option Int) : Prop :=
  ∃ D : DataW Unit, w.ownsMap P k (plainElem P e) b n D ∧ IsMap D ∧ ∀ i, (Lit.int .i64 i).wf = true → Maps.has D (.int .i64 i) = (f i).isSome ∧ D.atKey (.int .i64 i) (.lit (.int .i64 0)) = .lit (.int .i64 ((f i).getD 0))
section
variable {P : Program} {k e t : TypeId} {w w' : World} {b n : Nat}
theorem OMap.made (w : World) : OMap P k e (w.alloc (.map #[] 0)) w.heap.size 0 (fun _ => none) :=
  ⟨.map [], World.ownsMap_made _ _ _ _, isMap_empty, fun _ _ => ⟨rfl, rfl⟩⟩
theorem OMap.lt {f : Int → Option Int} (h : OMap P k e w b n f) : b < w.heap.size := let ⟨_, h, _⟩ := h; ownsMap_lt h
theorem OMap.block {f : Int → Option Int} (h : OMap P k e w b n f) (hh : w'.heap[b]? = w.heap[b]?) : OMap P k e w' b n f :=
  let ⟨D, h, r⟩ := h; ⟨D, ownsMap_block h hh, r⟩
theorem OMap.ext {f : Int → Option Int} (h : OMap P k e w b n f) (hb : Below w.heap.size w w') : OMap P k e w' b n f := h.block (hb.block b h.lt)
theorem OMap.mono_ {f : Int → Option Int} {n' : Nat} (h : OMap P k e w b n f) (hn : n ≤ n') : OMap P k e w b n' f := by
  obtain ⟨D, ⟨es, cl, h1, h2, h3, h4⟩, r⟩ := h
  exact ⟨D, ⟨es, cl, h1, h2, Nat.le_trans h3 hn, h4⟩, r⟩
theorem OMap.congr {f g : Int → Option Int} (h : OMap P k e w b n f) (hg : ∀ i, f i = g i) : OMap P k e w b n g := by
  rw [← funext hg]; exact h
theorem OMap.look {f : Int → Option Int} (h : OMap P k e w b n f) (hk : P.underlying k = some (.int .i64)) (ht : P.underlying t = some (.map k e)) (he : P.underlying e = some (.int .i64)) (hz : (zeroValue e).run P w = .ok (.int .i64 0) w)
    (i : Int) (hi : (Lit.int .i64 i).wf = true) : (Instr.lookup t (.map (some b)) (.int .i64 i) true).run P w = .ok (.tuple #[.int .i64 ((f i).getD 0), .bool (f i).isSome]) w := by
  obtain ⟨D, h, hm, hf⟩ := h
  obtain ⟨v, ps, hrun, hv⟩ := h.look_ok (int_keyed hk) ht hz (plainElem_int he (by decide)) (keyOf_int_mk hk hi)
  obtain ⟨c, rfl, hc, _⟩ := plainElem_int_inv he hv
  rw [(hf i hi).2] at hc
  have hc : (f i).getD 0 = c := by simp at hc; exact hc.1
  rw [hrun, hc, (hf i hi).1]
theorem OMap.put {f : Int → Option Int} (h : OMap P k e w b n f) (hk : P.underlying k = some (.int .i64)) (ht : P.underlying t = some (.map k e)) (he : P.underlying e = some (.int .i64)) (hn : n < maxLen)
    (i : Int) (x : Int) (hi : (Lit.int .i64 i).wf = true) (hx : (Lit.int .i64 x).wf = true) : ∃ w', (Instr.mapUpdate t (.map (some b)) (.int .i64 i) (.int .i64 x)).run P w = .ok () w' ∧ OMap P k e w' b (n + 1) (fun j => if j = i then some x else f j) ∧ w.grownBy w' (some b) := by
  obtain ⟨D, h, hm, hf⟩ := h
  obtain ⟨w', hrun, ho, hg⟩ := h.update (int_keyed hk) ht hn (keyOf_int_mk hk hi) (plainElem_int he hx)
  refine ⟨w', hrun, ⟨_, ho, hm.put _ _, fun j hj => ?_⟩, hg⟩
  by_cases e : j = i
  · subst e
    rw [atKey_put_same hm ((int_keyed hk).key (keyOf_int_mk hk hi)), has_put_same hm ((int_keyed hk).key (keyOf_int_mk hk hi))]; simp
  · rw [atKey_put_other (by simpa using e), has_put_other (by simpa using e), (hf j hj).1, (hf j hj).2]; simp [e]
end
end Go.Proofs.YtilocjliplmmpaaGreat
