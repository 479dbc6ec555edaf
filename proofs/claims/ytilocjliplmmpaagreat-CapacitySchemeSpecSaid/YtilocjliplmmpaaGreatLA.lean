/- Words for memory: a slice that reads as a list of records of a fixed number of cells. No program in sight. -/
import Derived.Below
import Derived.Laws.OwnMore
import Derived.Deep.Draws
import Derived.Deep.Slices
import Derived.Deep.Fields
import Derived.ChangeSame
import Derived.ProofKit
import Derived.OpenShut
import Derived.WalkKit
set_option linter.unusedSimpArgs false
set_option linter.unusedVariables false
namespace Go.Proofs.YtilocjliplmmpaaGreat
open Go.RowKit

/-- The slice at A holds the list l, each element as the cells 'enc x', sz of them. -/
def Slc {α : Type} (w : World) (enc : α → List Value) (sz : Nat) (A : Option Addr) (l : List α) : Prop :=
  ∀ i x, l[i]? = some x → ∃ b o, A = some ⟨b, o, none⟩ ∧ b < w.heap.size ∧ ∀ j v, (enc x)[j]? = some v → w.cell? ⟨b, o + i * sz + j, none⟩ = some v

section
variable {α : Type} {w w' : World} {enc : α → List Value} {sz : Nat} {A : Option Addr} {l : List α}
theorem Slc.nil : Slc w enc sz A [] := fun i x h => by simp at h
theorem Slc.below {B : Nat} (h : Slc w enc sz A l) (hB : w.heap.size ≤ B) (hb : Below B w w') : Slc w' enc sz A l := fun i x hx => by
  obtain ⟨b, o, e, hlt, hc⟩ := h i x hx
  exact ⟨b, o, e, Nat.lt_of_lt_of_le hlt hb.size, fun j v hj => (hb.cell (p := ⟨b, o + i * sz + j, none⟩) (by show b < B; omega)).trans (hc j v hj)⟩
theorem Slc.ext (h : Slc w enc sz A l) (hb : Below w.heap.size w w') : Slc w' enc sz A l := h.below (Nat.le_refl _) hb
theorem Slc.alloc (h : Slc w enc sz A l) (o : Obj) : Slc (w.alloc o) enc sz A l := h.ext ((Below.refl _ _).alloc (Nat.le_refl _) _)
theorem Slc.at_ (h : Slc w enc sz A l) {k : Nat} (hk : k < l.length) : ∃ x b o, l[k]? = some x ∧ A = some ⟨b, o, none⟩ ∧ b < w.heap.size ∧ ∀ j v, (enc x)[j]? = some v → w.cell? ⟨b, o + k * sz + j, none⟩ = some v := by
  obtain ⟨b, o, e, hlt, hc⟩ := h k l[k] (List.getElem?_eq_getElem hk)
  exact ⟨l[k], b, o, List.getElem?_eq_getElem hk, e, hlt, hc⟩
end
section
variable {α : Type} {enc : α → List Value} {sz : Nat}
theorem flat_len (hs : ∀ x, (enc x).length = sz) (l : List α) : (l.flatMap enc).length = l.length * sz := by
  induction l with
  | nil => simp
  | cons x xs ih => simp [ih, hs, Nat.add_mul]; omega
theorem flat_get (hs : ∀ x, (enc x).length = sz) : ∀ (l : List α) (j : Nat) (u : Value), (l.flatMap enc)[j]? = some u → ∃ i x r, l[i]? = some x ∧ (enc x)[r]? = some u ∧ j = i * sz + r
  | [], j, u, h => by simp at h
  | x :: xs, j, u, h => by
    rw [List.flatMap_cons, List.getElem?_append] at h
    split at h
    · exact ⟨0, x, j, rfl, h, by simp⟩
    · rename_i hj
      obtain ⟨i, y, r, hi, hr, e⟩ := flat_get hs xs _ u h
      rw [hs] at e hj
      exact ⟨i + 1, y, r, by simpa using hi, hr, by rw [Nat.add_mul]; omega⟩
theorem flat_put (hs : ∀ x, (enc x).length = sz) : ∀ (l : List α) (i r : Nat) (x : α) (u : Value), l[i]? = some x → (enc x)[r]? = some u → (l.flatMap enc)[i * sz + r]? = some u
  | [], i, r, x, u, h, _ => by simp at h
  | y :: ys, 0, r, x, u, h, hr => by
    simp at h; subst h
    have hlt : r < (enc y).length := (List.getElem?_eq_some_iff.1 hr).1
    rw [List.flatMap_cons, List.getElem?_append, if_pos (by omega)]
    simpa using hr
  | y :: ys, i + 1, r, x, u, h, hr => by
    have ih := flat_put hs ys i r x u (by simpa using h) hr
    rw [List.flatMap_cons, List.getElem?_append, if_neg (by rw [hs, Nat.add_mul]; omega), hs, show (i + 1) * sz + r - sz = i * sz + r by rw [Nat.add_mul]; omega]
    exact ih
theorem Slc.olds {w : World} {A : Option Addr} {l : List α} (h : Slc w enc sz A l) (hs : ∀ x, (enc x).length = sz) :
    ∀ b, A = some b → ∀ j u, (l.flatMap enc)[j]? = some u → w.cell? (b.add j) = some u := by
  rintro b rfl j u hu
  obtain ⟨i, x, r, hi, hr, rfl⟩ := flat_get hs l j u hu
  obtain ⟨b', o', e, _, hc⟩ := h i x hi
  injection e with e
  subst e
  have := hc r u hr
  by_cases hz : i * sz + r = 0
  · rw [hz]
    have h1 : o' + i * sz + r = o' := by omega
    rw [h1] at this
    simpa [Addr.add] using this
  · simp only [Addr.add, hz, if_false]
    rw [show o' + (i * sz + r) = o' + i * sz + r by omega]
    exact this
theorem Slc.none_len {w : World} {A : Option Addr} {l : List α} (h : Slc w enc sz A l) (hA : A = none) : l.length = 0 := by
  cases l with
  | nil => simp
  | cons x xs => obtain ⟨b, o, e, _⟩ := h 0 x rfl; rw [hA] at e; cases e
theorem Slc.of_own {w : World} {base : Nat} {e : TypeId} {A : Option Addr} {n c : Nat} {l : List α} (hs : ∀ x, (enc x).length = sz) (hz : 0 < sz) (h : w.ownsRow base e sz (.slice A n c) n (l.flatMap enc)) : Slc w enc sz A l := by
  intro i x hx
  have hil : i < l.length := (List.getElem?_eq_some_iff.1 hx).1
  rcases h.2 with ⟨hv, rfl⟩ | ⟨g, cap, cur, hv, hb, hg, r⟩
  · have := h.1
    rw [flat_len hs] at this
    rcases Nat.eq_zero_or_pos l.length with h0 | h0
    · omega
    · have := Nat.mul_pos h0 hz
      omega
  · injection hv with hA hn hc
    subst hA
    refine ⟨g, 0, rfl, (Array.getElem?_eq_some_iff.1 hg).1, fun j v hj => ?_⟩
    have h1 := h.cells (g := g) rfl (i * sz + j) v (flat_put hs l i j x v hx hj)
    by_cases hz : i * sz + j = 0
    · rw [hz] at h1
      rw [show 0 + i * sz + j = 0 by omega]
      simpa [Addr.add] using h1
    · simp only [Addr.add, hz, if_false] at h1
      rw [show 0 + i * sz + j = 0 + (i * sz + j) by omega]
      exact h1
end
theorem Slc.drew_ {α : Type} {w : World} {enc : α → List Value} {sz : Nat} {A : Option Addr} {l : List α} (h : Slc w enc sz A l) : Slc w.drew enc sz A l := h
theorem cells_new (w : World) (cs : List Value) (e : TypeId) : ∀ j u, cs[j]? = some u → (w.alloc (.cells cs.toArray e)).cell? ((⟨w.heap.size, 0, none⟩ : Addr).add j) = some u := by
  intro j u hu
  have hadd : (⟨w.heap.size, 0, none⟩ : Addr).add j = ⟨w.heap.size, j, none⟩ := by unfold Addr.add; split <;> simp_all
  rw [hadd, cell_of_row _ w.heap.size j cs.toArray e (0, 0) (heap_alloc_new w _)]
  simpa using hu
theorem place_inj {sz i j k r : Nat} (hj : j < sz) (hr : r < sz) (h : i * sz + j = k * sz + r) : i = k ∧ j = r := by
  rcases Nat.lt_trichotomy i k with hl | he | hg
  · have : (i + 1) * sz ≤ k * sz := Nat.mul_le_mul_right sz hl
    rw [Nat.add_mul] at this; omega
  · subst he; omega
  · have : (k + 1) * sz ≤ i * sz := Nat.mul_le_mul_right sz hg
    rw [Nat.add_mul] at this; omega
theorem Slc.set_ {α : Type} {w : World} {enc : α → List Value} {sz : Nat} {g o : Nat} {l : List α} (hs : ∀ x, (enc x).length = sz) (h : Slc w enc sz (some ⟨g, o, none⟩) l) {k r : Nat} {x y : α} {v : Value} (hx : l[k]? = some x) (hr : r < sz) (hy : enc y = (enc x).set r v) :
    Slc (w.setCell ⟨g, o + k * sz + r, none⟩ v) enc sz (some ⟨g, o, none⟩) (l.set k y) := by
  have hk : k < l.length := (List.getElem?_eq_some_iff.1 hx).1
  intro i z hz
  rw [List.getElem?_set] at hz
  obtain ⟨b0, o0, e0, hb0, hcx⟩ := h k x hx
  injection e0 with e0; injection e0 with e1 e2; subst e1 e2
  have hsz : g < (w.setCell ⟨g, o + k * sz + r, none⟩ v).heap.size := by simpa [World.setCell] using hb0
  refine ⟨g, o, rfl, hsz, fun j u hu => ?_⟩
  have hjl : j < sz := by rw [← hs z]; exact (List.getElem?_eq_some_iff.1 hu).1
  split at hz
  · rename_i hik
    subst hik
    obtain rfl : y = z := by simpa using hz
    rw [hy, List.getElem?_set] at hu
    split at hu
    · rename_i hrj
      subst hrj
      rw [if_pos (by rw [hs]; exact hr)] at hu
      obtain rfl : v = u := by simpa using hu
      have hold : (w.cell? ⟨g, o + k * sz + r, none⟩).isSome = true := by
        rw [hcx r _ (List.getElem?_eq_getElem (by rw [hs]; exact hr))]; rfl
      exact World.cell?_setCell_same' _ _ _ hold
    · rename_i hrj
      rw [World.cell?_setCell_other _ _ _ _ (by intro e; injection e with _ e; omega)]
      exact hcx j u hu
  · rename_i hik
    obtain ⟨b0, o0, e0, _, hcz⟩ := h i z hz
    injection e0 with e0; injection e0 with e1 e2; subst e1 e2
    rw [World.cell?_setCell_other _ _ _ _ (by
      intro e; injection e with _ e
      have := place_inj (i := i) (j := j) (k := k) (r := r) hjl hr (by omega)
      exact hik this.1.symm)]
    exact hcz j u hu
theorem ext_refl (w : World) : Below w.heap.size w w := Below.refl _ _
theorem ext_trans {a b c : World} (h : Below a.heap.size a b) (k : Below b.heap.size b c) : Below a.heap.size a c := h.trans (k.mono h.size)
theorem ext_alloc {a b : World} (h : Below a.heap.size a b) (o : Obj) : Below a.heap.size a (b.alloc o) := h.alloc h.size o
theorem ext_drew {a b : World} (h : Below a.heap.size a b) : Below a.heap.size a b.drew := h.drew
theorem ext_drewN {a b : World} (h : Below a.heap.size a b) (n : Nat) : Below a.heap.size a (b.drewN n) := ⟨h.os, h.tape, h.output, h.size, h.block⟩
end Go.Proofs.YtilocjliplmmpaaGreat
namespace Go.Proofs.YtilocjliplmmpaaGreat
open Go.RowKit
theorem Slc.drewE {α : Type} {w wr : World} {enc : α → List Value} {sz : Nat} {A : Option Addr} {l : List α} (h : Slc w enc sz A l) (hd : ∃ n, wr = w.drewN n) : Slc wr enc sz A l := by
  obtain ⟨n, rfl⟩ := hd; exact h
theorem drewE {w wr : World} (hd : ∃ n, wr = w.drewN n) (m : Nat) : ∃ n, wr.drewN m = w.drewN n := by
  obtain ⟨n, rfl⟩ := hd; exact ⟨n + m, by rw [World.drewN_drewN]⟩
end Go.Proofs.YtilocjliplmmpaaGreat
/- How arguments read: values that came in, in words of lists. No program in sight. -/
set_option linter.unusedSimpArgs false
set_option linter.unusedVariables false
namespace Go.Proofs.YtilocjliplmmpaaGreat
open Go.RowKit Go.ChangeShapes Go.WideShapes Go.Deep

/-- Whatever reads as a value of type t is enc a for some a that is ok. -/
def Reads {α : Type} (P : Program) (t : TypeId) (enc : α → List Value) (ok : World → α → Prop) : Prop :=
  ∀ (H : Type) (encH : TypeId × Value → H) (w : World) (base : Nat) (spare : Nat → Bool) (held : Bool) (fuel : Nat) (cs : List Value) (x : DataW H × List MemPlace),
    DataW.trod encH P w base spare held fuel t cs = some x → ∃ a, cs = enc a ∧ ok w a

theorem reads_int {P : Program} {t : TypeId} {k : IntKind} (ht : P.underlying t = some (.int k)) : Reads P t (fun n : Int => [.int k n]) (fun _ n => (Lit.int k n).wf = true) := by
  intro H encH w base spare held fuel cs x h
  obtain ⟨n, h1, _, h2⟩ := DataW.trod_int ht h
  exact ⟨n, h1, h2⟩
theorem reads_bool {P : Program} {t : TypeId} (ht : P.underlying t = some .bool) : Reads P t (fun b : Bool => [.bool b]) (fun _ _ => True) := by
  intro H encH w base spare held fuel cs x h
  obtain ⟨n, h1, _⟩ := DataW.trod_bool ht h
  exact ⟨n, h1, trivial⟩

/-- A slice that came in: where it lies, its capacity, what it holds. -/
structure SliceOf (α : Type) where
  A : Option Addr
  c : Nat
  l : List α
def SliceOf.enc {α : Type} (s : SliceOf α) : List Value := [.slice s.A s.l.length s.c]
def SliceOf.ok {α : Type} (enc : α → List Value) (sz : Nat) (ok : World → α → Prop) (w : World) (s : SliceOf α) : Prop :=
  Slc w enc sz s.A s.l ∧ s.l.length ≤ s.c ∧ s.c ≤ maxLen ∧ (s.A = none → s.c = 0) ∧ ∀ x ∈ s.l, ok w x

theorem list_of {α : Type} (n : Nat) (p : Nat → α → Prop) (h : ∀ i, i < n → ∃ a, p i a) : ∃ l : List α, l.length = n ∧ ∀ i a, l[i]? = some a → p i a := by
  induction n with
  | zero => exact ⟨[], rfl, by simp⟩
  | succ n ih =>
    obtain ⟨l, hl, hp⟩ := ih (fun i hi => h i (by omega))
    obtain ⟨a, ha⟩ := h n (by omega)
    refine ⟨l ++ [a], by simp [hl], fun i b hb => ?_⟩
    rw [List.getElem?_append] at hb
    split at hb
    · exact hp i b hb
    · rename_i hi
      have hb' := (List.getElem?_eq_some_iff.1 hb).1
      simp at hb'
      obtain rfl : i = n := by omega
      simp [hl] at hb
      subst hb; exact ha

theorem reads_slice {α : Type} {P : Program} {t e : TypeId} {enc : α → List Value} {ok : World → α → Prop} {sz : Nat} (ht : P.underlying t = some (.slice e)) (hR : Reads P e enc ok) (hC : P.cellsOf e = sz) (hz : 0 < sz) (hs : ∀ x, (enc x).length = sz) :
    Reads P t (SliceOf.enc (α := α)) (SliceOf.ok enc sz ok) := by
  intro H encH w base spare held fuel cs x h
  rcases open_slice ht h with ⟨h0, _⟩ | ⟨a, len, cap, m, n, D, Pl, hcs, hb, hl, hm, hmm, hx, hi⟩
  · exact ⟨⟨none, 0, []⟩, h0, Slc.nil, Nat.le_refl _, by simp, fun _ => rfl, by simp⟩
  · have hlm : len ≤ m := by rw [hmm]; split <;> omega
    obtain ⟨l, hll, hp⟩ := list_of len (fun i x => w.cells? base (a.add (i * sz)) sz = some (enc x) ∧ ok w x) (by
      intro i hil
      obtain ⟨cs', hc, ht'⟩ := hi i (by omega)
      rw [hC] at hc
      obtain ⟨y, rfl, hy⟩ := hR _ _ _ _ _ _ _ _ _ ht'
      exact ⟨y, hc, hy⟩)
    refine ⟨⟨some a, cap, l⟩, by rw [hcs, ← hll]; rfl, ?_, by simpa [hll] using hl, hm, (fun h => by cases h), ?_⟩
    · intro i x hx
      obtain ⟨hc, _⟩ := hp i x hx
      obtain ⟨_, _, hat⟩ := World.cells?_some hc
      have h0 := hat 0 hz
      have hv : (enc x)[0]? = some ((enc x)[0]'(by rw [hs]; exact hz)) := List.getElem?_eq_getElem _
      rw [hv] at h0
      obtain ⟨b, off, spot⟩ := a
      have hlt : b < w.heap.size := by
        have h1 := h0
        simp only [World.cell?] at h1
        split at h1
        · rename_i hh
          have hlt' := (Array.getElem?_eq_some_iff.1 hh).1
          have e1 : ∀ (x : Addr) (k : Nat), (x.add k).block = x.block := by intro x k; unfold Addr.add; split <;> rfl
          rw [e1, e1] at hlt'
          exact hlt'
        · cases h1
      -- the first element pays that the address bears no spot
      have hl0 : 0 < l.length := Nat.lt_of_le_of_lt (Nat.zero_le _) (List.getElem?_eq_some_iff.1 hx).1
      obtain ⟨hc0, _⟩ := hp 0 l[0] (List.getElem?_eq_getElem hl0)
      obtain ⟨_, _, hat0⟩ := World.cells?_some hc0
      have h00 := hat0 0 hz
      have hv0 : (enc l[0])[0]? = some ((enc l[0])[0]'(by rw [hs]; exact hz)) := List.getElem?_eq_getElem _
      rw [hv0] at h00
      have hspot : spot = none := by simpa [Addr.add] using World.cell?_spot h00
      subst hspot
      refine ⟨b, off, rfl, hlt, fun j v hj => ?_⟩
      have hjs : j < sz := by rw [← hs x]; exact (List.getElem?_eq_some_iff.1 hj).1
      have := (hat j hjs).trans hj
      rw [Go.WideShapes.add_plain, Go.WideShapes.add_plain] at this
      exact this
    · intro x hx
      obtain ⟨i, hi', rfl⟩ := List.getElem_of_mem hx
      exact (hp i l[i] (List.getElem?_eq_getElem hi')).2

/-- A field of a struct. -/
theorem seg {α H : Type} {P : Program} {t : TypeId} {enc : α → List Value} {ok : World → α → Prop} (hR : Reads P t enc ok) (o s : Nat) {f : Field} (ht : f.type = t) (ho : f.offset = o) (hs : P.cellsOf t = s)
    {encH : TypeId × Value → H} {w : World} {base : Nat} {spare : Nat → Bool} {held : Bool} {n : Nat} {cs : List Value} {xs : List (DataW H × List MemPlace)} {i : Nat}
    (hf : DataW.trod encH P w base spare held n f.type ((cs.drop f.offset).take (P.cellsOf f.type)) = xs[i]?) (hi : i < xs.length) : ∃ a, (cs.drop o).take s = enc a ∧ ok w a := by
  subst ht ho hs
  rw [List.getElem?_eq_getElem hi] at hf
  exact hR _ _ _ _ _ _ _ _ _ hf
/-- A parameter of one cell. -/
theorem open_cell {α H : Type} {encH : TypeId × Value → H} {P : Program} {t : TypeId} {enc : α → List Value} {ok : World → α → Prop} {w : World} {base : Nat} {spare : Nat → Bool} {held : Bool} {v : Value} {d : DataW H} {p : List MemPlace}
    (hR : Reads P t enc ok) (h : DataW.Trod encH P w base spare held t v d p) : ∃ a, v.cells.toList = enc a ∧ ok w a := by
  obtain ⟨fuel, hf⟩ := h
  exact hR _ _ _ _ _ _ _ _ _ hf
end Go.Proofs.YtilocjliplmmpaaGreat
/- The first place at which a test says yes. No program in sight. -/
namespace Go.Proofs.YtilocjliplmmpaaGreat
def idxGo {α : Type} (p : α → Bool) : Nat → List α → Int
  | _, [] => -1
  | k, x :: xs => if p x then k else idxGo p (k + 1) xs
theorem drop_at {α : Type} {l : List α} {k : Nat} {x : α} (h : l[k]? = some x) : l.drop k = x :: l.drop (k + 1) := by
  obtain ⟨hk, rfl⟩ := List.getElem?_eq_some_iff.1 h
  exact List.drop_eq_getElem_cons hk
theorem idxGo_cases {α : Type} (p : α → Bool) : ∀ (k : Nat) (l : List α), (idxGo p k l = -1 ∧ ∀ x ∈ l, p x = false) ∨ ∃ (i : Nat) (x : α), idxGo p k l = (k + i : Nat) ∧ l[i]? = some x ∧ p x = true ∧ ∀ j < i, ∀ y, l[j]? = some y → p y = false
  | k, [] => .inl ⟨rfl, by simp⟩
  | k, x :: xs => by
    unfold idxGo
    cases h : p x
    · rcases idxGo_cases p (k + 1) xs with ⟨h1, h2⟩ | ⟨i, y, h1, h2, h3, h4⟩
      · left; simp [h1, h]; exact h2
      · right
        refine ⟨i + 1, y, ?_, by simpa using h2, h3, ?_⟩
        · simp [h1]; omega
        · intro j hj z hz
          cases j with
          | zero => simp at hz; subst hz; exact h
          | succ j => exact h4 j (by omega) z (by simpa using hz)
    · right; exact ⟨0, x, by simp, rfl, h, by intro j hj; omega⟩
theorem idx_step {α : Type} {p : α → Bool} {l : List α} {k : Nat} {x : α} (hx : l[k]? = some x) (hp : p x = false) (h : idxGo p 0 l = idxGo p k (l.drop k)) : idxGo p 0 l = idxGo p (k + 1) (l.drop (k + 1)) := by
  rw [h, drop_at hx]; simp [idxGo, hp]
theorem idx_hit {α : Type} {p : α → Bool} {l : List α} {k : Nat} {x : α} (hx : l[k]? = some x) (hp : p x = true) (h : idxGo p 0 l = idxGo p k (l.drop k)) : idxGo p 0 l = k := by
  rw [h, drop_at hx]; simp [idxGo, hp]
theorem idx_end {α : Type} {p : α → Bool} {l : List α} {k : Nat} (hk : l.length ≤ k) (h : idxGo p 0 l = idxGo p k (l.drop k)) : idxGo p 0 l = -1 := by
  rw [h, List.drop_eq_nil_of_le hk]; rfl
theorem idx_any {α : Type} (p : α → Bool) (l : List α) : decide (0 ≤ idxGo p 0 l) = l.any p := by
  rcases idxGo_cases p 0 l with ⟨h1, h2⟩ | ⟨i, x, h1, h2, h3, _⟩
  · rw [h1]
    have : l.any p = false := by rw [List.any_eq_false]; intro x hx; simp [h2 x hx]
    rw [this]; rfl
  · rw [h1]
    have : l.any p = true := List.any_eq_true.2 ⟨x, List.mem_of_getElem? h2, h3⟩
    rw [this]; exact decide_eq_true (by omega)
theorem idx_lo {α : Type} (p : α → Bool) (l : List α) : -1 ≤ idxGo p 0 l ∧ idxGo p 0 l < l.length := by
  rcases idxGo_cases p 0 l with ⟨h1, h2⟩ | ⟨i, x, h1, h2, h3, _⟩
  · rw [h1]; omega
  · rw [h1]; have := (List.getElem?_eq_some_iff.1 h2).1; omega
end Go.Proofs.YtilocjliplmmpaaGreat
/- A list that is cut at a place: what stands ahead fulfils p, what stands behind does not; an element laid between. No program in sight. -/
set_option linter.unusedSimpArgs false
set_option linter.unusedVariables false
namespace Go.Proofs.YtilocjliplmmpaaGreat
section
variable {α : Type} {p : α → Bool} {l : List α} {k : Nat} {a : α}
/-- Number k is where p ends. -/
def CutAt (p : α → Bool) (l : List α) (k : Nat) : Prop := k ≤ l.length ∧ (∀ q x, q < k → l[q]? = some x → p x = true) ∧ ∀ q x, k ≤ q → l[q]? = some x → p x = false
theorem cut_while : ∀ (l : List α) (k : Nat), CutAt p l k → l.take k = l.takeWhile p ∧ l.drop k = l.dropWhile p
  | [], k, _ => by simp
  | x :: r, 0, h => by
    have := h.2.2 0 x (Nat.le_refl _) rfl
    simp [List.takeWhile, List.dropWhile, this]
  | x :: r, k + 1, h => by
    have h0 := h.2.1 0 x (by omega) rfl
    have ih := cut_while r k ⟨by have := h.1; simp at this; omega, fun q y hq hy => h.2.1 (q + 1) y (by omega) (by simpa using hy), fun q y hq hy => h.2.2 (q + 1) y (by omega) (by simpa using hy)⟩
    simp [List.takeWhile, List.dropWhile, h0, ih.1, ih.2]
def insL (p : α → Bool) (l : List α) (a : α) : List α := l.takeWhile p ++ a :: l.dropWhile p
theorem ins_cut (h : CutAt p l k) (a : α) : l.take k ++ a :: l.drop k = insL p l a := by
  unfold insL; rw [(cut_while l k h).1, (cut_while l k h).2]
theorem mem_ins {x : α} : x ∈ insL p l a ↔ x = a ∨ x ∈ l := by
  unfold insL
  conv => rhs; rw [← List.takeWhile_append_dropWhile (p := p) (l := l)]
  simp only [List.mem_append, List.mem_cons]
  constructor
  · rintro (h | h | h)
    · exact .inr (.inl h)
    · exact .inl h
    · exact .inr (.inr h)
  · rintro (h | h | h)
    · exact .inr (.inl h)
    · exact .inl h
    · exact .inr (.inr h)
theorem ins_len : (insL p l a).length = l.length + 1 := by
  unfold insL
  have := congrArg List.length (List.takeWhile_append_dropWhile (p := p) (l := l))
  simp only [List.length_append, List.length_cons] at this ⊢
  omega
theorem ins_pw {R : α → α → Prop} (hl : l.Pairwise R) (h1 : ∀ x ∈ l, p x = true → R x a) (h2 : ∀ x ∈ l, p x = false → R a x) (ht : ∀ x y, R a x → R x y → R a y) : (insL p l a).Pairwise R := by
  unfold insL
  have hs := hl
  rw [← List.takeWhile_append_dropWhile (p := p) (l := l), List.pairwise_append] at hs
  rw [List.pairwise_append]
  have hm : ∀ x ∈ l.dropWhile p, x ∈ l := fun x hx => (List.dropWhile_sublist p).mem hx
  have ha : ∀ x ∈ l.dropWhile p, R a x := by
    have hd := hs.2.1
    have hz : ∀ x, (l.dropWhile p).head? = some x → p x = false := fun x hx => by
      have := List.head?_dropWhile_not p l
      rw [hx] at this
      simpa using this
    revert hd hz hm
    cases l.dropWhile p with
    | nil => intro _ _ _ x hx; cases hx
    | cons y r =>
      intro hm hd hz x hx
      have hy := h2 y (hm y List.mem_cons_self) (hz y rfl)
      rcases List.mem_cons.1 hx with rfl | hx
      · exact hy
      · exact ht y x hy ((List.pairwise_cons.1 hd).1 x hx)
  refine ⟨hs.1, List.pairwise_cons.2 ⟨ha, hs.2.1⟩, fun x hx y hy => ?_⟩
  rcases List.mem_cons.1 hy with rfl | hy
  · exact h1 x ((List.takeWhile_sublist p).mem hx) (List.all_eq_true.1 List.all_takeWhile x hx)
  · exact hs.2.2 x hx y hy
theorem filter_pw {R : α → α → Prop} (hl : l.Pairwise R) (f : α → Bool) : (l.filter f).Pairwise R := hl.sublist List.filter_sublist
/-- Two sorted lists with the same elements are one. -/
theorem pw_ext {R : α → α → Prop} (hi : ∀ x, ¬ R x x) (ht : ∀ x y z, R x y → R y z → R x z) : ∀ (l m : List α), l.Pairwise R → m.Pairwise R → (∀ x, x ∈ l ↔ x ∈ m) → l = m
  | [], [], _, _, _ => rfl
  | [], y :: m, _, _, h => by have := (h y).2 List.mem_cons_self; cases this
  | x :: l, [], _, _, h => by have := (h x).1 List.mem_cons_self; cases this
  | x :: l, y :: m, hl, hm, h => by
    have hl' := List.pairwise_cons.1 hl
    have hm' := List.pairwise_cons.1 hm
    have hxy : x = y := by
      rcases List.mem_cons.1 ((h x).1 List.mem_cons_self) with e | e
      · exact e
      · rcases List.mem_cons.1 ((h y).2 List.mem_cons_self) with e' | e'
        · exact e'.symm
        · exact absurd (ht _ _ _ (hm'.1 x e) (hl'.1 y e')) (hi y)
    subst hxy
    congr 1
    refine pw_ext hi ht l m hl'.2 hm'.2 fun z => ⟨fun hz => ?_, fun hz => ?_⟩
    · rcases List.mem_cons.1 ((h z).1 (List.mem_cons_of_mem _ hz)) with e | e
      · subst e; exact absurd (hl'.1 z hz) (hi z)
      · exact e
    · rcases List.mem_cons.1 ((h z).2 (List.mem_cons_of_mem _ hz)) with e | e
      · subst e; exact absurd (hm'.1 z hz) (hi z)
      · exact e
end
end Go.Proofs.YtilocjliplmmpaaGreat
