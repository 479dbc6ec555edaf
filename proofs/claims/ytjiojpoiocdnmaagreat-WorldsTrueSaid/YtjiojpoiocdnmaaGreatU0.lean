/- Words for memory: a slice that reads as a list of records of a fixed number of cells. No program in sight. -/
import Derived.Below
import Derived.Laws.OwnMore
import Derived.Deep.Draws
import Derived.Deep.Slices
import Derived.Deep.Fields
import Derived.ChangeSame
import Derived.ProofKit
import Derived.OpenShut
import Derived.Test.YtjiojpoiocdnmaaGreatProg
import Derived.ChangeArms
set_option linter.unusedSimpArgs false
set_option linter.unusedVariables false
namespace Go.Proofs.YtjiojpoiocdnmaaGreat
open Go.RowKit

/-- The slice at A holds the list l, each element as the cells 'enc x', sz of them. -/
def Slc {α : Type} (w : World) (enc : α → List Value) (sz : Nat) (A : Option Addr) (l : List α) : Prop :=
  ∀ i x, l[i]? = some x → ∃ b o, A = some ⟨b, o, none⟩ ∧ b < w.heap.size ∧ ∀ j v, (enc x)[j]? = some v → w.cell? ⟨b, o + i * sz + j, none⟩ = some v

section
variable {α : Type} {w w' : World} {enc : α → List Value} {sz : Nat} {A : Option Addr} {l : List α}
theorem Slc.nil : Slc w enc sz A [] := fun i x h => by simp at h
theorem Slc.below {B : Nat} (h : Slc w enc sz A l) (hB : w.heap.size ≤ B) (hb : Below B w w') : Slc w' enc sz A l := fun i x hx => by
  obtain ⟨b, o, e, hlt, hc⟩ := h i x hx
  exact ⟨b, o, e, Nat.lt_of_lt_of_le hlt hb.size, fun j v hj => (hb.cell (p := ⟨b, o + i * sz + j, none⟩) (by show b < B; omega)).trans (hc j v hj)⟩
theorem Slc.ext (h : Slc w enc sz A l) (hb : Below w.heap.size w w') : Slc w' enc sz A l := h.below (Nat.le_refl _) hb
theorem Slc.alloc (h : Slc w enc sz A l) (o : Obj) : Slc (w.alloc o) enc sz A l := h.ext ((Below.refl _ _).alloc (Nat.le_refl _) _)
theorem Slc.at_ (h : Slc w enc sz A l) {k : Nat} (hk : k < l.length) : ∃ x b o, l[k]? = some x ∧ A = some ⟨b, o, none⟩ ∧ b < w.heap.size ∧ ∀ j v, (enc x)[j]? = some v → w.cell? ⟨b, o + k * sz + j, none⟩ = some v := by
  obtain ⟨b, o, e, hlt, hc⟩ := h k l[k] (List.getElem?_eq_getElem hk)
  exact ⟨l[k], b, o, List.getElem?_eq_getElem hk, e, hlt, hc⟩
end
section
variable {α : Type} {enc : α → List Value} {sz : Nat}
theorem flat_len (hs : ∀ x, (enc x).length = sz) (l : List α) : (l.flatMap enc).length = l.length * sz := by
  induction l with
  | nil => simp
  | cons x xs ih => simp [ih, hs, Nat.add_mul]; omega
theorem flat_get (hs : ∀ x, (enc x).length = sz) : ∀ (l : List α) (j : Nat) (u : Value), (l.flatMap enc)[j]? = some u → ∃ i x r, l[i]? = some x ∧ (enc x)[r]? = some u ∧ j = i * sz + r
  | [], j, u, h => by simp at h
  | x :: xs, j, u, h => by
    rw [List.flatMap_cons, List.getElem?_append] at h
    split at h
    · exact ⟨0, x, j, rfl, h, by simp⟩
    · rename_i hj
      obtain ⟨i, y, r, hi, hr, e⟩ := flat_get hs xs _ u h
      rw [hs] at e hj
      exact ⟨i + 1, y, r, by simpa using hi, hr, by rw [Nat.add_mul]; omega⟩
theorem flat_put (hs : ∀ x, (enc x).length = sz) : ∀ (l : List α) (i r : Nat) (x : α) (u : Value), l[i]? = some x → (enc x)[r]? = some u → (l.flatMap enc)[i * sz + r]? = some u
  | [], i, r, x, u, h, _ => by simp at h
  | y :: ys, 0, r, x, u, h, hr => by
    simp at h; subst h
    have hlt : r < (enc y).length := (List.getElem?_eq_some_iff.1 hr).1
    rw [List.flatMap_cons, List.getElem?_append, if_pos (by omega)]
    simpa using hr
  | y :: ys, i + 1, r, x, u, h, hr => by
    have ih := flat_put hs ys i r x u (by simpa using h) hr
    rw [List.flatMap_cons, List.getElem?_append, if_neg (by rw [hs, Nat.add_mul]; omega), hs, show (i + 1) * sz + r - sz = i * sz + r by rw [Nat.add_mul]; omega]
    exact ih
theorem Slc.olds {w : World} {A : Option Addr} {l : List α} (h : Slc w enc sz A l) (hs : ∀ x, (enc x).length = sz) :
    ∀ b, A = some b → ∀ j u, (l.flatMap enc)[j]? = some u → w.cell? (b.add j) = some u := by
  rintro b rfl j u hu
  obtain ⟨i, x, r, hi, hr, rfl⟩ := flat_get hs l j u hu
  obtain ⟨b', o', e, _, hc⟩ := h i x hi
  injection e with e
  subst e
  have := hc r u hr
  by_cases hz : i * sz + r = 0
  · rw [hz]
    have h1 : o' + i * sz + r = o' := by omega
    rw [h1] at this
    simpa [Addr.add] using this
  · simp only [Addr.add, hz, if_false]
    rw [show o' + (i * sz + r) = o' + i * sz + r by omega]
    exact this
theorem Slc.none_len {w : World} {A : Option Addr} {l : List α} (h : Slc w enc sz A l) (hA : A = none) : l.length = 0 := by
  cases l with
  | nil => simp
  | cons x xs => obtain ⟨b, o, e, _⟩ := h 0 x rfl; rw [hA] at e; cases e
theorem Slc.of_own {w : World} {base : Nat} {e : TypeId} {A : Option Addr} {n c : Nat} {l : List α} (hs : ∀ x, (enc x).length = sz) (hz : 0 < sz) (h : w.ownsRow base e sz (.slice A n c) n (l.flatMap enc)) : Slc w enc sz A l := by
  intro i x hx
  have hil : i < l.length := (List.getElem?_eq_some_iff.1 hx).1
  rcases h.2 with ⟨hv, rfl⟩ | ⟨g, cap, cur, hv, hb, hg, r⟩
  · have := h.1
    rw [flat_len hs] at this
    rcases Nat.eq_zero_or_pos l.length with h0 | h0
    · omega
    · have := Nat.mul_pos h0 hz
      omega
  · injection hv with hA hn hc
    subst hA
    refine ⟨g, 0, rfl, (Array.getElem?_eq_some_iff.1 hg).1, fun j v hj => ?_⟩
    have h1 := h.cells (g := g) rfl (i * sz + j) v (flat_put hs l i j x v hx hj)
    by_cases hz : i * sz + j = 0
    · rw [hz] at h1
      rw [show 0 + i * sz + j = 0 by omega]
      simpa [Addr.add] using h1
    · simp only [Addr.add, hz, if_false] at h1
      rw [show 0 + i * sz + j = 0 + (i * sz + j) by omega]
      exact h1
end
theorem Slc.drew_ {α : Type} {w : World} {enc : α → List Value} {sz : Nat} {A : Option Addr} {l : List α} (h : Slc w enc sz A l) : Slc w.drew enc sz A l := h
theorem cells_new (w : World) (cs : List Value) (e : TypeId) : ∀ j u, cs[j]? = some u → (w.alloc (.cells cs.toArray e)).cell? ((⟨w.heap.size, 0, none⟩ : Addr).add j) = some u := by
  intro j u hu
  have hadd : (⟨w.heap.size, 0, none⟩ : Addr).add j = ⟨w.heap.size, j, none⟩ := by unfold Addr.add; split <;> simp_all
  rw [hadd, cell_of_row _ w.heap.size j cs.toArray e (0, 0) (heap_alloc_new w _)]
  simpa using hu
theorem place_inj {sz i j k r : Nat} (hj : j < sz) (hr : r < sz) (h : i * sz + j = k * sz + r) : i = k ∧ j = r := by
  rcases Nat.lt_trichotomy i k with hl | he | hg
  · have : (i + 1) * sz ≤ k * sz := Nat.mul_le_mul_right sz hl
    rw [Nat.add_mul] at this; omega
  · subst he; omega
  · have : (k + 1) * sz ≤ i * sz := Nat.mul_le_mul_right sz hg
    rw [Nat.add_mul] at this; omega
theorem Slc.set_ {α : Type} {w : World} {enc : α → List Value} {sz : Nat} {g o : Nat} {l : List α} (hs : ∀ x, (enc x).length = sz) (h : Slc w enc sz (some ⟨g, o, none⟩) l) {k r : Nat} {x y : α} {v : Value} (hx : l[k]? = some x) (hr : r < sz) (hy : enc y = (enc x).set r v) :
    Slc (w.setCell ⟨g, o + k * sz + r, none⟩ v) enc sz (some ⟨g, o, none⟩) (l.set k y) := by
  have hk : k < l.length := (List.getElem?_eq_some_iff.1 hx).1
  intro i z hz
  rw [List.getElem?_set] at hz
  obtain ⟨b0, o0, e0, hb0, hcx⟩ := h k x hx
  injection e0 with e0; injection e0 with e1 e2; subst e1 e2
  have hsz : g < (w.setCell ⟨g, o + k * sz + r, none⟩ v).heap.size := by simpa [World.setCell] using hb0
  refine ⟨g, o, rfl, hsz, fun j u hu => ?_⟩
  have hjl : j < sz := by rw [← hs z]; exact (List.getElem?_eq_some_iff.1 hu).1
  split at hz
  · rename_i hik
    subst hik
    obtain rfl : y = z := by simpa using hz
    rw [hy, List.getElem?_set] at hu
    split at hu
    · rename_i hrj
      subst hrj
      rw [if_pos (by rw [hs]; exact hr)] at hu
      obtain rfl : v = u := by simpa using hu
      have hold : (w.cell? ⟨g, o + k * sz + r, none⟩).isSome = true := by
        rw [hcx r _ (List.getElem?_eq_getElem (by rw [hs]; exact hr))]; rfl
      exact World.cell?_setCell_same' _ _ _ hold
    · rename_i hrj
      rw [World.cell?_setCell_other _ _ _ _ (by intro e; injection e with _ e; omega)]
      exact hcx j u hu
  · rename_i hik
    obtain ⟨b0, o0, e0, _, hcz⟩ := h i z hz
    injection e0 with e0; injection e0 with e1 e2; subst e1 e2
    rw [World.cell?_setCell_other _ _ _ _ (by
      intro e; injection e with _ e
      have := place_inj (i := i) (j := j) (k := k) (r := r) hjl hr (by omega)
      exact hik this.1.symm)]
    exact hcz j u hu
theorem ext_refl (w : World) : Below w.heap.size w w := Below.refl _ _
theorem ext_trans {a b c : World} (h : Below a.heap.size a b) (k : Below b.heap.size b c) : Below a.heap.size a c := h.trans (k.mono h.size)
theorem ext_alloc {a b : World} (h : Below a.heap.size a b) (o : Obj) : Below a.heap.size a (b.alloc o) := h.alloc h.size o
theorem ext_drew {a b : World} (h : Below a.heap.size a b) : Below a.heap.size a b.drew := h.drew
theorem ext_drewN {a b : World} (h : Below a.heap.size a b) (n : Nat) : Below a.heap.size a (b.drewN n) := ⟨h.os, h.tape, h.output, h.size, h.block⟩
end Go.Proofs.YtjiojpoiocdnmaaGreat
namespace Go.Proofs.YtjiojpoiocdnmaaGreat
open Go.RowKit
end Go.Proofs.YtjiojpoiocdnmaaGreat
/- How arguments read: values that came in, in words of lists. No program in sight. -/
set_option linter.unusedSimpArgs false
set_option linter.unusedVariables false
namespace Go.Proofs.YtjiojpoiocdnmaaGreat
open Go.RowKit Go.ChangeShapes Go.WideShapes Go.Deep

/-- Whatever reads as a value of type t is enc a for some a that is ok. -/
def Reads {α : Type} (P : Program) (t : TypeId) (enc : α → List Value) (ok : World → α → Prop) : Prop :=
  ∀ (H : Type) (encH : TypeId × Value → H) (w : World) (base : Nat) (spare : Nat → Bool) (held : Bool) (fuel : Nat) (cs : List Value) (x : DataW H × List MemPlace),
    DataW.trod encH P w base spare held fuel t cs = some x → ∃ a, cs = enc a ∧ ok w a

theorem reads_int {P : Program} {t : TypeId} {k : IntKind} (ht : P.underlying t = some (.int k)) : Reads P t (fun n : Int => [.int k n]) (fun _ n => (Lit.int k n).wf = true) := by
  intro H encH w base spare held fuel cs x h
  obtain ⟨n, h1, _, h2⟩ := DataW.trod_int ht h
  exact ⟨n, h1, h2⟩
theorem reads_bool {P : Program} {t : TypeId} (ht : P.underlying t = some .bool) : Reads P t (fun b : Bool => [.bool b]) (fun _ _ => True) := by
  intro H encH w base spare held fuel cs x h
  obtain ⟨n, h1, _⟩ := DataW.trod_bool ht h
  exact ⟨n, h1, trivial⟩

/-- A slice that came in: where it lies, its capacity, what it holds. -/
structure SliceOf (α : Type) where
  A : Option Addr
  c : Nat
  l : List α
def SliceOf.enc {α : Type} (s : SliceOf α) : List Value := [.slice s.A s.l.length s.c]
def SliceOf.ok {α : Type} (enc : α → List Value) (sz : Nat) (ok : World → α → Prop) (w : World) (s : SliceOf α) : Prop :=
  Slc w enc sz s.A s.l ∧ s.l.length ≤ s.c ∧ s.c ≤ maxLen ∧ (s.A = none → s.c = 0) ∧ ∀ x ∈ s.l, ok w x

theorem list_of {α : Type} (n : Nat) (p : Nat → α → Prop) (h : ∀ i, i < n → ∃ a, p i a) : ∃ l : List α, l.length = n ∧ ∀ i a, l[i]? = some a → p i a := by
  induction n with
  | zero => exact ⟨[], rfl, by simp⟩
  | succ n ih =>
    obtain ⟨l, hl, hp⟩ := ih (fun i hi => h i (by omega))
    obtain ⟨a, ha⟩ := h n (by omega)
    refine ⟨l ++ [a], by simp [hl], fun i b hb => ?_⟩
    rw [List.getElem?_append] at hb
    split at hb
    · exact hp i b hb
    · rename_i hi
      have hb' := (List.getElem?_eq_some_iff.1 hb).1
      simp at hb'
      obtain rfl : i = n := by omega
      simp [hl] at hb
      subst hb; exact ha

theorem reads_slice {α : Type} {P : Program} {t e : TypeId} {enc : α → List Value} {ok : World → α → Prop} {sz : Nat} (ht : P.underlying t = some (.slice e)) (hR : Reads P e enc ok) (hC : P.cellsOf e = sz) (hz : 0 < sz) (hs : ∀ x, (enc x).length = sz) :
    Reads P t (SliceOf.enc (α := α)) (SliceOf.ok enc sz ok) := by
  intro H encH w base spare held fuel cs x h
  rcases open_slice ht h with ⟨h0, _⟩ | ⟨a, len, cap, m, n, D, Pl, hcs, hb, hl, hm, hmm, hx, hi⟩
  · exact ⟨⟨none, 0, []⟩, h0, Slc.nil, Nat.le_refl _, by simp, fun _ => rfl, by simp⟩
  · have hlm : len ≤ m := by rw [hmm]; split <;> omega
    obtain ⟨l, hll, hp⟩ := list_of len (fun i x => w.cells? base (a.add (i * sz)) sz = some (enc x) ∧ ok w x) (by
      intro i hil
      obtain ⟨cs', hc, ht'⟩ := hi i (by omega)
      rw [hC] at hc
      obtain ⟨y, rfl, hy⟩ := hR _ _ _ _ _ _ _ _ _ ht'
      exact ⟨y, hc, hy⟩)
    refine ⟨⟨some a, cap, l⟩, by rw [hcs, ← hll]; rfl, ?_, by simpa [hll] using hl, hm, (fun h => by cases h), ?_⟩
    · intro i x hx
      obtain ⟨hc, _⟩ := hp i x hx
      obtain ⟨_, _, hat⟩ := World.cells?_some hc
      have h0 := hat 0 hz
      have hv : (enc x)[0]? = some ((enc x)[0]'(by rw [hs]; exact hz)) := List.getElem?_eq_getElem _
      rw [hv] at h0
      obtain ⟨b, off, spot⟩ := a
      have hlt : b < w.heap.size := by
        have h1 := h0
        simp only [World.cell?] at h1
        split at h1
        · rename_i hh
          have hlt' := (Array.getElem?_eq_some_iff.1 hh).1
          have e1 : ∀ (x : Addr) (k : Nat), (x.add k).block = x.block := by intro x k; unfold Addr.add; split <;> rfl
          rw [e1, e1] at hlt'
          exact hlt'
        · cases h1
      -- the first element pays that the address bears no spot
      have hl0 : 0 < l.length := Nat.lt_of_le_of_lt (Nat.zero_le _) (List.getElem?_eq_some_iff.1 hx).1
      obtain ⟨hc0, _⟩ := hp 0 l[0] (List.getElem?_eq_getElem hl0)
      obtain ⟨_, _, hat0⟩ := World.cells?_some hc0
      have h00 := hat0 0 hz
      have hv0 : (enc l[0])[0]? = some ((enc l[0])[0]'(by rw [hs]; exact hz)) := List.getElem?_eq_getElem _
      rw [hv0] at h00
      have hspot : spot = none := by simpa [Addr.add] using World.cell?_spot h00
      subst hspot
      refine ⟨b, off, rfl, hlt, fun j v hj => ?_⟩
      have hjs : j < sz := by rw [← hs x]; exact (List.getElem?_eq_some_iff.1 hj).1
      have := (hat j hjs).trans hj
      rw [Go.WideShapes.add_plain, Go.WideShapes.add_plain] at this
      exact this
    · intro x hx
      obtain ⟨i, hi', rfl⟩ := List.getElem_of_mem hx
      exact (hp i l[i] (List.getElem?_eq_getElem hi')).2

/-- A field of a struct. -/
theorem seg {α H : Type} {P : Program} {t : TypeId} {enc : α → List Value} {ok : World → α → Prop} (hR : Reads P t enc ok) (o s : Nat) {f : Field} (ht : f.type = t) (ho : f.offset = o) (hs : P.cellsOf t = s)
    {encH : TypeId × Value → H} {w : World} {base : Nat} {spare : Nat → Bool} {held : Bool} {n : Nat} {cs : List Value} {xs : List (DataW H × List MemPlace)} {i : Nat}
    (hf : DataW.trod encH P w base spare held n f.type ((cs.drop f.offset).take (P.cellsOf f.type)) = xs[i]?) (hi : i < xs.length) : ∃ a, (cs.drop o).take s = enc a ∧ ok w a := by
  subst ht ho hs
  rw [List.getElem?_eq_getElem hi] at hf
  exact hR _ _ _ _ _ _ _ _ _ hf
/-- A parameter of one cell. -/
theorem open_cell {α H : Type} {encH : TypeId × Value → H} {P : Program} {t : TypeId} {enc : α → List Value} {ok : World → α → Prop} {w : World} {base : Nat} {spare : Nat → Bool} {held : Bool} {v : Value} {d : DataW H} {p : List MemPlace}
    (hR : Reads P t enc ok) (h : DataW.Trod encH P w base spare held t v d p) : ∃ a, v.cells.toList = enc a ∧ ok w a := by
  obtain ⟨fuel, hf⟩ := h
  exact hR _ _ _ _ _ _ _ _ _ hf
end Go.Proofs.YtjiojpoiocdnmaaGreat
/- Tables, schemes and forecasts, as they lie in memory. No program in sight. -/
set_option linter.unusedSimpArgs false
set_option linter.unusedVariables false
namespace Go.Proofs.YtjiojpoiocdnmaaGreat
open Go.RowKit
/-- A slice of which the length alone counts. -/
structure SH where
  A : Option Addr
  n : Nat
  c : Nat
def ic (n : Int) : List Value := [.int .i64 n]
structure Sp where
  f : Int
  t : Int
structure Lg where
  seg : Int
  vol : Int
  len : Int
  mi : SliceOf Sp
structure Wy where
  f : Int
  t : Int
  legs : SliceOf Lg
structure Kd where
  slow : Int
  fast : Int
  places : Int
  weight : Int
  longest : Int
  cur : SliceOf (SliceOf Sp)
structure Sec where
  nm : ByteArray
  ns : SH
  vs : SliceOf Int
  rad : Int
  pro : Int
structure Cfg where
  nm : ByteArray
  ns : SH
  ss : SliceOf Int
structure Chg where
  f : Int
  cfg : Int
  ms : SliceOf Int
structure Sch where
  ch : SliceOf Chg
structure Tab where
  n : Int
  ss : SliceOf Sec
  cs : SliceOf Cfg
  ws : SliceOf Wy
  ms : SliceOf (SliceOf Int)
  ks : SliceOf Kd
structure Cut where
  air : Bool
  ix : Int
  f : Int
  t : Int
  less : Int
structure Nd where
  p : Int
  f : Int
  cuts : SliceOf Cut
structure Cel where
  air : Bool
  ix : Int
  mi : Int
def Sp.cells (x : Sp) : List Value := [.int .i64 x.f, .int .i64 x.t]
abbrev Sp.v (x : Sp) : Value := .agg #[.int .i64 x.f, .int .i64 x.t]
theorem Sp.cells_len (x : Sp) : x.cells.length = 2 := rfl
def Sp.ok (w : World) (x : Sp) : Prop := True
def Lg.cells (x : Lg) : List Value := [.int .i64 x.seg, .int .i64 x.vol, .int .i64 x.len, .slice x.mi.A x.mi.l.length x.mi.c]
abbrev Lg.v (x : Lg) : Value := .agg #[.int .i64 x.seg, .int .i64 x.vol, .int .i64 x.len, .slice x.mi.A x.mi.l.length x.mi.c]
theorem Lg.cells_len (x : Lg) : x.cells.length = 4 := rfl
def Lg.ok (w : World) (x : Lg) : Prop := SliceOf.ok Sp.cells 2 Sp.ok w x.mi
def Wy.cells (x : Wy) : List Value := [.int .i64 x.f, .int .i64 x.t, .slice x.legs.A x.legs.l.length x.legs.c]
abbrev Wy.v (x : Wy) : Value := .agg #[.int .i64 x.f, .int .i64 x.t, .slice x.legs.A x.legs.l.length x.legs.c]
theorem Wy.cells_len (x : Wy) : x.cells.length = 3 := rfl
def Wy.ok (w : World) (x : Wy) : Prop := SliceOf.ok Lg.cells 4 Lg.ok w x.legs
def Kd.cells (x : Kd) : List Value := [.int .i64 x.slow, .int .i64 x.fast, .int .i64 x.places, .int .i64 x.weight, .int .i64 x.longest, .slice x.cur.A x.cur.l.length x.cur.c]
abbrev Kd.v (x : Kd) : Value := .agg #[.int .i64 x.slow, .int .i64 x.fast, .int .i64 x.places, .int .i64 x.weight, .int .i64 x.longest, .slice x.cur.A x.cur.l.length x.cur.c]
theorem Kd.cells_len (x : Kd) : x.cells.length = 6 := rfl
def Kd.ok (w : World) (x : Kd) : Prop := SliceOf.ok SliceOf.enc 1 (SliceOf.ok Sp.cells 2 Sp.ok) w x.cur
def Sec.cells (x : Sec) : List Value := [.string x.nm, .slice x.ns.A x.ns.n x.ns.c, .slice x.vs.A x.vs.l.length x.vs.c, .int .i64 x.rad, .int .i64 x.pro]
abbrev Sec.v (x : Sec) : Value := .agg #[.string x.nm, .slice x.ns.A x.ns.n x.ns.c, .slice x.vs.A x.vs.l.length x.vs.c, .int .i64 x.rad, .int .i64 x.pro]
theorem Sec.cells_len (x : Sec) : x.cells.length = 5 := rfl
def Sec.ok (w : World) (x : Sec) : Prop := x.ns.n ≤ x.ns.c ∧ x.ns.c ≤ maxLen ∧ SliceOf.ok ic 1 (fun _ n => (Lit.int .i64 n).wf = true) w x.vs
def Cfg.cells (x : Cfg) : List Value := [.string x.nm, .slice x.ns.A x.ns.n x.ns.c, .slice x.ss.A x.ss.l.length x.ss.c]
abbrev Cfg.v (x : Cfg) : Value := .agg #[.string x.nm, .slice x.ns.A x.ns.n x.ns.c, .slice x.ss.A x.ss.l.length x.ss.c]
theorem Cfg.cells_len (x : Cfg) : x.cells.length = 3 := rfl
def Cfg.ok (w : World) (x : Cfg) : Prop := x.ns.n ≤ x.ns.c ∧ x.ns.c ≤ maxLen ∧ SliceOf.ok ic 1 (fun _ n => (Lit.int .i64 n).wf = true) w x.ss
def Chg.cells (x : Chg) : List Value := [.int .i64 x.f, .int .i64 x.cfg, .slice x.ms.A x.ms.l.length x.ms.c]
abbrev Chg.v (x : Chg) : Value := .agg #[.int .i64 x.f, .int .i64 x.cfg, .slice x.ms.A x.ms.l.length x.ms.c]
theorem Chg.cells_len (x : Chg) : x.cells.length = 3 := rfl
def Chg.ok (w : World) (x : Chg) : Prop := SliceOf.ok ic 1 (fun _ n => (Lit.int .i64 n).wf = true) w x.ms
def Sch.cells (x : Sch) : List Value := [.slice x.ch.A x.ch.l.length x.ch.c]
abbrev Sch.v (x : Sch) : Value := .agg #[.slice x.ch.A x.ch.l.length x.ch.c]
theorem Sch.cells_len (x : Sch) : x.cells.length = 1 := rfl
def Sch.ok (w : World) (x : Sch) : Prop := SliceOf.ok Chg.cells 3 Chg.ok w x.ch
def Tab.cells (x : Tab) : List Value := [.int .i64 x.n, .slice x.ss.A x.ss.l.length x.ss.c, .slice x.cs.A x.cs.l.length x.cs.c, .slice x.ws.A x.ws.l.length x.ws.c, .slice x.ms.A x.ms.l.length x.ms.c, .slice x.ks.A x.ks.l.length x.ks.c]
abbrev Tab.v (x : Tab) : Value := .agg #[.int .i64 x.n, .slice x.ss.A x.ss.l.length x.ss.c, .slice x.cs.A x.cs.l.length x.cs.c, .slice x.ws.A x.ws.l.length x.ws.c, .slice x.ms.A x.ms.l.length x.ms.c, .slice x.ks.A x.ks.l.length x.ks.c]
theorem Tab.cells_len (x : Tab) : x.cells.length = 6 := rfl
def Tab.ok (w : World) (x : Tab) : Prop := SliceOf.ok Sec.cells 5 Sec.ok w x.ss ∧ SliceOf.ok Cfg.cells 3 Cfg.ok w x.cs ∧ SliceOf.ok Wy.cells 3 Wy.ok w x.ws ∧ SliceOf.ok SliceOf.enc 1 (SliceOf.ok ic 1 (fun _ n => (Lit.int .i64 n).wf = true)) w x.ms ∧ SliceOf.ok Kd.cells 6 Kd.ok w x.ks
def Cut.cells (x : Cut) : List Value := [.bool x.air, .int .i64 x.ix, .int .i64 x.f, .int .i64 x.t, .int .i64 x.less]
abbrev Cut.v (x : Cut) : Value := .agg #[.bool x.air, .int .i64 x.ix, .int .i64 x.f, .int .i64 x.t, .int .i64 x.less]
theorem Cut.cells_len (x : Cut) : x.cells.length = 5 := rfl
def Cut.ok (w : World) (x : Cut) : Prop := True
def Nd.cells (x : Nd) : List Value := [.int .i64 x.p, .int .i64 x.f, .slice x.cuts.A x.cuts.l.length x.cuts.c]
abbrev Nd.v (x : Nd) : Value := .agg #[.int .i64 x.p, .int .i64 x.f, .slice x.cuts.A x.cuts.l.length x.cuts.c]
theorem Nd.cells_len (x : Nd) : x.cells.length = 3 := rfl
def Nd.ok (w : World) (x : Nd) : Prop := SliceOf.ok Cut.cells 5 Cut.ok w x.cuts
def Cel.cells (x : Cel) : List Value := [.bool x.air, .int .i64 x.ix, .int .i64 x.mi]
abbrev Cel.v (x : Cel) : Value := .agg #[.bool x.air, .int .i64 x.ix, .int .i64 x.mi]
theorem Cel.cells_len (x : Cel) : x.cells.length = 3 := rfl
def Cel.ok (w : World) (x : Cel) : Prop := True
end Go.Proofs.YtjiojpoiocdnmaaGreat
/- How the arguments of the laws of capacity read. -/
set_option linter.unusedSimpArgs false
set_option linter.unusedVariables false
namespace Go.Proofs.YtjiojpoiocdnmaaGreat
open Go.RowKit Go.ChangeShapes Go.WideShapes Go.Deep
theorem reads_head {P : Program} {t e : TypeId} (ht : P.underlying t = some (.slice e)) : Reads P t (fun s : SH => [.slice s.A s.n s.c]) (fun _ s => s.n ≤ s.c ∧ s.c ≤ maxLen) := by
  intro H encH w base spare held fuel cs x h
  rcases open_slice ht h with ⟨h0, _⟩ | ⟨a, len, cap, m, n, D, Pl, hcs, hb, hl, hm, hmm, hx, hi⟩
  · exact ⟨⟨none, 0, 0⟩, h0, Nat.le_refl _, Nat.zero_le _⟩
  · exact ⟨⟨some a, len, cap⟩, hcs, by omega, by omega⟩
theorem reads_string {P : Program} {t : TypeId} (ht : P.underlying t = some .string) : Reads P t (fun s : ByteArray => [.string s]) (fun _ _ => True) := by
  intro H encH w base spare held fuel cs x h
  obtain ⟨s, h1, _⟩ := DataW.trod_string ht h
  exact ⟨s, h1, trivial⟩
set_option maxRecDepth 100000 in
theorem reads_Sp : Reads Tryz.prog 44 Sp.cells Sp.ok := by
  intro H encH w base spare held fuel cs x h
  obtain ⟨xs, n, _, _, hl, hxl, hf⟩ := DataW.trod_struct Tryz.underlying44 h
  have hc : cs.length = 2 := hl.trans (by kernel_rfl)
  have hx : xs.length = 2 := hxl
  obtain ⟨a0, e0, q0⟩ := seg (reads_int Tryz.underlying3) 0 1 rfl rfl (by kernel_rfl) (hf 0 _ rfl) (by omega)
  obtain ⟨a1, e1, q1⟩ := seg (reads_int Tryz.underlying3) 1 1 rfl rfl (by kernel_rfl) (hf 1 _ rfl) (by omega)
  match cs, hc with
  | [c0, c1], _ =>
    simp [SliceOf.enc] at e0 e1
    exact ⟨⟨a0, a1⟩, by simp [Sp.cells, e0, e1], trivial⟩
theorem reads_Sps : Reads Tryz.prog 114 (SliceOf.enc (α := Sp)) (SliceOf.ok Sp.cells 2 Sp.ok) :=
  reads_slice Tryz.underlying114 reads_Sp (by kernel_rfl) (by decide) (fun _ => rfl)
set_option maxRecDepth 100000 in
theorem reads_Lg : Reads Tryz.prog 121 Lg.cells Lg.ok := by
  intro H encH w base spare held fuel cs x h
  obtain ⟨xs, n, _, _, hl, hxl, hf⟩ := DataW.trod_struct Tryz.underlying121 h
  have hc : cs.length = 4 := hl.trans (by kernel_rfl)
  have hx : xs.length = 4 := hxl
  obtain ⟨a0, e0, q0⟩ := seg (reads_int Tryz.underlying3) 0 1 rfl rfl (by kernel_rfl) (hf 0 _ rfl) (by omega)
  obtain ⟨a1, e1, q1⟩ := seg (reads_int Tryz.underlying3) 1 1 rfl rfl (by kernel_rfl) (hf 1 _ rfl) (by omega)
  obtain ⟨a2, e2, q2⟩ := seg (reads_int Tryz.underlying3) 2 1 rfl rfl (by kernel_rfl) (hf 2 _ rfl) (by omega)
  obtain ⟨a3, e3, q3⟩ := seg reads_Sps 3 1 rfl rfl (by kernel_rfl) (hf 3 _ rfl) (by omega)
  match cs, hc with
  | [c0, c1, c2, c3], _ =>
    simp [SliceOf.enc] at e0 e1 e2 e3
    exact ⟨⟨a0, a1, a2, a3⟩, by simp [Lg.cells, e0, e1, e2, e3], q3⟩
theorem reads_Lgs : Reads Tryz.prog 122 (SliceOf.enc (α := Lg)) (SliceOf.ok Lg.cells 4 Lg.ok) :=
  reads_slice Tryz.underlying122 reads_Lg (by kernel_rfl) (by decide) (fun _ => rfl)
set_option maxRecDepth 100000 in
theorem reads_Wy : Reads Tryz.prog 124 Wy.cells Wy.ok := by
  intro H encH w base spare held fuel cs x h
  obtain ⟨xs, n, _, _, hl, hxl, hf⟩ := DataW.trod_struct Tryz.underlying124 h
  have hc : cs.length = 3 := hl.trans (by kernel_rfl)
  have hx : xs.length = 3 := hxl
  obtain ⟨a0, e0, q0⟩ := seg (reads_int Tryz.underlying3) 0 1 rfl rfl (by kernel_rfl) (hf 0 _ rfl) (by omega)
  obtain ⟨a1, e1, q1⟩ := seg (reads_int Tryz.underlying3) 1 1 rfl rfl (by kernel_rfl) (hf 1 _ rfl) (by omega)
  obtain ⟨a2, e2, q2⟩ := seg reads_Lgs 2 1 rfl rfl (by kernel_rfl) (hf 2 _ rfl) (by omega)
  match cs, hc with
  | [c0, c1, c2], _ =>
    simp [SliceOf.enc] at e0 e1 e2
    exact ⟨⟨a0, a1, a2⟩, by simp [Wy.cells, e0, e1, e2], q2⟩
theorem reads_Spss : Reads Tryz.prog 125 (SliceOf.enc (α := SliceOf Sp)) (SliceOf.ok SliceOf.enc 1 (SliceOf.ok Sp.cells 2 Sp.ok)) :=
  reads_slice Tryz.underlying125 reads_Sps (by kernel_rfl) (by decide) (fun _ => rfl)
set_option maxRecDepth 100000 in
theorem reads_Kd : Reads Tryz.prog 127 Kd.cells Kd.ok := by
  intro H encH w base spare held fuel cs x h
  obtain ⟨xs, n, _, _, hl, hxl, hf⟩ := DataW.trod_struct Tryz.underlying127 h
  have hc : cs.length = 6 := hl.trans (by kernel_rfl)
  have hx : xs.length = 6 := hxl
  obtain ⟨a0, e0, q0⟩ := seg (reads_int Tryz.underlying3) 0 1 rfl rfl (by kernel_rfl) (hf 0 _ rfl) (by omega)
  obtain ⟨a1, e1, q1⟩ := seg (reads_int Tryz.underlying3) 1 1 rfl rfl (by kernel_rfl) (hf 1 _ rfl) (by omega)
  obtain ⟨a2, e2, q2⟩ := seg (reads_int Tryz.underlying3) 2 1 rfl rfl (by kernel_rfl) (hf 2 _ rfl) (by omega)
  obtain ⟨a3, e3, q3⟩ := seg (reads_int Tryz.underlying3) 3 1 rfl rfl (by kernel_rfl) (hf 3 _ rfl) (by omega)
  obtain ⟨a4, e4, q4⟩ := seg (reads_int Tryz.underlying3) 4 1 rfl rfl (by kernel_rfl) (hf 4 _ rfl) (by omega)
  obtain ⟨a5, e5, q5⟩ := seg reads_Spss 5 1 rfl rfl (by kernel_rfl) (hf 5 _ rfl) (by omega)
  match cs, hc with
  | [c0, c1, c2, c3, c4, c5], _ =>
    simp [SliceOf.enc] at e0 e1 e2 e3 e4 e5
    exact ⟨⟨a0, a1, a2, a3, a4, a5⟩, by simp [Kd.cells, e0, e1, e2, e3, e4, e5], q5⟩
theorem reads_ints : Reads Tryz.prog 39 (SliceOf.enc (α := Int)) (SliceOf.ok ic 1 (fun _ n => (Lit.int .i64 n).wf = true)) :=
  reads_slice Tryz.underlying39 (reads_int Tryz.underlying3) (by kernel_rfl) (by decide) (fun _ => rfl)
set_option maxRecDepth 100000 in
theorem reads_Sec : Reads Tryz.prog 117 Sec.cells Sec.ok := by
  intro H encH w base spare held fuel cs x h
  obtain ⟨xs, n, _, _, hl, hxl, hf⟩ := DataW.trod_struct Tryz.underlying117 h
  have hc : cs.length = 5 := hl.trans (by kernel_rfl)
  have hx : xs.length = 5 := hxl
  obtain ⟨a0, e0, q0⟩ := seg (reads_string Tryz.underlying9) 0 1 rfl rfl (by kernel_rfl) (hf 0 _ rfl) (by omega)
  obtain ⟨a1, e1, q1⟩ := seg (reads_head Tryz.underlying115) 1 1 rfl rfl (by kernel_rfl) (hf 1 _ rfl) (by omega)
  obtain ⟨a2, e2, q2⟩ := seg reads_ints 2 1 rfl rfl (by kernel_rfl) (hf 2 _ rfl) (by omega)
  obtain ⟨a3, e3, q3⟩ := seg (reads_int Tryz.underlying3) 3 1 rfl rfl (by kernel_rfl) (hf 3 _ rfl) (by omega)
  obtain ⟨a4, e4, q4⟩ := seg (reads_int Tryz.underlying3) 4 1 rfl rfl (by kernel_rfl) (hf 4 _ rfl) (by omega)
  match cs, hc with
  | [c0, c1, c2, c3, c4], _ =>
    simp [SliceOf.enc] at e0 e1 e2 e3 e4
    exact ⟨⟨a0, a1, a2, a3, a4⟩, by simp [Sec.cells, e0, e1, e2, e3, e4], ⟨q1.1, q1.2, q2⟩⟩
set_option maxRecDepth 100000 in
theorem reads_Cfg : Reads Tryz.prog 119 Cfg.cells Cfg.ok := by
  intro H encH w base spare held fuel cs x h
  obtain ⟨xs, n, _, _, hl, hxl, hf⟩ := DataW.trod_struct Tryz.underlying119 h
  have hc : cs.length = 3 := hl.trans (by kernel_rfl)
  have hx : xs.length = 3 := hxl
  obtain ⟨a0, e0, q0⟩ := seg (reads_string Tryz.underlying9) 0 1 rfl rfl (by kernel_rfl) (hf 0 _ rfl) (by omega)
  obtain ⟨a1, e1, q1⟩ := seg (reads_head Tryz.underlying115) 1 1 rfl rfl (by kernel_rfl) (hf 1 _ rfl) (by omega)
  obtain ⟨a2, e2, q2⟩ := seg reads_ints 2 1 rfl rfl (by kernel_rfl) (hf 2 _ rfl) (by omega)
  match cs, hc with
  | [c0, c1, c2], _ =>
    simp [SliceOf.enc] at e0 e1 e2
    exact ⟨⟨a0, a1, a2⟩, by simp [Cfg.cells, e0, e1, e2], ⟨q1.1, q1.2, q2⟩⟩
theorem reads_Secs : Reads Tryz.prog 22 (SliceOf.enc (α := Sec)) (SliceOf.ok Sec.cells 5 Sec.ok) :=
  reads_slice Tryz.underlying22 reads_Sec (by kernel_rfl) (by decide) (fun _ => rfl)
theorem reads_Cfgs : Reads Tryz.prog 23 (SliceOf.enc (α := Cfg)) (SliceOf.ok Cfg.cells 3 Cfg.ok) :=
  reads_slice Tryz.underlying23 reads_Cfg (by kernel_rfl) (by decide) (fun _ => rfl)
theorem reads_Wys : Reads Tryz.prog 24 (SliceOf.enc (α := Wy)) (SliceOf.ok Wy.cells 3 Wy.ok) :=
  reads_slice Tryz.underlying24 reads_Wy (by kernel_rfl) (by decide) (fun _ => rfl)
theorem reads_intss : Reads Tryz.prog 25 (SliceOf.enc (α := SliceOf Int)) (SliceOf.ok SliceOf.enc 1 (SliceOf.ok ic 1 (fun _ n => (Lit.int .i64 n).wf = true))) :=
  reads_slice Tryz.underlying25 reads_ints (by kernel_rfl) (by decide) (fun _ => rfl)
theorem reads_Kds : Reads Tryz.prog 26 (SliceOf.enc (α := Kd)) (SliceOf.ok Kd.cells 6 Kd.ok) :=
  reads_slice Tryz.underlying26 reads_Kd (by kernel_rfl) (by decide) (fun _ => rfl)
set_option maxRecDepth 100000 in
theorem reads_Tab : Reads Tryz.prog 28 Tab.cells Tab.ok := by
  intro H encH w base spare held fuel cs x h
  obtain ⟨xs, n, _, _, hl, hxl, hf⟩ := DataW.trod_struct Tryz.underlying28 h
  have hc : cs.length = 6 := hl.trans (by kernel_rfl)
  have hx : xs.length = 6 := hxl
  obtain ⟨a0, e0, q0⟩ := seg (reads_int Tryz.underlying3) 0 1 rfl rfl (by kernel_rfl) (hf 0 _ rfl) (by omega)
  obtain ⟨a1, e1, q1⟩ := seg reads_Secs 1 1 rfl rfl (by kernel_rfl) (hf 1 _ rfl) (by omega)
  obtain ⟨a2, e2, q2⟩ := seg reads_Cfgs 2 1 rfl rfl (by kernel_rfl) (hf 2 _ rfl) (by omega)
  obtain ⟨a3, e3, q3⟩ := seg reads_Wys 3 1 rfl rfl (by kernel_rfl) (hf 3 _ rfl) (by omega)
  obtain ⟨a4, e4, q4⟩ := seg reads_intss 4 1 rfl rfl (by kernel_rfl) (hf 4 _ rfl) (by omega)
  obtain ⟨a5, e5, q5⟩ := seg reads_Kds 5 1 rfl rfl (by kernel_rfl) (hf 5 _ rfl) (by omega)
  match cs, hc with
  | [c0, c1, c2, c3, c4, c5], _ =>
    simp [SliceOf.enc] at e0 e1 e2 e3 e4 e5
    exact ⟨⟨a0, a1, a2, a3, a4, a5⟩, by simp [Tab.cells, e0, e1, e2, e3, e4, e5], ⟨q1, q2, q3, q4, q5⟩⟩
end Go.Proofs.YtjiojpoiocdnmaaGreat
