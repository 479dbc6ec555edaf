/- How arguments read: values that came in, in words of lists. No program in sight. -/
import Derived.Test.YtmgpbjpohbpgpaaMem
import Derived.Deep.Slices
import Derived.Deep.Fields
import Derived.ChangeSame
import Derived.ProofKit
import Derived.OpenShut
set_option linter.unusedSimpArgs false
set_option linter.unusedVariables false
namespace Go.Proofs.Ytmgpbjpohbpgpaa
open Go.RowKit Go.ChangeShapes Go.WideShapes Go.Deep

/-- Whatever reads as a value of type t is enc a for some a that is ok. -/
def Reads {α : Type} (P : Program) (t : TypeId) (enc : α → List Value) (ok : World → α → Prop) : Prop :=
  ∀ (H : Type) (encH : TypeId × Value → H) (w : World) (base : Nat) (spare : Nat → Bool) (held : Bool) (fuel : Nat) (cs : List Value) (x : DataW H × List MemPlace),
    DataW.trod encH P w base spare held fuel t cs = some x → ∃ a, cs = enc a ∧ ok w a

theorem reads_int {P : Program} {t : TypeId} {k : IntKind} (ht : P.underlying t = some (.int k)) : Reads P t (fun n : Int => [.int k n]) (fun _ n => (Lit.int k n).wf = true) := by
  intro H encH w base spare held fuel cs x h
  obtain ⟨n, h1, _, h2⟩ := DataW.trod_int ht h
  exact ⟨n, h1, h2⟩
theorem reads_bool {P : Program} {t : TypeId} (ht : P.underlying t = some .bool) : Reads P t (fun b : Bool => [.bool b]) (fun _ _ => True) := by
  intro H encH w base spare held fuel cs x h
  obtain ⟨n, h1, _⟩ := DataW.trod_bool ht h
  exact ⟨n, h1, trivial⟩

/-- A slice that came in: where it lies, its capacity, what it holds. -/
structure SliceOf (α : Type) where
  A : Option Addr
  c : Nat
  l : List α
def SliceOf.enc {α : Type} (s : SliceOf α) : List Value := [.slice s.A s.l.length s.c]
def SliceOf.ok {α : Type} (enc : α → List Value) (sz : Nat) (ok : World → α → Prop) (w : World) (s : SliceOf α) : Prop :=
  Slc w enc sz s.A s.l ∧ s.l.length ≤ s.c ∧ s.c ≤ maxLen ∧ (s.A = none → s.c = 0) ∧ ∀ x ∈ s.l, ok w x

theorem list_of {α : Type} (n : Nat) (p : Nat → α → Prop) (h : ∀ i, i < n → ∃ a, p i a) : ∃ l : List α, l.length = n ∧ ∀ i a, l[i]? = some a → p i a := by
  induction n with
  | zero => exact ⟨[], rfl, by simp⟩
  | succ n ih =>
    obtain ⟨l, hl, hp⟩ := ih (fun i hi => h i (by omega))
    obtain ⟨a, ha⟩ := h n (by omega)
    refine ⟨l ++ [a], by simp [hl], fun i b hb => ?_⟩
    rw [List.getElem?_append] at hb
    split at hb
    · exact hp i b hb
    · rename_i hi
      have hb' := (List.getElem?_eq_some_iff.1 hb).1
      simp at hb'
      obtain rfl : i = n := by omega
      simp [hl] at hb
      subst hb; exact ha

theorem reads_slice {α : Type} {P : Program} {t e : TypeId} {enc : α → List Value} {ok : World → α → Prop} {sz : Nat} (ht : P.underlying t = some (.slice e)) (hR : Reads P e enc ok) (hC : P.cellsOf e = sz) (hz : 0 < sz) (hs : ∀ x, (enc x).length = sz) :
    Reads P t (SliceOf.enc (α := α)) (SliceOf.ok enc sz ok) := by
  intro H encH w base spare held fuel cs x h
  rcases open_slice ht h with ⟨h0, _⟩ | ⟨a, len, cap, m, n, D, Pl, hcs, hb, hl, hm, hmm, hx, hi⟩
  · exact ⟨⟨none, 0, []⟩, h0, Slc.nil, Nat.le_refl _, by simp, fun _ => rfl, by simp⟩
  · have hlm : len ≤ m := by rw [hmm]; split <;> omega
    obtain ⟨l, hll, hp⟩ := list_of len (fun i x => w.cells? base (a.add (i * sz)) sz = some (enc x) ∧ ok w x) (by
      intro i hil
      obtain ⟨cs', hc, ht'⟩ := hi i (by omega)
      rw [hC] at hc
      obtain ⟨y, rfl, hy⟩ := hR _ _ _ _ _ _ _ _ _ ht'
      exact ⟨y, hc, hy⟩)
    refine ⟨⟨some a, cap, l⟩, by rw [hcs, ← hll]; rfl, ?_, by simpa [hll] using hl, hm, (fun h => by cases h), ?_⟩
    · intro i x hx
      obtain ⟨hc, _⟩ := hp i x hx
      obtain ⟨_, _, hat⟩ := World.cells?_some hc
      have h0 := hat 0 hz
      have hv : (enc x)[0]? = some ((enc x)[0]'(by rw [hs]; exact hz)) := List.getElem?_eq_getElem _
      rw [hv] at h0
      obtain ⟨b, off, spot⟩ := a
      have hlt : b < w.heap.size := by
        have h1 := h0
        simp only [World.cell?] at h1
        split at h1
        · rename_i hh
          have hlt' := (Array.getElem?_eq_some_iff.1 hh).1
          have e1 : ∀ (x : Addr) (k : Nat), (x.add k).block = x.block := by intro x k; unfold Addr.add; split <;> rfl
          rw [e1, e1] at hlt'
          exact hlt'
        · cases h1
      -- the first element pays that the address bears no spot
      have hl0 : 0 < l.length := Nat.lt_of_le_of_lt (Nat.zero_le _) (List.getElem?_eq_some_iff.1 hx).1
      obtain ⟨hc0, _⟩ := hp 0 l[0] (List.getElem?_eq_getElem hl0)
      obtain ⟨_, _, hat0⟩ := World.cells?_some hc0
      have h00 := hat0 0 hz
      have hv0 : (enc l[0])[0]? = some ((enc l[0])[0]'(by rw [hs]; exact hz)) := List.getElem?_eq_getElem _
      rw [hv0] at h00
      have hspot : spot = none := by simpa [Addr.add] using World.cell?_spot h00
      subst hspot
      refine ⟨b, off, rfl, hlt, fun j v hj => ?_⟩
      have hjs : j < sz := by rw [← hs x]; exact (List.getElem?_eq_some_iff.1 hj).1
      have := (hat j hjs).trans hj
      rw [Go.WideShapes.add_plain, Go.WideShapes.add_plain] at this
      exact this
    · intro x hx
      obtain ⟨i, hi', rfl⟩ := List.getElem_of_mem hx
      exact (hp i l[i] (List.getElem?_eq_getElem hi')).2

/-- A field of a struct. -/
theorem seg {α H : Type} {P : Program} {t : TypeId} {enc : α → List Value} {ok : World → α → Prop} (hR : Reads P t enc ok) (o s : Nat) {f : Field} (ht : f.type = t) (ho : f.offset = o) (hs : P.cellsOf t = s)
    {encH : TypeId × Value → H} {w : World} {base : Nat} {spare : Nat → Bool} {held : Bool} {n : Nat} {cs : List Value} {xs : List (DataW H × List MemPlace)} {i : Nat}
    (hf : DataW.trod encH P w base spare held n f.type ((cs.drop f.offset).take (P.cellsOf f.type)) = xs[i]?) (hi : i < xs.length) : ∃ a, (cs.drop o).take s = enc a ∧ ok w a := by
  subst ht ho hs
  rw [List.getElem?_eq_getElem hi] at hf
  exact hR _ _ _ _ _ _ _ _ _ hf
/-- A parameter of one cell. -/
theorem open_cell {α H : Type} {encH : TypeId × Value → H} {P : Program} {t : TypeId} {enc : α → List Value} {ok : World → α → Prop} {w : World} {base : Nat} {spare : Nat → Bool} {held : Bool} {v : Value} {d : DataW H} {p : List MemPlace}
    (hR : Reads P t enc ok) (h : DataW.Trod encH P w base spare held t v d p) : ∃ a, v.cells.toList = enc a ∧ ok w a := by
  obtain ⟨fuel, hf⟩ := h
  exact hR _ _ _ _ _ _ _ _ _ hf
end Go.Proofs.Ytmgpbjpohbpgpaa
