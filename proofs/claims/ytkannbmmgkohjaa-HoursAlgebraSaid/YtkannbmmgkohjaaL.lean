/- The contracts in the form in which the laws take them: lengths and results as variables. -/
import Derived.Test.YtkannbmmgkohjaaK
namespace Go.Proofs.Ytkannbmmgkohjaa
open Go.RowKit Go.Shelf
/-- What hands back a list of n spans. -/
def RetN (w : World) (l : List Sp) (n : Nat) (e : Ending) (w' : World) : Prop :=
  ∃ A c, e = .returned (.slice A n c) ∧ Slc w' Sp.cells 2 A l ∧ Below w.heap.size w w'
theorem RetS.n {w : World} {l : List Sp} {n : Nat} (hn : n = l.length) {e : Ending} {w' : World} (h : RetS w l e w') : RetN w l n e w' := by
  subst hn; exact h
section
variable {A B : Option Addr} {c d n m k : Nat} {a b : List Sp} {w : World}
theorem spans_at (l : List Sp) (ha : Slc w Sp.cells 2 A l) (hn : l.length < 1000000) (hnn : n = 2 * l.length) (hk : k = l.length) : Calls Try.prog 27 #[.slice A n c] w (RetN w l k) :=
  (spans_of A n c l w ha hn hnn).mono fun _ _ h => h.n hk
theorem normal_at (r : List Sp) (hr : nor a = r) (hn : n = a.length) (ha : Slc w Sp.cells 2 A a) (hna : a.length < 1000000) (hk : k = r.length) : Calls Try.prog 15 #[.slice A n c] w (RetN w r k) := by
  subst hr hn; exact (normal_any A c a w ha hna).mono fun _ _ h => h.n hk
theorem rnormal_at (r : List Sp) (hr : nor a = r) (hn : n = a.length) (ha : Slc w Sp.cells 2 A a) (hna : a.length < 1000000) (hk : k = r.length) : Calls Try.prog 16 #[.slice A n c] w (RetN w r k) := by
  subst hr hn; exact (rnormal_any A c a w ha hna).mono fun _ _ h => h.n hk
theorem union_at (r : List Sp) (hr : nrm (un a b) = r) (hn : n = a.length) (hm : m = b.length) (ha : Slc w Sp.cells 2 A a) (hb : Slc w Sp.cells 2 B b) (hna : a.length < 1000000) (hnb : b.length < 1000000) (hk : k = r.length) : Calls Try.prog 17 #[.slice A n c, .slice B m d] w (RetN w r k) := by
  subst hr hn hm; exact (union_any A B c d a b w ha hb hna hnb).mono fun _ _ h => h.n hk
theorem meet_at (r : List Sp) (hr : nrm (me a b) = r) (hn : n = a.length) (hm : m = b.length) (ha : Slc w Sp.cells 2 A a) (hb : Slc w Sp.cells 2 B b) (hna : a.length < 1000000) (hnb : b.length < 1000000) (hk : k = r.length) : Calls Try.prog 19 #[.slice A n c, .slice B m d] w (RetN w r k) := by
  subst hr hn hm; exact (meet_any A B c d a b w ha hb hna hnb).mono fun _ _ h => h.n hk
theorem minus_at (r : List Sp) (hr : nrm (mi a b) = r) (hn : n = a.length) (hm : m = b.length) (ha : Slc w Sp.cells 2 A a) (hb : Slc w Sp.cells 2 B b) (hna : a.length < 1000000) (hnb : b.length < 1000000) (hk : k = r.length) : Calls Try.prog 21 #[.slice A n c, .slice B m d] w (RetN w r k) := by
  subst hr hn hm; exact (minus_any A B c d a b w ha hb hna hnb).mono fun _ _ h => h.n hk
theorem runion_at (r : List Sp) (hr : nrm (un a b) = r) (hn : n = a.length) (hm : m = b.length) (ha : Slc w Sp.cells 2 A a) (hb : Slc w Sp.cells 2 B b) (hna : a.length < 1000000) (hnb : b.length < 1000000) (hk : k = r.length) : Calls Try.prog 18 #[.slice A n c, .slice B m d] w (RetN w r k) := by
  subst hr hn hm; exact (runion_any A B c d a b w ha hb hna hnb).mono fun _ _ h => h.n hk
theorem rmeet_at (r : List Sp) (hr : nrm (me a b) = r) (hn : n = a.length) (hm : m = b.length) (ha : Slc w Sp.cells 2 A a) (hb : Slc w Sp.cells 2 B b) (hna : a.length < 1000000) (hnb : b.length < 1000000) (hk : k = r.length) : Calls Try.prog 20 #[.slice A n c, .slice B m d] w (RetN w r k) := by
  subst hr hn hm; exact (rmeet_any A B c d a b w ha hb hna hnb).mono fun _ _ h => h.n hk
theorem rminus_at (r : List Sp) (hr : nrm (mi a b) = r) (hn : n = a.length) (hm : m = b.length) (ha : Slc w Sp.cells 2 A a) (hb : Slc w Sp.cells 2 B b) (hna : a.length < 1000000) (hnb : b.length < 1000000) (hk : k = r.length) : Calls Try.prog 22 #[.slice A n c, .slice B m d] w (RetN w r k) := by
  subst hr hn hm; exact (rminus_any A B c d a b w ha hb hna hnb).mono fun _ _ h => h.n hk
theorem covers_at {s : Sp} (r : Bool) (hr : cov a s = r) (hn : n = a.length) (ha : Slc w Sp.cells 2 A a) (hna : a.length < 1000000) : Calls Try.prog 25 #[.slice A n c, .agg #[.int .i64 s.f, .int .i64 s.t]] w fun e w' => e = .returned (.bool r) ∧ Below w.heap.size w w' := by
  subst hr hn; exact covers_any A c a s w ha hna
theorem rcovers_at {s : Sp} (r : Bool) (hr : cov a s = r) (hn : n = a.length) (ha : Slc w Sp.cells 2 A a) (hna : a.length < 1000000) : Calls Try.prog 26 #[.slice A n c, .agg #[.int .i64 s.f, .int .i64 s.t]] w fun e w' => e = .returned (.bool r) ∧ Below w.heap.size w w' := by
  subst hr hn; exact rcovers_any A c a s w ha hna
theorem has_at {x : Int} (r : Bool) (hr : has a x = r) (hn : n = a.length) (ha : Slc w Sp.cells 2 A a) (hna : a.length < 1000000) : Calls Try.prog 23 #[.slice A n c, .int .i64 x] w fun e w' => e = .returned (.bool r) ∧ Below w.heap.size w w' := by
  subst hr hn; exact has_any A c a x w ha hna
theorem rhas_at {x : Int} (r : Bool) (hr : has a x = r) (hn : n = a.length) (ha : Slc w Sp.cells 2 A a) (hna : a.length < 1000000) : Calls Try.prog 24 #[.slice A n c, .int .i64 x] w fun e w' => e = .returned (.bool r) ∧ Below w.heap.size w w' := by
  subst hr hn; exact (rhas_any A c a x w ha hna).mono fun _ _ ⟨h1, h2⟩ => ⟨h1, by rw [← h2]; exact ext_refl _⟩
theorem check_at (r : Int) (hr : chkE a = r) (hn : n = a.length) (ha : Slc w Sp.cells 2 A a) (hna : a.length < 1000000) : Calls Try.prog 12 #[.slice A n c] w fun e w' => e = .returned (.int .i64 r) ∧ Below w.heap.size w w' := by
  subst hr hn; exact check_any A c a w ha hna
theorem rcheck_at (r : Int) (hr : chkE a = r) (hn : n = a.length) (ha : Slc w Sp.cells 2 A a) (hna : a.length < 1000000) : Calls Try.prog 13 #[.slice A n c] w fun e w' => e = .returned (.int .i64 r) ∧ Below w.heap.size w w' := by
  subst hr hn; exact (rcheck_any A c a w ha hna).mono fun _ _ ⟨h1, k, h2⟩ => ⟨h1, by rw [h2]; exact ext_drewN (ext_refl _) _⟩
theorem few_at (r : Bool) (hr : decide (a.length ≤ 40) = r) (hn : n = a.length) (hna : a.length ≤ maxLen) : Calls Try.prog 11 #[.slice A n c] w fun e w' => e = .returned (.bool r) ∧ Below w.heap.size w w' := by
  subst hr hn; exact (few_any A c a w hna).mono fun _ _ ⟨h1, h2⟩ => ⟨h1, by first | exact h2 | (rw [h2]; exact ext_refl _) | (rw [← h2]; exact ext_refl _)⟩
end
def Tru (w : World) (e : Ending) (w' : World) : Prop := e = .returned (.bool true) ∧ Below w.heap.size w w'
end Go.Proofs.Ytkannbmmgkohjaa
