/- Law 3: In and Sector. -/
import Derived.Test.YtilocjliplmmpaaGreatW
set_option linter.unusedSimpArgs false
set_option linter.unusedVariables false
namespace Go.Proofs.YtilocjliplmmpaaGreat
open Go.RowKit
/-- A scheme as it lies in memory. -/
structure SOk (w : World) (A : Option Addr) (l : List Chg) : Prop where
  s : Slc w Chg.cells 3 A l
  n : l.length ≤ maxLen
  o : ∀ y ∈ l, Chg.ok w y
theorem SOk.ext {w w' : World} {A : Option Addr} {l : List Chg} (h : SOk w A l) (hb : Below w.heap.size w w') : SOk w' A l := ⟨h.s.ext hb, h.n, fun y hy => (h.o y hy).ext hb⟩
theorem SOk.alloc {w : World} {A : Option Addr} {l : List Chg} (h : SOk w A l) (o : Obj) : SOk (w.alloc o) A l := h.ext (ext_alloc (ext_refl _) o)
theorem Tab.ok.alloc {w : World} {t : Tab} (h : Tab.ok w t) (o : Obj) : Tab.ok (w.alloc o) t := h.ext (ext_alloc (ext_refl _) o)
theorem Chg.ok.alloc {w : World} {t : Chg} (h : Chg.ok w t) (o : Obj) : Chg.ok (w.alloc o) t := h.ext (ext_alloc (ext_refl _) o)
theorem noChg_ok (w : World) : Chg.ok w noChg := okN0
theorem inGo_mem {m : Int} : ∀ {l : List Chg} {o : Option Chg} {x : Chg}, inGo m o l = some x → o = some x ∨ x ∈ l
  | [], o, x, h => .inl (by cases o <;> exact h)
  | y :: r, o, x, h => by
    cases o with
    | none =>
      simp only [inGo] at h
      split at h
      · rcases inGo_mem h with q | q
        · cases q; exact .inr List.mem_cons_self
        · exact .inr (List.mem_cons_of_mem _ q)
      · rcases inGo_mem h with q | q
        · cases q
        · exact .inr (List.mem_cons_of_mem _ q)
    | some c =>
      simp only [inGo] at h
      split at h
      · rcases inGo_mem h with q | q
        · cases q; exact .inr List.mem_cons_self
        · exact .inr (List.mem_cons_of_mem _ q)
      · rcases inGo_mem h with q | q
        · exact .inl q
        · exact .inr (List.mem_cons_of_mem _ q)
theorem inS_ok {w : World} {A : Option Addr} {l : List Chg} {m : Int} (h : SOk w A l) : Chg.ok w ((inS l m).getD noChg) := by
  cases e : inS l m with
  | none => exact noChg_ok w
  | some x =>
    rcases inGo_mem e with q | q
    · cases q
    · exact h.o x q
def InD (w : World) (d : Chg) (o : Bool) (e : Ending) (w' : World) : Prop := e = .returned (.tuple #[d.v, .bool o]) ∧ Below w.heap.size w w'
theorem in_d {A : Option Addr} {n c : Nat} {l : List Chg} {m : Int} {w : World} (d : Chg) (o : Bool) (hd : (inS l m).getD noChg = d) (ho : (inS l m).isSome = o) (hn : n = l.length) (h : SOk w A l) : Calls Tryz.prog 17 #[.agg #[.slice A n c], .int .i64 m] w (InD w d o) := by
  subst hd ho; exact cin_at _ rfl hn h.s h.n
theorem rin_d {A : Option Addr} {n c : Nat} {l : List Chg} {m : Int} {w : World} (d : Chg) (o : Bool) (hd : (inS l m).getD noChg = d) (ho : (inS l m).isSome = o) (hn : n = l.length) (h : SOk w A l) : Calls Tryz.prog 38 #[.agg #[.slice A n c], .int .i64 m] w (InD w d o) := by
  subst hd ho; exact rin_at _ rfl hn h.s h.n
def SecD (w : World) (r : Int) (o : Bool) (e : Ending) (w' : World) : Prop := e = .returned (.tuple #[.int .i64 r, .bool o]) ∧ Below w.heap.size w w'
theorem sec_d {t : Tab} {A : Option Addr} {n c : Nat} {l : List Chg} {v m : Int} {w : World} (r : Int) (o : Bool) (hr : (secR t l v m).getD 0 = r) (ho : (secR t l v m).isSome = o) (hn : n = l.length) (ht : Tab.ok w t) (h : SOk w A l) :
    Calls Tryz.prog 18 #[t.v, .agg #[.slice A n c], .int .i64 v, .int .i64 m] w (SecD w r o) := by
  subst hr ho hn; exact sector_any t A c l v m w ht h.s h.n
end Go.Proofs.YtilocjliplmmpaaGreat
