/- The contracts in the form in which the laws take them; the example. -/
import Derived.Test.YtemdebheinbolaaM
namespace Go.Proofs.Ytemdebheinbolaa
open Go.RowKit
def RetPn (w : World) (r : List Int × Int) (k : Nat) (e : Ending) (w' : World) : Prop := ∃ A c, e = .returned (.tuple #[.slice A k c, .int .i64 r.2]) ∧ Slc w' ic 1 A r.1 ∧ Below w.heap.size w w'
theorem RetP.n {w : World} {r : List Int × Int} {k : Nat} (hk : k = r.1.length) {e : Ending} {w' : World} (h : RetP w r e w') : RetPn w r k e w' := by subst hk; exact h
section
variable {A B : Option Addr} {n m c d k : Nat} {l : List Nd} {seen : List Int} {w : World}
theorem leaves_at (r : List Int × Int) (hr : leavesR l = r) (hn : n = l.length) (ha : TOk w A l) (hk : k = r.1.length) : Calls Try.prog 13 #[.slice A n c] w (RetPn w r k) := by
  subst hr hn; exact (leaves_any A c l w ha).mono fun _ _ h => h.n hk
theorem rleaves_at (r : List Int × Int) (hr : leavesR l = r) (hn : n = l.length) (ha : TOk w A l) (hk : k = r.1.length) : Calls Try.prog 14 #[.slice A n c] w (RetPn w r k) := by
  subst hr hn; exact (rleaves_any A c l w ha).mono fun _ _ h => h.n hk
theorem at_at {leaf x : Int} (r : Int × Int) (hr : atR l leaf x = r) (hn : n = l.length) (ha : TOk w A l) : Calls Try.prog 18 #[.slice A n c, .int .i64 leaf, .int .i64 x] w (RetI w r) := by
  subst hr hn; exact at_any A c l leaf x w ha
theorem rat_at {leaf x : Int} (r : Int × Int) (hr : atR l leaf x = r) (hn : n = l.length) (ha : TOk w A l) : Calls Try.prog 19 #[.slice A n c, .int .i64 leaf, .int .i64 x] w (RetI w r) := by
  subst hr hn; exact rat_any A c l leaf x w ha
theorem alive_at (r : List Int × Int) (hr : aliveR l seen = r) (hn : n = l.length) (hm : m = seen.length) (ha : TOk w A l) (hb : Slc w ic 1 B seen) (hbl : seen.length ≤ maxLen) (hk : k = r.1.length) : Calls Try.prog 20 #[.slice A n c, .slice B m d] w (RetPn w r k) := by
  subst hr hn hm; exact (alive_any A B c d l seen w ha hb hbl).mono fun _ _ h => h.n hk
theorem ralive_at (r : List Int × Int) (hr : aliveR l seen = r) (hn : n = l.length) (hm : m = seen.length) (ha : TOk w A l) (hb : Slc w ic 1 B seen) (hbl : seen.length ≤ maxLen) (hk : k = r.1.length) : Calls Try.prog 21 #[.slice A n c, .slice B m d] w (RetPn w r k) := by
  subst hr hn hm; exact (ralive_any A B c d l seen w ha hb hbl).mono fun _ _ h => h.n hk
theorem less_at {leaf : Int} {a : Bool} {ix x : Int} (r : Int × Int) (hr : lessR l leaf a ix x = r) (hn : n = l.length) (ha : TOk w A l) : Calls Try.prog 22 #[.slice A n c, .int .i64 leaf, .bool a, .int .i64 ix, .int .i64 x] w (RetI w r) := by
  subst hr hn; exact less_any A c l leaf a ix x w ha
theorem rless_at {leaf : Int} {a : Bool} {ix x : Int} (r : Int × Int) (hr : lessR l leaf a ix x = r) (hn : n = l.length) (ha : TOk w A l) : Calls Try.prog 23 #[.slice A n c, .int .i64 leaf, .bool a, .int .i64 ix, .int .i64 x] w (RetI w r) := by
  subst hr hn; exact rless_any A c l leaf a ix x w ha
theorem same_at {a b : List Int} (r : Bool) (hr : decide (a = b) = r) (hn : n = a.length) (hm : m = b.length) (ha : Slc w ic 1 A a) (hb : Slc w ic 1 B b) (h : a.length < 1000000) : Calls Try.prog 15 #[.slice A n c, .slice B m d] w (RetB w r) := by
  subst hr hn hm; exact (sameqI A B c d a b w ha hb (by omega)).mono fun _ _ ⟨h1, k, h2⟩ => ⟨h1, by rw [h2]; exact ext_drewN (ext_refl w) k⟩
theorem has_at {a : List Int} {x : Int} (r : Bool) (hr : decide (x ∈ a) = r) (hn : n = a.length) (ha : Slc w ic 1 A a) (h : a.length ≤ maxLen) : Calls Try.prog 24 #[.slice A n c, .int .i64 x] w (RetB w r) := by
  subst hr hn; exact (has_any A c a x w ha h).mono fun _ _ ⟨h1, h2⟩ => ⟨h1, by rw [← h2]; exact ext_refl _⟩
theorem few_at (hn : n = l.length) (ha : TOk w A l) : Calls Try.prog 12 #[.slice A n c] w (SomeB w) := by
  subst hn; exact few_any A c l w ha.nd ha.len
end
def cu0 : Cut := ⟨false, 3, 60, 90, 2⟩
def exL (b : Nat) : List Nd := [⟨-1, 0, ⟨none, 0, []⟩⟩, ⟨0, 60, ⟨some ⟨b, 0, none⟩, 2, [cu0, cu0]⟩⟩, ⟨0, 60, ⟨none, 0, []⟩⟩]
theorem exL_len (b : Nat) : (exL b).length = 3 := rfl
def RetEx (w : World) (e : Ending) (w' : World) : Prop := ∃ A b, e = .returned (.slice A 3 3) ∧ TOk w' A (exL b) ∧ Below w.heap.size w w'
theorem TOk.take {w : World} {A : Option Addr} {l : List Nd} (h : TOk w A l) (k : Nat) : TOk w A (l.take k) :=
  ⟨fun i x hx => h.nd i x (by rw [List.getElem?_take] at hx; split at hx <;> simp_all), fun n hn => h.ct n (List.mem_of_mem_take hn), Nat.le_trans (List.length_take_le' _ _) h.len, fun n hn => h.cl n (List.mem_of_mem_take hn)⟩
theorem TOk.alloc {w : World} {A : Option Addr} {l : List Nd} (h : TOk w A l) (o : Obj) : TOk (w.alloc o) A l := h.ext (ext_alloc (ext_refl w) o)
theorem TOk.nil {w : World} : TOk w none [] := ⟨Slc.nil, by simp, by simp, by simp⟩
theorem example_any (w : World) : Calls Try.prog 25 #[] w (RetEx w) := by
  go_enter Try.func25, Try.ntmps25
  go_wp2_with fail
  go_ret
  have h1 : Slc (w.alloc (.cells #[.bool false, .int .i64 3, .int .i64 60, .int .i64 90, .int .i64 2] 47)) Cut.cells 5 none ([] : List Cut) := Slc.nil
  have hS := slc_lit (w.alloc (.cells #[.bool false, .int .i64 3, .int .i64 60, .int .i64 90, .int .i64 2] 47)) [cu0, cu0] #[.bool false, .int .i64 3, .int .i64 60, .int .i64 90, .int .i64 2, .bool false, .int .i64 3, .int .i64 60, .int .i64 90, .int .i64 2] 47 (enc := Cut.cells) (sz := 5) (fun _ => rfl) rfl
  have hL := slc_lit ((w.alloc (.cells #[.bool false, .int .i64 3, .int .i64 60, .int .i64 90, .int .i64 2] 47)).alloc (.cells #[.bool false, .int .i64 3, .int .i64 60, .int .i64 90, .int .i64 2, .bool false, .int .i64 3, .int .i64 60, .int .i64 90, .int .i64 2] 47)) (exL (w.heap.size + 1)) #[.int .i64 (-1), .int .i64 0, .slice none 0 0, .int .i64 0, .int .i64 60, .slice (some ⟨w.heap.size + 1, 0, none⟩) 2 2, .int .i64 0, .int .i64 60, .slice none 0 0] 40 (enc := Nd.cells) (sz := 3) (fun _ => rfl) rfl
  simp only [World.size_alloc] at hS hL
  refine ⟨_, w.heap.size + 1, rfl, ⟨hL, ?_, (by show 3 ≤ maxLen; decide), ?_⟩, ext_alloc (ext_alloc (ext_alloc (ext_refl w) _) _) _⟩
  · intro n hn
    simp only [exL, List.mem_cons, List.not_mem_nil, or_false] at hn
    rcases hn with rfl | rfl | rfl
    · exact Slc.nil
    · exact hS.alloc _
    · exact Slc.nil
  · intro n hn
    simp only [exL, List.mem_cons, List.not_mem_nil, or_false] at hn
    rcases hn with rfl | rfl | rfl <;> simp [maxLen]
theorem ex1 (b : Nat) : leavesR (exL b) = ([1, 2], 0) := by kernel_rfl
theorem ex2 (b : Nat) : atR (exL b) 1 59 = (0, 0) := by kernel_rfl
theorem ex3 (b : Nat) : atR (exL b) 1 60 = (1, 0) := by kernel_rfl
theorem ex4 (b : Nat) : aliveR (exL b) [] = ([1, 2], 0) := by kernel_rfl
theorem ex5 (b : Nat) : aliveR (exL b) [0, 2] = ([2], 0) := by kernel_rfl
theorem ex6 (b : Nat) : aliveR (exL b) [1, 2] = ([], 181) := by kernel_rfl
theorem ex7 (b : Nat) : lessR (exL b) 1 false 3 60 = (4, 0) := by kernel_rfl
theorem ex8 (b : Nat) : lessR (exL b) 2 false 3 60 = (0, 0) := by kernel_rfl
theorem ex9 (b : Nat) : aliveR ((exL b).take 1) [1] = ([], 180) := by kernel_rfl
theorem ex10 (b : Nat) : leavesR ((exL b).take 1) = ([0], 0) := by kernel_rfl
theorem ex11 (b : Nat) : chkE (exL b) = 0 := by kernel_rfl
theorem ex12 : chkE [] = 180 := by kernel_rfl
def Tru (w : World) (e : Ending) (w' : World) : Prop := e = .returned (.bool true) ∧ Below w.heap.size w w'
end Go.Proofs.Ytemdebheinbolaa
