/- The reference's test of a node. -/
import Derived.Test.YtemdebheinbolaaB
namespace Go.Proofs.Ytemdebheinbolaa
open Go.RowKit
/-- A tree in memory: its nodes, and each node's cuts. -/
structure TOk (w : World) (A : Option Addr) (l : List Nd) : Prop where
  nd : Slc w Nd.cells 3 A l
  ct : ∀ n ∈ l, Slc w Cut.cells 5 n.cuts.A n.cuts.l
  len : l.length ≤ maxLen
  cl : ∀ n ∈ l, n.cuts.l.length ≤ maxLen
theorem TOk.ext {w w' : World} {A : Option Addr} {l : List Nd} (h : TOk w A l) (hb : Below w.heap.size w w') : TOk w' A l := ⟨h.nd.ext hb, fun n hn => (h.ct n hn).ext hb, h.len, h.cl⟩
/-- A node in a block of its own. -/
structure BoxN (w : World) (b : Nat) (x : Nd) : Prop where
  lt : b < w.heap.size
  p : w.cell? ⟨b, 0, none⟩ = some (.int .i64 x.p)
  f : w.cell? ⟨b, 1, none⟩ = some (.int .i64 x.f)
  c : w.cell? ⟨b, 2, none⟩ = some (.slice x.cuts.A x.cuts.l.length x.cuts.c)
theorem BoxN.new (w : World) (x : Nd) (t : TypeId) : BoxN (w.alloc (.cells #[.int .i64 x.p, .int .i64 x.f, .slice x.cuts.A x.cuts.l.length x.cuts.c] t)) w.heap.size x := ⟨by simp, by simp, by simp, by simp⟩
theorem BoxN.ext {w w' : World} {b : Nat} {x : Nd} (h : BoxN w b x) (hb : Below w.heap.size w w') : BoxN w' b x :=
  ⟨Nat.lt_of_lt_of_le h.lt hb.size, (hb.cell (p := ⟨b, 0, none⟩) h.lt).trans h.p, (hb.cell (p := ⟨b, 1, none⟩) h.lt).trans h.f, (hb.cell (p := ⟨b, 2, none⟩) h.lt).trans h.c⟩
theorem okN_parts (l : List Nd) (i : Nat) (x : Nd) (hP : okP l i x = true) : okN l i x = (!clash l i x && !(x.cuts.l.any (badC x.f)) && decide (x.cuts.l.length ≤ 64)) := by simp [okN, hP]
theorem any_take {α : Type} {p : α → Bool} {l : List α} {k : Nat} {x : α} (h : (l.take k).any p = false) (hx : l[k]? = some x) (hp : p x = false) : (l.take (k + 1)).any p = false := by
  rw [List.take_add_one, hx]; simp [h, hp]
theorem any_hit {α : Type} {p : α → Bool} {l : List α} {k : Nat} {x : α} (hx : l[k]? = some x) (hp : p x = true) : l.any p = true := List.any_eq_true.2 ⟨x, List.mem_of_getElem? hx, hp⟩
theorem any_end {α : Type} {p : α → Bool} {l : List α} {k : Nat} (h : (l.take k).any p = false) (hk : l.length ≤ k) : l.any p = false := by rwa [List.take_of_length_le hk] at h
/-- No clash with the nodes from 1 up to k. -/
def noClash (l : List Nd) (k : Nat) (x : Nd) : Prop := ∀ j, 1 ≤ j → j < k → par l j = x.p → frm l j = x.f
theorem noClash_step {l : List Nd} {k : Nat} {x y : Nd} (h : noClash l k x) (hy : l[k]? = some y) (hc : y.p = x.p → y.f = x.f) : noClash l (k + 1) x := fun j h1 h2 h3 => by
  by_cases e : j = k
  · subst e; rw [par_at hy] at h3; rw [frm_at hy]; exact hc h3
  · exact h j h1 (by omega) h3
theorem noClash_end {l : List Nd} {i : Nat} {x : Nd} (h : noClash l i x) : clash l i x = false := by
  refine List.any_eq_false.2 fun j hj => ?_
  have hj := List.mem_range.1 hj
  simp only [Bool.and_eq_true, decide_eq_true_eq, not_and]
  rintro ⟨a, b⟩ c
  exact c (h j a hj b)
theorem clash_hit {l : List Nd} {i k : Nat} {x y : Nd} (h1 : 1 ≤ k) (h2 : k < i) (hy : l[k]? = some y) (hp : y.p = x.p) (hf : y.f ≠ x.f) : clash l i x = true :=
  List.any_eq_true.2 ⟨k, List.mem_range.2 h2, by rw [par_at hy, frm_at hy]; simp [h1, hp, hf]⟩
abbrev RetB (w : World) (r : Bool) (e : Ending) (w' : World) : Prop := e = .returned (.bool r) ∧ Below w.heap.size w w'
set_option maxHeartbeats 1600000 in
set_option maxRecDepth 100000 in
theorem isnode_bad (A : Option Addr) (c : Nat) (l : List Nd) (i : Nat) (x : Nd) (w : World) (ha : TOk w A l) (hi : i < l.length) (hx : l[i]? = some x) (hP : okP l i x = false) :
    Calls Try.prog 32 #[.slice A l.length c, .int .i64 i] w (RetB w false) := by
  have hl := ha.len
  unfold maxLen at hl
  obtain ⟨x', b1, o1, hx', rfl, hb1, hc⟩ := ha.nd.at_ hi
  obtain rfl : x = x' := Option.some.inj (hx.symm.trans hx')
  have c0 := hc 0 _ rfl
  have c1 := hc 1 _ rfl
  have c2 := hc 2 _ rfl
  simp only [Nat.add_zero] at c0
  have hi' : (i : Int) < l.length := by omega
  have HW : Hid (Below w.heap.size w (w.alloc (.cells #[.int .i64 x.p, .int .i64 x.f, .slice x.cuts.A x.cuts.l.length x.cuts.c] 40))) := ext_alloc (ext_refl w) _
  have HX := Lib.hid hx
  have HC := Lib.hid hc
  clear hx hx' hc
  rcases Nat.eq_zero_or_pos i with h0 | h0
  · obtain rfl : i = 0 := h0
    have hP' : ¬ (x.p = -1 ∧ x.f = 0) := by simpa [okP] using hP
    simp only [Nat.zero_mul, Nat.add_zero] at c0 c1 c2
    by_cases hp : x.p = -1
    · have hf : ¬ x.f = 0 := fun e => hP' ⟨hp, e⟩
      have e1 : (x.p != -1) = false := by simp [hp]
      have e2 : (x.f != 0) = true := by simp [hf]
      clear hP hP' hp hf
      go_enter Try.func32, Try.ntmps32
      go_wp2_with fail
      go_ret
      exact ⟨rfl, HW.out⟩
    · have e1 : (x.p != -1) = true := by simp [hp]
      clear hP hP' hp
      go_enter Try.func32, Try.ntmps32
      go_wp2_with fail
      go_ret
      exact ⟨rfl, HW.out⟩
  · have hP' : ¬ (0 ≤ x.p ∧ x.p < i ∧ frm l x.p.toNat < x.f ∧ x.f < 1440) := by
      have := hP
      simp only [okP, if_neg (Nat.ne_of_gt h0)] at this
      intro ⟨a, b, c, d⟩
      simp [a, b, c, d] at this
    have e0 : ((i : Int) == 0) = false := by simp; omega
    have g0 : decide ((0 : Int) < (i : Int)) = true := by simp; omega
    by_cases h1 : x.p < 0
    · have g1 : decide (x.p < 0) = true := by simpa using h1
      clear hP hP'
      go_enter Try.func32, Try.ntmps32
      go_wp2_with fail
      go_quiet (fail)
      go_wp2_with fail
      go_ret
      exact ⟨rfl, ext_drewN HW.out _⟩
    have g1 : decide (x.p < 0) = false := by simpa using h1
    by_cases h2 : (i : Int) ≤ x.p
    · have g2 : decide ((i : Int) ≤ x.p) = true := by simpa using h2
      clear hP hP'
      go_enter Try.func32, Try.ntmps32
      go_wp2_with fail
      go_quiet (fail)
      go_wp2_with fail
      go_ret
      exact ⟨rfl, ext_drewN HW.out _⟩
    have g2 : decide ((i : Int) ≤ x.p) = false := by simpa using h2
    obtain ⟨q, hq⟩ : ∃ q : Nat, x.p = q := ⟨x.p.toNat, by omega⟩
    obtain ⟨y, b2, o2, hy, e2, hb2, hcy⟩ := ha.nd.at_ (show q < l.length by omega)
    cases e2
    have d1 := hcy 1 _ rfl
    have hfy : frm l x.p.toNat = y.f := by rw [hq, Int.toNat_natCast, frm_at hy]
    rw [hfy] at hP'
    have g5 : x.p < l.length := by omega
    have g6 : x.p.toNat = q := by omega
    have g7 : (0 : Int) ≤ x.p := by omega
    have HQ := Lib.hid hq
    clear hq hy hcy hP hfy
    by_cases h3 : x.f ≤ y.f
    · have g3 : decide (x.f ≤ y.f) = true := by simpa using h3
      clear hP'
      go_enter Try.func32, Try.ntmps32
      go_wp2_with fail
      go_quiet (fail)
      go_wp2_with fail
      go_ret
      exact ⟨rfl, ext_drewN HW.out _⟩
    have g3 : decide (x.f ≤ y.f) = false := by simpa using h3
    have g4 : decide (1440 ≤ x.f) = true := by simp; omega
    clear hP'
    go_enter Try.func32, Try.ntmps32
    go_wp2_with fail
    go_quiet (fail)
    go_wp2_with fail
    go_ret
    exact ⟨rfl, ext_drewN HW.out _⟩
end Go.Proofs.Ytemdebheinbolaa
