/- Small contracts: tests over lists, equality, sums. -/
import Derived.WalkKit
import Derived.WalkLawsBesides
import Derived.WalkSpells
import Derived.Deep.QuietTactic
import Derived.BigQuiet
import Derived.Lib.Hide
import Derived.IntWalk
import Derived.Deep.RegionHeld3
import Derived.Test.YtilocjliplmmpaaGreatA
import Derived.Test.YtilocjliplmmpaaGreatPF
import Derived.Test.YtilocjliplmmpaaGreatLB
set_option linter.unusedSimpArgs false
set_option linter.unusedVariables false
namespace Go.Proofs.YtilocjliplmmpaaGreat
open Go.RowKit

theorem bcell {W w1 : World} (hb : Below W.heap.size W w1) : (∀ b o, b < W.heap.size → w1.cell? ⟨b, o, none⟩ = W.cell? ⟨b, o, none⟩) ∧ (∀ b o, b < W.heap.size → w1.frozen? ⟨b, o, none⟩ = W.frozen? ⟨b, o, none⟩) :=
  ⟨fun b o h => hb.cell (p := ⟨b, o, none⟩) h, fun b o h => hb.frozen (p := ⟨b, o, none⟩) h⟩
theorem ic_len (n : Int) : (ic n).length = 1 := rfl
theorem enters27 : Enters Tryz.prog 70 := fun args w => by kernel_rfl
theorem enters31 : Enters Tryz.prog 100 := fun args w => by kernel_rfl
theorem enters43 : Enters Tryz.prog 102 := fun args w => by kernel_rfl
set_option maxHeartbeats 400000 in
theorem indexCut (g : Nat) (cap1 : Value) (p : Cut → Bool) (A : Option Addr) (c : Nat) (l : List (Cut)) (w : World) (ha : Slc w Cut.cells 5 A l) (hn : l.length ≤ maxLen) (hE : Enters Tryz.prog g)
    (hp : ∀ (x : Cut) (W : World), x ∈ l → Below w.heap.size w W → Calls Tryz.prog g #[x.v, cap1] W fun e W' => e = .returned (.bool (p x)) ∧ Below W.heap.size W W') :
    Calls Tryz.prog 118 #[.slice A l.length c, .func (.func g) #[] #[cap1]] w fun e w' => e = .returned (.int .i64 (idxGo p 0 l)) ∧ Below w.heap.size w w' := by
  have HP := Lib.hid hp
  have HE := Lib.hid hE
  clear hp hE
  unfold maxLen at hn
  go_enter Tryz.func118, Tryz.ntmps118
  go_wp2
  go_loopw [8] (fun i wr => ∃ k : Nat, k ≤ l.length ∧ i = .int .i64 k ∧ idxGo p 0 l = idxGo p k (l.drop k) ∧ Below w.heap.size w wr) (fun i _ => l.length - (intOf i).toNat)
  case atStart => exact ⟨0, Nat.zero_le _, rfl, rfl, ext_refl _⟩
  case round =>
    obtain ⟨k, hk, rfl, heq, hB⟩ := hrel
    have HQ := Lib.hid heq
    clear heq
    by_cases hlt : k < l.length
    · obtain ⟨x, b1, o1, hx, rfl, hb1, hc⟩ := (ha.ext hB).at_ hlt
      have HX := Lib.hid hx
      clear hx
      have c0 := hc 0 _ rfl
      have c1 := hc 1 _ rfl
      have c2 := hc 2 _ rfl
      have c3 := hc 3 _ rfl
      have c4 := hc 4 _ rfl
      simp only [Nat.mul_one, Nat.add_zero] at c0 c1 c2 c3 c4
      clear hc
      have hlt' : (k : Int) < l.length := by omega
      have hE2 := HE.out #[x.v, cap1] wr
      cases hpx : p x
      · go_wp2_with fail
        refine (HP.out x wr (List.mem_of_getElem? HX.out) hB).mono ?_
        rintro e w1 ⟨rfl, hB1⟩
        clear hE2
        go_wp2_with fail
        go_roundw
        case rel => exact ⟨k + 1, hlt, by go_num, idx_step HX.out hpx HQ.out, ext_trans hB hB1⟩
        case measure => simp [intOf]; omega
      · go_wp2_with fail
        refine (HP.out x wr (List.mem_of_getElem? HX.out) hB).mono ?_
        rintro e w1 ⟨rfl, hB1⟩
        clear hE2
        go_wp2_with fail
        go_ret
        exact ⟨ret_int (idx_hit HX.out hpx HQ.out).symm, ext_trans hB hB1⟩
    · go_wp2_with fail
      go_ret
      exact ⟨ret_int (idx_end (by omega) HQ.out).symm, hB⟩
theorem containsCut (g : Nat) (cap1 : Value) (p : Cut → Bool) (A : Option Addr) (c : Nat) (l : List (Cut)) (w : World) (ha : Slc w Cut.cells 5 A l) (hn : l.length ≤ maxLen) (hE : Enters Tryz.prog g)
    (hp : ∀ (x : Cut) (W : World), x ∈ l → Below w.heap.size w W → Calls Tryz.prog g #[x.v, cap1] W fun e W' => e = .returned (.bool (p x)) ∧ Below W.heap.size W W') :
    Calls Tryz.prog 99 #[.slice A l.length c, .func (.func g) #[] #[cap1]] w fun e w' => e = .returned (.bool (l.any p)) ∧ Below w.heap.size w w' := by
  have HP := Lib.hid hp
  have HE := Lib.hid hE
  clear hp hE
  go_enter Tryz.func99, Tryz.ntmps99
  go_wp2_with fail
  refine (indexCut g cap1 p A c l _ ha hn HE.out HP.out).mono ?_
  rintro e w1 ⟨rfl, hB1⟩
  go_wp2_with fail
  go_ret
  exact ⟨ret_bool (idx_any p l), hB1⟩
set_option maxHeartbeats 400000 in
theorem indexNd (g : Nat) (cap1 : Value) (p : Nd → Bool) (A : Option Addr) (c : Nat) (l : List (Nd)) (w : World) (ha : Slc w Nd.cells 3 A l) (hn : l.length ≤ maxLen) (hE : Enters Tryz.prog g)
    (hp : ∀ (x : Nd) (W : World), x ∈ l → Below w.heap.size w W → Calls Tryz.prog g #[x.v, cap1] W fun e W' => e = .returned (.bool (p x)) ∧ Below W.heap.size W W') :
    Calls Tryz.prog 119 #[.slice A l.length c, .func (.func g) #[] #[cap1]] w fun e w' => e = .returned (.int .i64 (idxGo p 0 l)) ∧ Below w.heap.size w w' := by
  have HP := Lib.hid hp
  have HE := Lib.hid hE
  clear hp hE
  unfold maxLen at hn
  go_enter Tryz.func119, Tryz.ntmps119
  go_wp2
  go_loopw [8] (fun i wr => ∃ k : Nat, k ≤ l.length ∧ i = .int .i64 k ∧ idxGo p 0 l = idxGo p k (l.drop k) ∧ Below w.heap.size w wr) (fun i _ => l.length - (intOf i).toNat)
  case atStart => exact ⟨0, Nat.zero_le _, rfl, rfl, ext_refl _⟩
  case round =>
    obtain ⟨k, hk, rfl, heq, hB⟩ := hrel
    have HQ := Lib.hid heq
    clear heq
    by_cases hlt : k < l.length
    · obtain ⟨x, b1, o1, hx, rfl, hb1, hc⟩ := (ha.ext hB).at_ hlt
      have HX := Lib.hid hx
      clear hx
      have c0 := hc 0 _ rfl
      have c1 := hc 1 _ rfl
      have c2 := hc 2 _ rfl
      simp only [Nat.mul_one, Nat.add_zero] at c0 c1 c2
      clear hc
      have hlt' : (k : Int) < l.length := by omega
      have hE2 := HE.out #[x.v, cap1] wr
      cases hpx : p x
      · go_wp2_with fail
        refine (HP.out x wr (List.mem_of_getElem? HX.out) hB).mono ?_
        rintro e w1 ⟨rfl, hB1⟩
        clear hE2
        go_wp2_with fail
        go_roundw
        case rel => exact ⟨k + 1, hlt, by go_num, idx_step HX.out hpx HQ.out, ext_trans hB hB1⟩
        case measure => simp [intOf]; omega
      · go_wp2_with fail
        refine (HP.out x wr (List.mem_of_getElem? HX.out) hB).mono ?_
        rintro e w1 ⟨rfl, hB1⟩
        clear hE2
        go_wp2_with fail
        go_ret
        exact ⟨ret_int (idx_hit HX.out hpx HQ.out).symm, ext_trans hB hB1⟩
    · go_wp2_with fail
      go_ret
      exact ⟨ret_int (idx_end (by omega) HQ.out).symm, hB⟩
theorem containsNd (g : Nat) (cap1 : Value) (p : Nd → Bool) (A : Option Addr) (c : Nat) (l : List (Nd)) (w : World) (ha : Slc w Nd.cells 3 A l) (hn : l.length ≤ maxLen) (hE : Enters Tryz.prog g)
    (hp : ∀ (x : Nd) (W : World), x ∈ l → Below w.heap.size w W → Calls Tryz.prog g #[x.v, cap1] W fun e W' => e = .returned (.bool (p x)) ∧ Below W.heap.size W W') :
    Calls Tryz.prog 101 #[.slice A l.length c, .func (.func g) #[] #[cap1]] w fun e w' => e = .returned (.bool (l.any p)) ∧ Below w.heap.size w w' := by
  have HP := Lib.hid hp
  have HE := Lib.hid hE
  clear hp hE
  go_enter Tryz.func101, Tryz.ntmps101
  go_wp2_with fail
  refine (indexNd g cap1 p A c l _ ha hn HE.out HP.out).mono ?_
  rintro e w1 ⟨rfl, hB1⟩
  go_wp2_with fail
  go_ret
  exact ⟨ret_bool (idx_any p l), hB1⟩
theorem in_any (n a b : Int) (w : World) : Calls Tryz.prog 98 #[.int .i64 n, .int .i64 a, .int .i64 b] w fun e w' => e = .returned (.bool (decide (a ≤ n) && decide (n ≤ b))) ∧ w = w' := by
  go_enter Tryz.func98, Tryz.ntmps98
  by_cases h : a ≤ n
  · by_cases k : n ≤ b
    all_goals
      go_wp2_with fail
      go_ret
      exact ⟨ret_bool (by simp [h, k]; try omega), rfl⟩
  · go_wp2_with fail
    go_ret
    exact ⟨ret_bool (by simp [h]; try omega), rfl⟩
/-- Some bool; the world is as it was. -/
def SomeB (w : World) (e : Ending) (w' : World) : Prop := (∃ r, e = .returned (.bool r)) ∧ w = w'
theorem few_any (A : Option Addr) (c : Nat) (l : List Nd) (w : World) (ha : Slc w Nd.cells 3 A l) (hn : l.length ≤ maxLen) :
    Calls Tryz.prog 13 #[.slice A l.length c] w (SomeB w) := by
  unfold maxLen at hn
  by_cases h40 : l.length ≤ 40
  all_goals
    go_enter Tryz.func13, Tryz.ntmps13
    go_wp2_with fail
    go_loop [3, 4] (fun s i => ∃ k : Nat, k ≤ l.length ∧ i = .int .i64 k ∧ ∃ q : Int, s = .int .i64 q) (fun _ i => l.length - (intOf i).toNat)
    case atStart => exact ⟨0, Nat.zero_le _, rfl, 0, rfl⟩
    case round =>
      obtain ⟨k, hk, rfl, q, rfl⟩ := hrel
      by_cases hlt : k < l.length
      · obtain ⟨x, b1, o1, hx, rfl, hb1, hc⟩ := ha.at_ hlt
        have c2 := hc 2 _ rfl
        clear hx hc
        have hlt' : (k : Int) < l.length := by omega
        go_wp2_with fail
        go_round
        case rel => exact ⟨k + 1, hlt, by go_num, _, rfl⟩
        case measure => simp [intOf]; omega
      · go_wp2_with fail
        all_goals
          go_ret
          exact ⟨⟨_, rfl⟩, rfl⟩
end Go.Proofs.YtilocjliplmmpaaGreat
/- Is a cut wrong; is a node valid; the reference's Check. -/
set_option linter.unusedSimpArgs false
set_option linter.unusedVariables false
namespace Go.Proofs.YtilocjliplmmpaaGreat
open Go.RowKit
theorem in_at {n a b : Int} {w : World} (r : Bool) (hr : (decide (a ≤ n) && decide (n ≤ b)) = r) : Calls Tryz.prog 98 #[.int .i64 n, .int .i64 a, .int .i64 b] w fun e w' => e = .returned (.bool r) ∧ w = w' := by
  subst hr; exact in_any n a b w
set_option maxHeartbeats 800000 in
theorem badcut_any (c : Cut) (b : Nat) (n : Int) (w : World) (hb : b < w.heap.size) (hn : w.cell? ⟨b, 1, none⟩ = some (.int .i64 n)) :
    Calls Tryz.prog 100 #[c.v, .pointer (some ⟨b, 0, none⟩)] w fun e w' => e = .returned (.bool (badC n c)) ∧ Below w.heap.size w w' := by
  obtain ⟨r1, hr1⟩ : ∃ r, (decide (0 ≤ c.ix) && decide (c.ix ≤ (if c.air then 15 else 63))) = r := ⟨_, rfl⟩
  obtain ⟨r2, hr2⟩ : ∃ r, (decide (0 ≤ c.less) && decide (c.less ≤ 64)) = r := ⟨_, rfl⟩
  have hbad : badC n c = (!r1 || !r2 || decide (c.f < n) || decide (c.t ≤ c.f) || decide (1440 < c.t)) := by unfold badC; rw [hr1, hr2]
  have HB := Lib.hid hbad
  clear hbad
  have HW : Hid (Below w.heap.size w (w.alloc (.cells #[.bool c.air, .int .i64 c.ix, .int .i64 c.f, .int .i64 c.t, .int .i64 c.less] 60))) := ext_alloc (ext_refl w) _
  have hn2 := (HW.out.cell (p := ⟨b, 1, none⟩) hb).trans hn
  have hb2 : b < (w.alloc (.cells #[.bool c.air, .int .i64 c.ix, .int .i64 c.f, .int .i64 c.t, .int .i64 c.less] 60)).heap.size := by simp; omega
  obtain ⟨air, ix, f, t, less⟩ := c
  simp only at hr1 hr2 HB HW hn2 hb2
  clear hn
  cases air
  all_goals
    simp only [if_true, Bool.false_eq_true, if_false] at hr1
    have H1 := Lib.hid hr1
    have H2 := Lib.hid hr2
    clear hr1 hr2
    cases r1
    · go_enter Tryz.func100, Tryz.ntmps100
      go_wp2_with fail
      refine (in_at false H1.out).mono ?_
      rintro e w1 ⟨rfl, rfl⟩
      go_wp2_with fail
      go_ret
      exact ⟨ret_bool (by rw [HB.out]; rfl), HW.out⟩
    cases r2
    · go_enter Tryz.func100, Tryz.ntmps100
      go_wp2_with fail
      refine (in_at true H1.out).mono ?_
      rintro e w1 ⟨rfl, rfl⟩
      go_wp2_with fail
      refine (in_at false H2.out).mono ?_
      rintro e w1 ⟨rfl, rfl⟩
      go_wp2_with fail
      go_ret
      exact ⟨ret_bool (by rw [HB.out]; rfl), HW.out⟩
    · go_enter Tryz.func100, Tryz.ntmps100
      go_wp2_with fail
      refine (in_at true H1.out).mono ?_
      rintro e w1 ⟨rfl, rfl⟩
      go_wp2_with fail
      refine (in_at true H2.out).mono ?_
      rintro e w1 ⟨rfl, rfl⟩
      go_wp2_with fail
      all_goals
        go_ret
        exact ⟨ret_bool (by rw [HB.out]; simp_all <;> omega), HW.out⟩
set_option maxHeartbeats 800000 in
theorem iscut_any (c : Cut) (n : Int) (w : World) : Calls Tryz.prog 120 #[c.v, .int .i64 n] w fun e w' => e = .returned (.bool (!badC n c)) ∧ Below w.heap.size w w' := by
  obtain ⟨air, ix, f, t, less⟩ := c
  cases air
  all_goals
    go_enter Tryz.func120, Tryz.ntmps120
    go_wp2_with fail
    all_goals
      go_ret
      exact ⟨ret_bool (by simp_all [badC] <;> first | omega | (rw [Bool.eq_iff_iff]; simp; omega)), ext_alloc (ext_refl w) _⟩
theorem iscut_at {c : Cut} {n : Int} {w : World} (r : Bool) (hr : (!badC n c) = r) : Calls Tryz.prog 120 #[.agg #[.bool c.air, .int .i64 c.ix, .int .i64 c.f, .int .i64 c.t, .int .i64 c.less], .int .i64 n] w fun e w' => e = .returned (.bool r) ∧ Below w.heap.size w w' := by
  subst hr; exact iscut_any c n w
end Go.Proofs.YtilocjliplmmpaaGreat
/- The reference's test of a node. -/
set_option linter.unusedSimpArgs false
set_option linter.unusedVariables false
namespace Go.Proofs.YtilocjliplmmpaaGreat
open Go.RowKit
/-- A tree in memory: its nodes, and each node's cuts. -/
structure TOk (w : World) (A : Option Addr) (l : List Nd) : Prop where
  nd : Slc w Nd.cells 3 A l
  ct : ∀ n ∈ l, Slc w Cut.cells 5 n.cuts.A n.cuts.l
  len : l.length ≤ maxLen
  cl : ∀ n ∈ l, n.cuts.l.length ≤ maxLen
theorem TOk.ext {w w' : World} {A : Option Addr} {l : List Nd} (h : TOk w A l) (hb : Below w.heap.size w w') : TOk w' A l := ⟨h.nd.ext hb, fun n hn => (h.ct n hn).ext hb, h.len, h.cl⟩
/-- A node in a block of its own. -/
structure BoxN (w : World) (b : Nat) (x : Nd) : Prop where
  lt : b < w.heap.size
  p : w.cell? ⟨b, 0, none⟩ = some (.int .i64 x.p)
  f : w.cell? ⟨b, 1, none⟩ = some (.int .i64 x.f)
  c : w.cell? ⟨b, 2, none⟩ = some (.slice x.cuts.A x.cuts.l.length x.cuts.c)
theorem BoxN.new (w : World) (x : Nd) (t : TypeId) : BoxN (w.alloc (.cells #[.int .i64 x.p, .int .i64 x.f, .slice x.cuts.A x.cuts.l.length x.cuts.c] t)) w.heap.size x := ⟨by simp, by simp, by simp, by simp⟩
theorem BoxN.ext {w w' : World} {b : Nat} {x : Nd} (h : BoxN w b x) (hb : Below w.heap.size w w') : BoxN w' b x :=
  ⟨Nat.lt_of_lt_of_le h.lt hb.size, (hb.cell (p := ⟨b, 0, none⟩) h.lt).trans h.p, (hb.cell (p := ⟨b, 1, none⟩) h.lt).trans h.f, (hb.cell (p := ⟨b, 2, none⟩) h.lt).trans h.c⟩
theorem okN_parts (l : List Nd) (i : Nat) (x : Nd) (hP : okP l i x = true) : okN l i x = (!clash l i x && !(x.cuts.l.any (badC x.f)) && decide (x.cuts.l.length ≤ 64)) := by simp [okN, hP]
theorem any_take {α : Type} {p : α → Bool} {l : List α} {k : Nat} {x : α} (h : (l.take k).any p = false) (hx : l[k]? = some x) (hp : p x = false) : (l.take (k + 1)).any p = false := by
  rw [List.take_add_one, hx]; simp [h, hp]
theorem any_hit {α : Type} {p : α → Bool} {l : List α} {k : Nat} {x : α} (hx : l[k]? = some x) (hp : p x = true) : l.any p = true := List.any_eq_true.2 ⟨x, List.mem_of_getElem? hx, hp⟩
theorem any_end {α : Type} {p : α → Bool} {l : List α} {k : Nat} (h : (l.take k).any p = false) (hk : l.length ≤ k) : l.any p = false := by rwa [List.take_of_length_le hk] at h
/-- No clash with the nodes from 1 up to k. -/
def noClash (l : List Nd) (k : Nat) (x : Nd) : Prop := ∀ j, 1 ≤ j → j < k → par l j = x.p → frm l j = x.f
theorem noClash_step {l : List Nd} {k : Nat} {x y : Nd} (h : noClash l k x) (hy : l[k]? = some y) (hc : y.p = x.p → y.f = x.f) : noClash l (k + 1) x := fun j h1 h2 h3 => by
  by_cases e : j = k
  · subst e; rw [par_at hy] at h3; rw [frm_at hy]; exact hc h3
  · exact h j h1 (by omega) h3
theorem noClash_end {l : List Nd} {i : Nat} {x : Nd} (h : noClash l i x) : clash l i x = false := by
  refine List.any_eq_false.2 fun j hj => ?_
  have hj := List.mem_range.1 hj
  simp only [Bool.and_eq_true, decide_eq_true_eq, not_and]
  rintro ⟨a, b⟩ c
  exact c (h j a hj b)
theorem clash_hit {l : List Nd} {i k : Nat} {x y : Nd} (h1 : 1 ≤ k) (h2 : k < i) (hy : l[k]? = some y) (hp : y.p = x.p) (hf : y.f ≠ x.f) : clash l i x = true :=
  List.any_eq_true.2 ⟨k, List.mem_range.2 h2, by rw [par_at hy, frm_at hy]; simp [h1, hp, hf]⟩
set_option maxHeartbeats 1600000 in
set_option maxRecDepth 100000 in
theorem isnode_bad (A : Option Addr) (c : Nat) (l : List Nd) (i : Nat) (x : Nd) (w : World) (ha : TOk w A l) (hi : i < l.length) (hx : l[i]? = some x) (hP : okP l i x = false) :
    Calls Tryz.prog 104 #[.slice A l.length c, .int .i64 i] w (RetB w false) := by
  have hl := ha.len
  unfold maxLen at hl
  obtain ⟨x', b1, o1, hx', rfl, hb1, hc⟩ := ha.nd.at_ hi
  obtain rfl : x = x' := Option.some.inj (hx.symm.trans hx')
  have c0 := hc 0 _ rfl
  have c1 := hc 1 _ rfl
  have c2 := hc 2 _ rfl
  simp only [Nat.add_zero] at c0
  have hi' : (i : Int) < l.length := by omega
  have HW : Hid (Below w.heap.size w (w.alloc (.cells #[.int .i64 x.p, .int .i64 x.f, .slice x.cuts.A x.cuts.l.length x.cuts.c] 63))) := ext_alloc (ext_refl w) _
  have HX := Lib.hid hx
  have HC := Lib.hid hc
  clear hx hx' hc
  rcases Nat.eq_zero_or_pos i with h0 | h0
  · obtain rfl : i = 0 := h0
    have hP' : ¬ (x.p = -1 ∧ x.f = 0) := by simpa [okP] using hP
    simp only [Nat.zero_mul, Nat.add_zero] at c0 c1 c2
    by_cases hp : x.p = -1
    · have hf : ¬ x.f = 0 := fun e => hP' ⟨hp, e⟩
      have e1 : (x.p != -1) = false := by simp [hp]
      have e2 : (x.f != 0) = true := by simp [hf]
      clear hP hP' hp hf
      go_enter Tryz.func104, Tryz.ntmps104
      go_wp2_with fail
      go_ret
      exact ⟨rfl, HW.out⟩
    · have e1 : (x.p != -1) = true := by simp [hp]
      clear hP hP' hp
      go_enter Tryz.func104, Tryz.ntmps104
      go_wp2_with fail
      go_ret
      exact ⟨rfl, HW.out⟩
  · have hP' : ¬ (0 ≤ x.p ∧ x.p < i ∧ frm l x.p.toNat < x.f ∧ x.f < 1440) := by
      have := hP
      simp only [okP, if_neg (Nat.ne_of_gt h0)] at this
      intro ⟨a, b, c, d⟩
      simp [a, b, c, d] at this
    have e0 : ((i : Int) == 0) = false := by simp; omega
    have g0 : decide ((0 : Int) < (i : Int)) = true := by simp; omega
    by_cases h1 : x.p < 0
    · have g1 : decide (x.p < 0) = true := by simpa using h1
      clear hP hP'
      go_enter Tryz.func104, Tryz.ntmps104
      go_wp2_with fail
      go_quiet (fail)
      go_wp2_with fail
      go_ret
      exact ⟨rfl, ext_drewN HW.out _⟩
    have g1 : decide (x.p < 0) = false := by simpa using h1
    by_cases h2 : (i : Int) ≤ x.p
    · have g2 : decide ((i : Int) ≤ x.p) = true := by simpa using h2
      clear hP hP'
      go_enter Tryz.func104, Tryz.ntmps104
      go_wp2_with fail
      go_quiet (fail)
      go_wp2_with fail
      go_ret
      exact ⟨rfl, ext_drewN HW.out _⟩
    have g2 : decide ((i : Int) ≤ x.p) = false := by simpa using h2
    obtain ⟨q, hq⟩ : ∃ q : Nat, x.p = q := ⟨x.p.toNat, by omega⟩
    obtain ⟨y, b2, o2, hy, e2, hb2, hcy⟩ := ha.nd.at_ (show q < l.length by omega)
    cases e2
    have d1 := hcy 1 _ rfl
    have hfy : frm l x.p.toNat = y.f := by rw [hq, Int.toNat_natCast, frm_at hy]
    rw [hfy] at hP'
    have g5 : x.p < l.length := by omega
    have g6 : x.p.toNat = q := by omega
    have g7 : (0 : Int) ≤ x.p := by omega
    have HQ := Lib.hid hq
    clear hq hy hcy hP hfy
    by_cases h3 : x.f ≤ y.f
    · have g3 : decide (x.f ≤ y.f) = true := by simpa using h3
      clear hP'
      go_enter Tryz.func104, Tryz.ntmps104
      go_wp2_with fail
      go_quiet (fail)
      go_wp2_with fail
      go_ret
      exact ⟨rfl, ext_drewN HW.out _⟩
    have g3 : decide (x.f ≤ y.f) = false := by simpa using h3
    have g4 : decide (1440 ≤ x.f) = true := by simp; omega
    clear hP'
    go_enter Tryz.func104, Tryz.ntmps104
    go_wp2_with fail
    go_quiet (fail)
    go_wp2_with fail
    go_ret
    exact ⟨rfl, ext_drewN HW.out _⟩
end Go.Proofs.YtilocjliplmmpaaGreat
/- The reference's test of a node whose parent and From are right; the reference's Check. -/
set_option linter.unusedSimpArgs false
set_option linter.unusedVariables false
namespace Go.Proofs.YtilocjliplmmpaaGreat
open Go.RowKit
set_option maxHeartbeats 3200000 in
set_option maxRecDepth 100000 in
theorem isnode_good (A : Option Addr) (c : Nat) (l : List Nd) (i : Nat) (x : Nd) (w : World) (ha : TOk w A l) (hi : i < l.length) (hx : l[i]? = some x) (hP : okP l i x = true) :
    Calls Tryz.prog 104 #[.slice A l.length c, .int .i64 i] w (RetB w (!clash l i x && !(x.cuts.l.any (badC x.f)) && decide (x.cuts.l.length ≤ 64))) := by
  have hl := ha.len
  have hxl := ha.cl x (List.mem_of_getElem? hx)
  unfold maxLen at hl hxl
  obtain ⟨x', b1, o1, hx', rfl, hb1, hc⟩ := ha.nd.at_ hi
  obtain rfl : x = x' := Option.some.inj (hx.symm.trans hx')
  have c0 := hc 0 _ rfl
  have c1 := hc 1 _ rfl
  have c2 := hc 2 _ rfl
  simp only [Nat.add_zero] at c0
  have hi' : (i : Int) < l.length := by omega
  have HW : Hid (Below w.heap.size w (w.alloc (.cells #[.int .i64 x.p, .int .i64 x.f, .slice x.cuts.A x.cuts.l.length x.cuts.c] 63))) := ext_alloc (ext_refl w) _
  have HBX := BoxN.new w x 63
  have HX := Lib.hid hx
  have HA := ha
  clear ha
  clear hx hx' hc
  have HR : Hid (∀ r, (clash l i x = true → r = false) → (clash l i x = false → x.cuts.l.any (badC x.f) = true → r = false) → (clash l i x = false → x.cuts.l.any (badC x.f) = false → r = decide (x.cuts.l.length ≤ 64)) → r = (!clash l i x && !(x.cuts.l.any (badC x.f)) && decide (x.cuts.l.length ≤ 64))) := by
    intro r h1 h2 h3
    cases k1 : clash l i x
    · cases k2 : x.cuts.l.any (badC x.f)
      · rw [h3 k1 k2]; simp
      · rw [h2 k1 k2]; simp
    · rw [h1 k1]; simp
  rcases Nat.eq_zero_or_pos i with h0 | h0
  · have hP' : x.p = -1 ∧ x.f = 0 := by simpa [okP, h0] using hP
    have e0 : ((i : Int) == 0) = true := by simp [h0]
    have g0 : decide ((0 : Int) < (i : Int)) = false := by simp [h0]
    have g0n : decide (0 < i) = false := by simp [h0]
    have e1 : (x.p != -1) = false := by simp [hP'.1]
    have e2 : (x.f != 0) = false := by simp [hP'.2]
    clear hP hP' h0
    go_enter Tryz.func104, Tryz.ntmps104
    go_wp2_with fail
    go_quiet (fail)
    clear e0 g0 g0n e1 e2
    go_wp2_with fail
    go_loopw [6] (fun j wr => ∃ k : Nat, 1 ≤ k ∧ j = .int .i64 k ∧ Hid (noClash l k x) ∧ Below w.heap.size w wr ∧ BoxN wr w.heap.size x) (fun j _ => i - (intOf j).toNat)
    case atStart => exact ⟨1, Nat.le_refl _, rfl, fun j h1 h2 => by omega, ext_drewN HW.out _, HBX.ext (ext_drewN (ext_refl _) _)⟩
    case round =>
      obtain ⟨k, hk, rfl, HNC, hB, hbx⟩ := hrel
      obtain ⟨n0, n1, n2, n3⟩ := hbx
      by_cases hlt : k < i
      · obtain ⟨z, b3, o3, hz, e3, hb3, hcz⟩ := (HA.nd.ext hB).at_ (show k < l.length by omega)
        cases e3
        have z0 := hcz 0 _ rfl
        have z1 := hcz 1 _ rfl
        simp only [Nat.add_zero] at z0
        have HZ := Lib.hid hz
        have k1 : (k : Int) < i := by omega
        have k2 : (k : Int) < l.length := by omega
        clear hz hcz
        by_cases hp : z.p = x.p
        · by_cases hf : z.f = x.f
          · have HH : Hid (noClash l (k + 1) x) := noClash_step HNC.out HZ.out (fun _ => hf)
            have e1 : (z.p == x.p) = true := by simpa using hp
            have e2 : (z.f != x.f) = false := by simpa using hf
            clear hp hf
            go_wp2_with fail
            go_quiet (fail)
            clear e1 e2
            go_wp2_with fail
            go_roundw
            case rel => exact ⟨k + 1, by omega, by go_num, HH, ext_drewN hB _, n0, n1, n2, n3⟩
            case measure => simp [intOf]; omega
          · have HH : Hid (clash l i x = true) := clash_hit hk hlt HZ.out hp hf
            have e1 : (z.p == x.p) = true := by simpa using hp
            have e2 : (z.f != x.f) = true := by simpa using hf
            clear hp hf
            go_wp2_with fail
            go_quiet (fail)
            clear e1 e2
            go_wp2_with fail
            go_ret
            exact ⟨ret_bool (HR.out _ (fun _ => rfl) (fun h => by rw [HH.out] at h; cases h) (fun h => by rw [HH.out] at h; cases h)), ext_drewN hB _⟩
        · have HH : Hid (noClash l (k + 1) x) := noClash_step HNC.out HZ.out (fun e => absurd e hp)
          have e1 : (z.p == x.p) = false := by simpa using hp
          clear hp
          go_wp2_with fail
          go_quiet (fail)
          clear e1
          go_wp2_with fail
          go_roundw
          case rel => exact ⟨k + 1, by omega, by go_num, HH, ext_drewN hB _, n0, n1, n2, n3⟩
          case measure => simp [intOf]; omega
      · have k1 : ¬ (k : Int) < i := by omega
        have HNO : Hid (clash l i x = false) := noClash_end (fun j h1 h2 => HNC.out j h1 (by omega))
        have HBo := Lib.hid hB
        obtain ⟨wo, rfl⟩ : ∃ wo, wo = wr := ⟨_, rfl⟩
        have HBX2 : BoxN wo w.heap.size x := ⟨n0, n1, n2, n3⟩
        clear hB HBX
        go_wp2_with fail
        go_loopw [7] (fun j wr => ∃ q : Nat, q ≤ x.cuts.l.length ∧ j = .int .i64 q ∧ Hid ((x.cuts.l.take q).any (badC x.f) = false) ∧ Below wo.heap.size wo wr) (fun j _ => x.cuts.l.length - (intOf j).toNat)
        case atStart => exact ⟨0, Nat.zero_le _, rfl, by simp [Hid], ext_refl _⟩
        case round =>
          obtain ⟨q, hq, rfl, HT, hBq⟩ := hrel
          clear n0 n1 n2 n3
          obtain ⟨n0, n1, n2, n3⟩ := HBX2.ext hBq
          by_cases hlq : q < x.cuts.l.length
          · obtain ⟨cu, b4, o4, hcu, e4, hb4, hcc⟩ := (((HA.ct x (List.mem_of_getElem? HX.out)).ext HBo.out).ext hBq).at_ hlq
            have u0 := hcc 0 _ rfl
            have u1 := hcc 1 _ rfl
            have u2 := hcc 2 _ rfl
            have u3 := hcc 3 _ rfl
            have u4 := hcc 4 _ rfl
            simp only [Nat.add_zero] at u0
            have HCU := Lib.hid hcu
            have k2 : (q : Int) < x.cuts.l.length := by omega
            rw [e4] at n3
            have HE4 := Lib.hid e4
            clear hcu hcc e4
            have SS : ∀ w', Below wr.heap.size wr w' → (fun w' : World => w'.cell? ⟨w.heap.size, 1, none⟩ = some (.int .i64 x.f) ∧ w'.cell? ⟨w.heap.size, 2, none⟩ = some (.slice (some ⟨b4, o4, none⟩) x.cuts.l.length x.cuts.c) ∧ w'.cell? ⟨b4, o4 + q * 5, none⟩ = some (.bool cu.air) ∧ w'.cell? ⟨b4, o4 + q * 5 + 1, none⟩ = some (.int .i64 cu.ix) ∧ w'.cell? ⟨b4, o4 + q * 5 + 2, none⟩ = some (.int .i64 cu.f) ∧ w'.cell? ⟨b4, o4 + q * 5 + 3, none⟩ = some (.int .i64 cu.t) ∧ w'.cell? ⟨b4, o4 + q * 5 + 4, none⟩ = some (.int .i64 cu.less)) w' := fun w' bw =>
              ⟨(bw.cell (p := ⟨w.heap.size, 1, none⟩) n0).trans n2, (bw.cell (p := ⟨w.heap.size, 2, none⟩) n0).trans n3, (bw.cell (p := ⟨b4, _, none⟩) hb4).trans u0, (bw.cell (p := ⟨b4, _, none⟩) hb4).trans u1, (bw.cell (p := ⟨b4, _, none⟩) hb4).trans u2, (bw.cell (p := ⟨b4, _, none⟩) hb4).trans u3, (bw.cell (p := ⟨b4, _, none⟩) hb4).trans u4⟩
            obtain ⟨r, hr⟩ : ∃ r, (!badC x.f cu) = r := ⟨_, rfl⟩
            have HRR := Lib.hid hr
            clear hr
            cases r
            all_goals
              go_wp2_with fail
              go_region_held3 (fun w' => w'.cell? ⟨w.heap.size, 1, none⟩ = some (.int .i64 x.f) ∧ w'.cell? ⟨w.heap.size, 2, none⟩ = some (.slice (some ⟨b4, o4, none⟩) x.cuts.l.length x.cuts.c) ∧ w'.cell? ⟨b4, o4 + q * 5, none⟩ = some (.bool cu.air) ∧ w'.cell? ⟨b4, o4 + q * 5 + 1, none⟩ = some (.int .i64 cu.ix) ∧ w'.cell? ⟨b4, o4 + q * 5 + 2, none⟩ = some (.int .i64 cu.f) ∧ w'.cell? ⟨b4, o4 + q * 5 + 3, none⟩ = some (.int .i64 cu.t) ∧ w'.cell? ⟨b4, o4 + q * 5 + 4, none⟩ = some (.int .i64 cu.less)) (first | exact SS _ BW7 | go_keep)
                ((go_at_call 120; refine (iscut_at _ HRR.out).mono ?_; rintro e w7 ⟨rfl, B7⟩; have BW7 : Below wr.heap.size wr w7 := ext_trans (ext_drew (ext_refl wr)) B7))
              clear SS
              go_wp2_with fail
            · go_ret
              have hbad : badC x.f cu = true := by simpa using HRR.out
              exact ⟨ret_bool (HR.out _ (fun _ => rfl) (fun _ _ => rfl) (fun _ h => by rw [any_hit HCU.out hbad] at h; cases h)), ext_trans HBo.out (ext_trans hBq BW7)⟩
            · go_roundw
              case rel => exact ⟨q + 1, by omega, by go_num, any_take HT.out HCU.out (by simpa using HRR.out), ext_trans hBq BW7⟩
              case measure => simp [intOf]; omega
          · have hall : Hid (x.cuts.l.any (badC x.f) = false) := any_end HT.out (by omega)
            have k2 : ¬ (q : Int) < x.cuts.l.length := by omega
            go_wp2_with fail
            go_ret
            exact ⟨ret_bool (HR.out _ (fun h => by rw [HNO.out] at h; cases h) (fun _ h => by rw [hall.out] at h; cases h) (fun _ _ => by rw [decide_eq_decide]; omega)), ext_trans HBo.out hBq⟩
  · have hP' : 0 ≤ x.p ∧ x.p < i ∧ frm l x.p.toNat < x.f ∧ x.f < 1440 := by
      have := hP
      simp only [okP, if_neg (Nat.ne_of_gt h0), Bool.and_eq_true, decide_eq_true_eq] at this
      exact ⟨this.1.1.1, this.1.1.2, this.1.2, this.2⟩
    have e0 : ((i : Int) == 0) = false := by simp; omega
    have g0 : decide ((0 : Int) < (i : Int)) = true := by simp; omega
    obtain ⟨q, hq⟩ : ∃ q : Nat, x.p = q := ⟨x.p.toNat, by omega⟩
    obtain ⟨y, b2, o2, hy, e2, hb2, hcy⟩ := HA.nd.at_ (show q < l.length by omega)
    cases e2
    have d1 := hcy 1 _ rfl
    have hfy : frm l x.p.toNat = y.f := by rw [hq, Int.toNat_natCast, frm_at hy]
    rw [hfy] at hP'
    have g1 : decide (x.p < 0) = false := by simp; omega
    have g2 : decide ((i : Int) ≤ x.p) = false := by simp; omega
    have g3 : decide (x.f ≤ y.f) = false := by simp; omega
    have g4 : decide (1440 ≤ x.f) = false := by simp; omega
    have g5 : x.p < l.length := by omega
    have g6 : x.p.toNat = q := by omega
    have g7 : (0 : Int) ≤ x.p := by omega
    have HQ := Lib.hid hq
    clear hq hy hcy hP hfy hP'
    go_enter Tryz.func104, Tryz.ntmps104
    go_wp2_with fail
    go_quiet (fail)
    clear e0 g0 g1 g2 g3 g4 g5 g6 g7 d1 h0
    go_wp2_with fail
    go_loopw [6] (fun j wr => ∃ k : Nat, 1 ≤ k ∧ j = .int .i64 k ∧ Hid (noClash l k x) ∧ Below w.heap.size w wr ∧ BoxN wr w.heap.size x) (fun j _ => i - (intOf j).toNat)
    case atStart => exact ⟨1, Nat.le_refl _, rfl, fun j h1 h2 => by omega, ext_drewN HW.out _, HBX.ext (ext_drewN (ext_refl _) _)⟩
    case round =>
      obtain ⟨k, hk, rfl, HNC, hB, hbx⟩ := hrel
      obtain ⟨n0, n1, n2, n3⟩ := hbx
      by_cases hlt : k < i
      · obtain ⟨z, b3, o3, hz, e3, hb3, hcz⟩ := (HA.nd.ext hB).at_ (show k < l.length by omega)
        cases e3
        have z0 := hcz 0 _ rfl
        have z1 := hcz 1 _ rfl
        simp only [Nat.add_zero] at z0
        have HZ := Lib.hid hz
        have k1 : (k : Int) < i := by omega
        have k2 : (k : Int) < l.length := by omega
        clear hz hcz
        by_cases hp : z.p = x.p
        · by_cases hf : z.f = x.f
          · have HH : Hid (noClash l (k + 1) x) := noClash_step HNC.out HZ.out (fun _ => hf)
            have e1 : (z.p == x.p) = true := by simpa using hp
            have e2 : (z.f != x.f) = false := by simpa using hf
            clear hp hf
            go_wp2_with fail
            go_quiet (fail)
            clear e1 e2
            go_wp2_with fail
            go_roundw
            case rel => exact ⟨k + 1, by omega, by go_num, HH, ext_drewN hB _, n0, n1, n2, n3⟩
            case measure => simp [intOf]; omega
          · have HH : Hid (clash l i x = true) := clash_hit hk hlt HZ.out hp hf
            have e1 : (z.p == x.p) = true := by simpa using hp
            have e2 : (z.f != x.f) = true := by simpa using hf
            clear hp hf
            go_wp2_with fail
            go_quiet (fail)
            clear e1 e2
            go_wp2_with fail
            go_ret
            exact ⟨ret_bool (HR.out _ (fun _ => rfl) (fun h => by rw [HH.out] at h; cases h) (fun h => by rw [HH.out] at h; cases h)), ext_drewN hB _⟩
        · have HH : Hid (noClash l (k + 1) x) := noClash_step HNC.out HZ.out (fun e => absurd e hp)
          have e1 : (z.p == x.p) = false := by simpa using hp
          clear hp
          go_wp2_with fail
          go_quiet (fail)
          clear e1
          go_wp2_with fail
          go_roundw
          case rel => exact ⟨k + 1, by omega, by go_num, HH, ext_drewN hB _, n0, n1, n2, n3⟩
          case measure => simp [intOf]; omega
      · have k1 : ¬ (k : Int) < i := by omega
        have HNO : Hid (clash l i x = false) := noClash_end (fun j h1 h2 => HNC.out j h1 (by omega))
        have HBo := Lib.hid hB
        obtain ⟨wo, rfl⟩ : ∃ wo, wo = wr := ⟨_, rfl⟩
        have HBX2 : BoxN wo w.heap.size x := ⟨n0, n1, n2, n3⟩
        clear hB HBX
        go_wp2_with fail
        go_loopw [7] (fun j wr => ∃ q : Nat, q ≤ x.cuts.l.length ∧ j = .int .i64 q ∧ Hid ((x.cuts.l.take q).any (badC x.f) = false) ∧ Below wo.heap.size wo wr) (fun j _ => x.cuts.l.length - (intOf j).toNat)
        case atStart => exact ⟨0, Nat.zero_le _, rfl, by simp [Hid], ext_refl _⟩
        case round =>
          obtain ⟨q, hq, rfl, HT, hBq⟩ := hrel
          clear n0 n1 n2 n3
          obtain ⟨n0, n1, n2, n3⟩ := HBX2.ext hBq
          by_cases hlq : q < x.cuts.l.length
          · obtain ⟨cu, b4, o4, hcu, e4, hb4, hcc⟩ := (((HA.ct x (List.mem_of_getElem? HX.out)).ext HBo.out).ext hBq).at_ hlq
            have u0 := hcc 0 _ rfl
            have u1 := hcc 1 _ rfl
            have u2 := hcc 2 _ rfl
            have u3 := hcc 3 _ rfl
            have u4 := hcc 4 _ rfl
            simp only [Nat.add_zero] at u0
            have HCU := Lib.hid hcu
            have k2 : (q : Int) < x.cuts.l.length := by omega
            rw [e4] at n3
            have HE4 := Lib.hid e4
            clear hcu hcc e4
            have SS : ∀ w', Below wr.heap.size wr w' → (fun w' : World => w'.cell? ⟨w.heap.size, 1, none⟩ = some (.int .i64 x.f) ∧ w'.cell? ⟨w.heap.size, 2, none⟩ = some (.slice (some ⟨b4, o4, none⟩) x.cuts.l.length x.cuts.c) ∧ w'.cell? ⟨b4, o4 + q * 5, none⟩ = some (.bool cu.air) ∧ w'.cell? ⟨b4, o4 + q * 5 + 1, none⟩ = some (.int .i64 cu.ix) ∧ w'.cell? ⟨b4, o4 + q * 5 + 2, none⟩ = some (.int .i64 cu.f) ∧ w'.cell? ⟨b4, o4 + q * 5 + 3, none⟩ = some (.int .i64 cu.t) ∧ w'.cell? ⟨b4, o4 + q * 5 + 4, none⟩ = some (.int .i64 cu.less)) w' := fun w' bw =>
              ⟨(bw.cell (p := ⟨w.heap.size, 1, none⟩) n0).trans n2, (bw.cell (p := ⟨w.heap.size, 2, none⟩) n0).trans n3, (bw.cell (p := ⟨b4, _, none⟩) hb4).trans u0, (bw.cell (p := ⟨b4, _, none⟩) hb4).trans u1, (bw.cell (p := ⟨b4, _, none⟩) hb4).trans u2, (bw.cell (p := ⟨b4, _, none⟩) hb4).trans u3, (bw.cell (p := ⟨b4, _, none⟩) hb4).trans u4⟩
            obtain ⟨r, hr⟩ : ∃ r, (!badC x.f cu) = r := ⟨_, rfl⟩
            have HRR := Lib.hid hr
            clear hr
            cases r
            all_goals
              go_wp2_with fail
              go_region_held3 (fun w' => w'.cell? ⟨w.heap.size, 1, none⟩ = some (.int .i64 x.f) ∧ w'.cell? ⟨w.heap.size, 2, none⟩ = some (.slice (some ⟨b4, o4, none⟩) x.cuts.l.length x.cuts.c) ∧ w'.cell? ⟨b4, o4 + q * 5, none⟩ = some (.bool cu.air) ∧ w'.cell? ⟨b4, o4 + q * 5 + 1, none⟩ = some (.int .i64 cu.ix) ∧ w'.cell? ⟨b4, o4 + q * 5 + 2, none⟩ = some (.int .i64 cu.f) ∧ w'.cell? ⟨b4, o4 + q * 5 + 3, none⟩ = some (.int .i64 cu.t) ∧ w'.cell? ⟨b4, o4 + q * 5 + 4, none⟩ = some (.int .i64 cu.less)) (first | exact SS _ BW7 | go_keep)
                ((go_at_call 120; refine (iscut_at _ HRR.out).mono ?_; rintro e w7 ⟨rfl, B7⟩; have BW7 : Below wr.heap.size wr w7 := ext_trans (ext_drew (ext_refl wr)) B7))
              clear SS
              go_wp2_with fail
            · go_ret
              have hbad : badC x.f cu = true := by simpa using HRR.out
              exact ⟨ret_bool (HR.out _ (fun _ => rfl) (fun _ _ => rfl) (fun _ h => by rw [any_hit HCU.out hbad] at h; cases h)), ext_trans HBo.out (ext_trans hBq BW7)⟩
            · go_roundw
              case rel => exact ⟨q + 1, by omega, by go_num, any_take HT.out HCU.out (by simpa using HRR.out), ext_trans hBq BW7⟩
              case measure => simp [intOf]; omega
          · have hall : Hid (x.cuts.l.any (badC x.f) = false) := any_end HT.out (by omega)
            have k2 : ¬ (q : Int) < x.cuts.l.length := by omega
            go_wp2_with fail
            go_ret
            exact ⟨ret_bool (HR.out _ (fun h => by rw [HNO.out] at h; cases h) (fun _ h => by rw [hall.out] at h; cases h) (fun _ _ => by rw [decide_eq_decide]; omega)), ext_trans HBo.out hBq⟩
end Go.Proofs.YtilocjliplmmpaaGreat
/- Check, the program's and the reference's. -/
set_option linter.unusedSimpArgs false
set_option linter.unusedVariables false
namespace Go.Proofs.YtilocjliplmmpaaGreat
open Go.RowKit
theorem isnode_at {A : Option Addr} {c : Nat} {l : List Nd} {i : Nat} {w : World} (r : Bool) (hr : okI l i = r) (ha : TOk w A l) (hi : i < l.length) :
    Calls Tryz.prog 104 #[.slice A l.length c, .int .i64 i] w (RetB w r) := by
  have hx : l[i]? = some l[i] := List.getElem?_eq_getElem hi
  simp only [okI, hx] at hr
  subst hr
  cases hP : okP l i l[i]
  · rw [show okN l i l[i] = false by simp [okN, hP]]
    exact isnode_bad A c l i _ w ha hi hx hP
  · rw [okN_parts l i _ hP]
    exact isnode_good A c l i _ w ha hi hx hP
theorem vld_no {l : List Nd} {k : Nat} (hk : k < l.length) (h : okI l k = false) : chkE l = 180 := by
  unfold chkE
  rw [if_neg]
  intro hv
  simp only [vld, Bool.and_eq_true, List.all_eq_true, List.mem_range] at hv
  rw [hv.2 k hk] at h; cases h
theorem vld_yes {l : List Nd} (h1 : 1 ≤ l.length) (h2 : l.length ≤ 32) (h : ∀ j < l.length, okI l j = true) : chkE l = 0 := by
  unfold chkE
  rw [if_pos]
  simp only [vld, Bool.and_eq_true, decide_eq_true_eq, List.all_eq_true, List.mem_range]
  exact ⟨⟨h1, h2⟩, h⟩
theorem vld_len {l : List Nd} (h : ¬ (1 ≤ l.length ∧ l.length ≤ 32)) : chkE l = 180 := by
  unfold chkE
  rw [if_neg]
  intro hv
  simp only [vld, Bool.and_eq_true, decide_eq_true_eq] at hv
  exact h hv.1
theorem all_step {l : List Nd} {k : Nat} (h : ∀ j < k, okI l j = true) (hk : okI l k = true) : ∀ j < k + 1, okI l j = true := fun j hj => by
  by_cases e : j = k
  · rw [e]; exact hk
  · exact h j (by omega)
set_option maxHeartbeats 400000 in
theorem rcheck_any (A : Option Addr) (c : Nat) (l : List Nd) (w : World) (ha : TOk w A l) : Calls Tryz.prog 75 #[.slice A l.length c] w (RetE w (chkE l)) := by
  have hl := ha.len
  unfold maxLen at hl
  obtain ⟨r, hr⟩ : ∃ r, chkE l = r := ⟨_, rfl⟩
  have HR := Lib.hid hr
  rw [hr]
  clear hr
  by_cases h1 : 1 ≤ l.length
  rotate_left
  · have HZ : Hid (180 = r) := by rw [← HR.out, vld_len (by omega)]; rfl
    go_enter Tryz.func75, Tryz.ntmps75
    go_wp2_with fail
    go_ret
    exact ⟨ret_int HZ.out, ext_refl _⟩
  by_cases h2 : l.length ≤ 32
  rotate_left
  · have HZ : Hid (180 = r) := by rw [← HR.out, vld_len (by omega)]; rfl
    go_enter Tryz.func75, Tryz.ntmps75
    go_wp2_with fail
    go_ret
    exact ⟨ret_int HZ.out, ext_refl _⟩
  go_enter Tryz.func75, Tryz.ntmps75
  go_wp2_with fail
  go_loopw [3] (fun i wr => ∃ k : Nat, k ≤ l.length ∧ i = .int .i64 k ∧ Hid (∀ j < k, okI l j = true) ∧ Below w.heap.size w wr) (fun i _ => l.length - (intOf i).toNat)
  case atStart => exact ⟨0, Nat.zero_le _, rfl, fun j hj => by omega, ext_refl _⟩
  case round =>
    obtain ⟨k, hk, rfl, HT, hB⟩ := hrel
    by_cases hlt : k < l.length
    · have hlt' : (k : Int) < l.length := by omega
      obtain ⟨b, hb⟩ : ∃ b, okI l k = b := ⟨_, rfl⟩
      have HO := Lib.hid hb
      clear hb
      cases b
      · go_wp2_with fail
        refine (isnode_at _ HO.out (ha.ext hB) hlt).mono ?_
        rintro e w1 ⟨rfl, B1⟩
        go_wp2_with fail
        go_ret
        exact ⟨ret_int (by rw [← HR.out, vld_no hlt HO.out]), ext_trans hB B1⟩
      · go_wp2_with fail
        refine (isnode_at _ HO.out (ha.ext hB) hlt).mono ?_
        rintro e w1 ⟨rfl, B1⟩
        go_wp2_with fail
        go_roundw
        case rel => exact ⟨k + 1, hlt, by go_num, all_step HT.out HO.out, ext_trans hB B1⟩
        case measure => simp [intOf]; omega
    · have hlt' : ¬ (k : Int) < l.length := by omega
      go_wp2_with fail
      go_ret
      exact ⟨ret_int (by rw [← HR.out, vld_yes h1 h2 (fun j hj => HT.out j (by omega))]), hB⟩
/-- When the children of a node are known: what the map holds behind the nodes below k. -/
def kn (l : List Nd) : Nat → Int → Option Int
  | 0, _ => none
  | k + 1, p => if k = 0 then none else if p = par l k then some (frm l k) else kn l k p
theorem kn_spec (l : List Nd) (p : Int) : ∀ k, (kn l k p = none ∧ ∀ j, 1 ≤ j → j < k → par l j ≠ p) ∨ ∃ j, 1 ≤ j ∧ j < k ∧ par l j = p ∧ kn l k p = some (frm l j)
  | 0 => .inl ⟨rfl, fun j _ h => by omega⟩
  | k + 1 => by
    unfold kn
    by_cases h0 : k = 0
    · subst h0; exact .inl ⟨by simp, fun j h1 h2 => by omega⟩
    · rw [if_neg h0]
      by_cases hp : p = par l k
      · rw [if_pos hp]; exact .inr ⟨k, by omega, by omega, hp.symm, rfl⟩
      · rw [if_neg hp]
        rcases kn_spec l p k with ⟨a, b⟩ | ⟨j, a, b, c, d⟩
        · refine .inl ⟨a, fun j h1 h2 => ?_⟩
          by_cases e : j = k
          · rw [e]; exact fun h => hp h.symm
          · exact b j h1 (by omega)
        · exact .inr ⟨j, a, by omega, c, d⟩
theorem ok_node {l : List Nd} {k : Nat} {x : Nd} (h : okI l k = true) (hx : l[k]? = some x) : Node l k x := by
  simp only [okI, hx] at h
  exact (okN_iff l k x (Nat.le_of_lt (List.getElem?_eq_some_iff.1 hx).1)).1 h
/-- The map tells whether there is a clash. -/
theorem kn_clash {l : List Nd} {k : Nat} {x : Nd} (hk : k ≤ l.length) (h : ∀ j < k, okI l j = true) : clash l k x = (match kn l k x.p with | some v => decide (v ≠ x.f) | none => false) := by
  rcases kn_spec l x.p k with ⟨a, b⟩ | ⟨j, a, b, c, d⟩
  · rw [a]; exact noClash_end (fun j h1 h2 h3 => absurd h3 (b j h1 h2))
  · rw [d]
    have get : ∀ i, i < k → ∃ y, l[i]? = some y := fun i hi => ⟨l[i]'(by omega), List.getElem?_eq_getElem (by omega)⟩
    obtain ⟨y, hy⟩ := get j b
    rw [par_at hy] at c
    rw [frm_at hy]
    by_cases e : y.f = x.f
    · simp only [e, ne_eq, not_true_eq_false, decide_false]
      refine noClash_end (fun i h1 h2 h3 => ?_)
      obtain ⟨z, hz⟩ := get i h2
      rw [par_at hz] at h3
      rw [frm_at hz]
      rcases Nat.lt_trichotomy i j with g | g | g
      · rw [← e]; exact ((ok_node (h j b) hy).same i z (by omega) g hz (by omega)).trans rfl
      · subst g; rw [hy] at hz; cases hz; exact e
      · rw [← e]; exact ((ok_node (h i h2) hz).same j y (by omega) g hy (by omega)).symm
    · simp only [ne_eq, e, not_false_eq_true, decide_true]
      exact clash_hit a b hy c e
theorem wf64 {x : Int} (h1 : -1000000 ≤ x) (h2 : x ≤ 1000000) : (Lit.int .i64 x).wf = true := by
  simp [Lit.wf, IntKind.min, IntKind.max, IntKind.signed, IntKind.bits]; omega
theorem zero3 (w : World) : (zeroValue 3).run Tryz.prog w = .ok (.int .i64 0) w := by kernel_rfl
end Go.Proofs.YtilocjliplmmpaaGreat
