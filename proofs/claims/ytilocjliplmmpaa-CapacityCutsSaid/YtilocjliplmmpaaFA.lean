/- Small contracts: tests over lists, equality, sums. -/
import Derived.WalkKit
import Derived.WalkLawsBesides
import Derived.WalkSpells
import Derived.Deep.QuietTactic
import Derived.BigQuiet
import Derived.Lib.Hide
import Derived.IntWalk
import Derived.Deep.RegionHeld3
import Derived.Test.YtilocjliplmmpaaA
import Derived.Test.YtilocjliplmmpaaPF
import Derived.Test.YtilocjliplmmpaaLB
set_option linter.unusedSimpArgs false
set_option linter.unusedVariables false
namespace Go.Proofs.Ytilocjliplmmpaa
open Go.RowKit

theorem bcell {W w1 : World} (hb : Below W.heap.size W w1) : (∀ b o, b < W.heap.size → w1.cell? ⟨b, o, none⟩ = W.cell? ⟨b, o, none⟩) ∧ (∀ b o, b < W.heap.size → w1.frozen? ⟨b, o, none⟩ = W.frozen? ⟨b, o, none⟩) :=
  ⟨fun b o h => hb.cell (p := ⟨b, o, none⟩) h, fun b o h => hb.frozen (p := ⟨b, o, none⟩) h⟩
theorem ic_len (n : Int) : (ic n).length = 1 := rfl
theorem enters27 : Enters Try.prog 64 := fun args w => by kernel_rfl
theorem enters31 : Enters Try.prog 69 := fun args w => by kernel_rfl
theorem enters43 : Enters Try.prog 71 := fun args w => by kernel_rfl
set_option maxHeartbeats 400000 in
theorem indexCut (g : Nat) (cap1 : Value) (p : Cut → Bool) (A : Option Addr) (c : Nat) (l : List (Cut)) (w : World) (ha : Slc w Cut.cells 5 A l) (hn : l.length ≤ maxLen) (hE : Enters Try.prog g)
    (hp : ∀ (x : Cut) (W : World), x ∈ l → Below w.heap.size w W → Calls Try.prog g #[x.v, cap1] W fun e W' => e = .returned (.bool (p x)) ∧ Below W.heap.size W W') :
    Calls Try.prog 91 #[.slice A l.length c, .func (.func g) #[] #[cap1]] w fun e w' => e = .returned (.int .i64 (idxGo p 0 l)) ∧ Below w.heap.size w w' := by
  have HP := Lib.hid hp
  have HE := Lib.hid hE
  clear hp hE
  unfold maxLen at hn
  go_enter Try.func91, Try.ntmps91
  go_wp2
  go_loopw [8] (fun i wr => ∃ k : Nat, k ≤ l.length ∧ i = .int .i64 k ∧ idxGo p 0 l = idxGo p k (l.drop k) ∧ Below w.heap.size w wr) (fun i _ => l.length - (intOf i).toNat)
  case atStart => exact ⟨0, Nat.zero_le _, rfl, rfl, ext_refl _⟩
  case round =>
    obtain ⟨k, hk, rfl, heq, hB⟩ := hrel
    have HQ := Lib.hid heq
    clear heq
    by_cases hlt : k < l.length
    · obtain ⟨x, b1, o1, hx, rfl, hb1, hc⟩ := (ha.ext hB).at_ hlt
      have HX := Lib.hid hx
      clear hx
      have c0 := hc 0 _ rfl
      have c1 := hc 1 _ rfl
      have c2 := hc 2 _ rfl
      have c3 := hc 3 _ rfl
      have c4 := hc 4 _ rfl
      simp only [Nat.mul_one, Nat.add_zero] at c0 c1 c2 c3 c4
      clear hc
      have hlt' : (k : Int) < l.length := by omega
      have hE2 := HE.out #[x.v, cap1] wr
      cases hpx : p x
      · go_wp2_with fail
        refine (HP.out x wr (List.mem_of_getElem? HX.out) hB).mono ?_
        rintro e w1 ⟨rfl, hB1⟩
        clear hE2
        go_wp2_with fail
        go_roundw
        case rel => exact ⟨k + 1, hlt, by go_num, idx_step HX.out hpx HQ.out, ext_trans hB hB1⟩
        case measure => simp [intOf]; omega
      · go_wp2_with fail
        refine (HP.out x wr (List.mem_of_getElem? HX.out) hB).mono ?_
        rintro e w1 ⟨rfl, hB1⟩
        clear hE2
        go_wp2_with fail
        go_ret
        exact ⟨ret_int (idx_hit HX.out hpx HQ.out).symm, ext_trans hB hB1⟩
    · go_wp2_with fail
      go_ret
      exact ⟨ret_int (idx_end (by omega) HQ.out).symm, hB⟩
theorem containsCut (g : Nat) (cap1 : Value) (p : Cut → Bool) (A : Option Addr) (c : Nat) (l : List (Cut)) (w : World) (ha : Slc w Cut.cells 5 A l) (hn : l.length ≤ maxLen) (hE : Enters Try.prog g)
    (hp : ∀ (x : Cut) (W : World), x ∈ l → Below w.heap.size w W → Calls Try.prog g #[x.v, cap1] W fun e W' => e = .returned (.bool (p x)) ∧ Below W.heap.size W W') :
    Calls Try.prog 68 #[.slice A l.length c, .func (.func g) #[] #[cap1]] w fun e w' => e = .returned (.bool (l.any p)) ∧ Below w.heap.size w w' := by
  have HP := Lib.hid hp
  have HE := Lib.hid hE
  clear hp hE
  go_enter Try.func68, Try.ntmps68
  go_wp2_with fail
  refine (indexCut g cap1 p A c l _ ha hn HE.out HP.out).mono ?_
  rintro e w1 ⟨rfl, hB1⟩
  go_wp2_with fail
  go_ret
  exact ⟨ret_bool (idx_any p l), hB1⟩
set_option maxHeartbeats 400000 in
theorem indexNd (g : Nat) (cap1 : Value) (p : Nd → Bool) (A : Option Addr) (c : Nat) (l : List (Nd)) (w : World) (ha : Slc w Nd.cells 3 A l) (hn : l.length ≤ maxLen) (hE : Enters Try.prog g)
    (hp : ∀ (x : Nd) (W : World), x ∈ l → Below w.heap.size w W → Calls Try.prog g #[x.v, cap1] W fun e W' => e = .returned (.bool (p x)) ∧ Below W.heap.size W W') :
    Calls Try.prog 92 #[.slice A l.length c, .func (.func g) #[] #[cap1]] w fun e w' => e = .returned (.int .i64 (idxGo p 0 l)) ∧ Below w.heap.size w w' := by
  have HP := Lib.hid hp
  have HE := Lib.hid hE
  clear hp hE
  unfold maxLen at hn
  go_enter Try.func92, Try.ntmps92
  go_wp2
  go_loopw [8] (fun i wr => ∃ k : Nat, k ≤ l.length ∧ i = .int .i64 k ∧ idxGo p 0 l = idxGo p k (l.drop k) ∧ Below w.heap.size w wr) (fun i _ => l.length - (intOf i).toNat)
  case atStart => exact ⟨0, Nat.zero_le _, rfl, rfl, ext_refl _⟩
  case round =>
    obtain ⟨k, hk, rfl, heq, hB⟩ := hrel
    have HQ := Lib.hid heq
    clear heq
    by_cases hlt : k < l.length
    · obtain ⟨x, b1, o1, hx, rfl, hb1, hc⟩ := (ha.ext hB).at_ hlt
      have HX := Lib.hid hx
      clear hx
      have c0 := hc 0 _ rfl
      have c1 := hc 1 _ rfl
      have c2 := hc 2 _ rfl
      simp only [Nat.mul_one, Nat.add_zero] at c0 c1 c2
      clear hc
      have hlt' : (k : Int) < l.length := by omega
      have hE2 := HE.out #[x.v, cap1] wr
      cases hpx : p x
      · go_wp2_with fail
        refine (HP.out x wr (List.mem_of_getElem? HX.out) hB).mono ?_
        rintro e w1 ⟨rfl, hB1⟩
        clear hE2
        go_wp2_with fail
        go_roundw
        case rel => exact ⟨k + 1, hlt, by go_num, idx_step HX.out hpx HQ.out, ext_trans hB hB1⟩
        case measure => simp [intOf]; omega
      · go_wp2_with fail
        refine (HP.out x wr (List.mem_of_getElem? HX.out) hB).mono ?_
        rintro e w1 ⟨rfl, hB1⟩
        clear hE2
        go_wp2_with fail
        go_ret
        exact ⟨ret_int (idx_hit HX.out hpx HQ.out).symm, ext_trans hB hB1⟩
    · go_wp2_with fail
      go_ret
      exact ⟨ret_int (idx_end (by omega) HQ.out).symm, hB⟩
theorem containsNd (g : Nat) (cap1 : Value) (p : Nd → Bool) (A : Option Addr) (c : Nat) (l : List (Nd)) (w : World) (ha : Slc w Nd.cells 3 A l) (hn : l.length ≤ maxLen) (hE : Enters Try.prog g)
    (hp : ∀ (x : Nd) (W : World), x ∈ l → Below w.heap.size w W → Calls Try.prog g #[x.v, cap1] W fun e W' => e = .returned (.bool (p x)) ∧ Below W.heap.size W W') :
    Calls Try.prog 70 #[.slice A l.length c, .func (.func g) #[] #[cap1]] w fun e w' => e = .returned (.bool (l.any p)) ∧ Below w.heap.size w w' := by
  have HP := Lib.hid hp
  have HE := Lib.hid hE
  clear hp hE
  go_enter Try.func70, Try.ntmps70
  go_wp2_with fail
  refine (indexNd g cap1 p A c l _ ha hn HE.out HP.out).mono ?_
  rintro e w1 ⟨rfl, hB1⟩
  go_wp2_with fail
  go_ret
  exact ⟨ret_bool (idx_any p l), hB1⟩
theorem in_any (n a b : Int) (w : World) : Calls Try.prog 67 #[.int .i64 n, .int .i64 a, .int .i64 b] w fun e w' => e = .returned (.bool (decide (a ≤ n) && decide (n ≤ b))) ∧ w = w' := by
  go_enter Try.func67, Try.ntmps67
  by_cases h : a ≤ n
  · by_cases k : n ≤ b
    all_goals
      go_wp2_with fail
      go_ret
      exact ⟨ret_bool (by simp [h, k]; try omega), rfl⟩
  · go_wp2_with fail
    go_ret
    exact ⟨ret_bool (by simp [h]; try omega), rfl⟩
/-- Some bool; the world is as it was. -/
def SomeB (w : World) (e : Ending) (w' : World) : Prop := (∃ r, e = .returned (.bool r)) ∧ w = w'
theorem few_any (A : Option Addr) (c : Nat) (l : List Nd) (w : World) (ha : Slc w Nd.cells 3 A l) (hn : l.length ≤ maxLen) :
    Calls Try.prog 19 #[.slice A l.length c] w (SomeB w) := by
  unfold maxLen at hn
  by_cases h40 : l.length ≤ 40
  all_goals
    go_enter Try.func19, Try.ntmps19
    go_wp2_with fail
    go_loop [3, 4] (fun s i => ∃ k : Nat, k ≤ l.length ∧ i = .int .i64 k ∧ ∃ q : Int, s = .int .i64 q) (fun _ i => l.length - (intOf i).toNat)
    case atStart => exact ⟨0, Nat.zero_le _, rfl, 0, rfl⟩
    case round =>
      obtain ⟨k, hk, rfl, q, rfl⟩ := hrel
      by_cases hlt : k < l.length
      · obtain ⟨x, b1, o1, hx, rfl, hb1, hc⟩ := ha.at_ hlt
        have c2 := hc 2 _ rfl
        clear hx hc
        have hlt' : (k : Int) < l.length := by omega
        go_wp2_with fail
        go_round
        case rel => exact ⟨k + 1, hlt, by go_num, _, rfl⟩
        case measure => simp [intOf]; omega
      · go_wp2_with fail
        all_goals
          go_ret
          exact ⟨⟨_, rfl⟩, rfl⟩
end Go.Proofs.Ytilocjliplmmpaa
/- Is a cut wrong; is a node valid; the reference's Check. -/
set_option linter.unusedSimpArgs false
set_option linter.unusedVariables false
namespace Go.Proofs.Ytilocjliplmmpaa
open Go.RowKit
theorem in_at {n a b : Int} {w : World} (r : Bool) (hr : (decide (a ≤ n) && decide (n ≤ b)) = r) : Calls Try.prog 67 #[.int .i64 n, .int .i64 a, .int .i64 b] w fun e w' => e = .returned (.bool r) ∧ w = w' := by
  subst hr; exact in_any n a b w
set_option maxHeartbeats 800000 in
theorem badcut_any (c : Cut) (b : Nat) (n : Int) (w : World) (hb : b < w.heap.size) (hn : w.cell? ⟨b, 1, none⟩ = some (.int .i64 n)) :
    Calls Try.prog 69 #[c.v, .pointer (some ⟨b, 0, none⟩)] w fun e w' => e = .returned (.bool (badC n c)) ∧ Below w.heap.size w w' := by
  obtain ⟨r1, hr1⟩ : ∃ r, (decide (0 ≤ c.ix) && decide (c.ix ≤ (if c.air then 15 else 63))) = r := ⟨_, rfl⟩
  obtain ⟨r2, hr2⟩ : ∃ r, (decide (0 ≤ c.less) && decide (c.less ≤ 64)) = r := ⟨_, rfl⟩
  have hbad : badC n c = (!r1 || !r2 || decide (c.f < n) || decide (c.t ≤ c.f) || decide (1440 < c.t)) := by unfold badC; rw [hr1, hr2]
  have HB := Lib.hid hbad
  clear hbad
  have HW : Hid (Below w.heap.size w (w.alloc (.cells #[.bool c.air, .int .i64 c.ix, .int .i64 c.f, .int .i64 c.t, .int .i64 c.less] 74))) := ext_alloc (ext_refl w) _
  have hn2 := (HW.out.cell (p := ⟨b, 1, none⟩) hb).trans hn
  have hb2 : b < (w.alloc (.cells #[.bool c.air, .int .i64 c.ix, .int .i64 c.f, .int .i64 c.t, .int .i64 c.less] 74)).heap.size := by simp; omega
  obtain ⟨air, ix, f, t, less⟩ := c
  simp only at hr1 hr2 HB HW hn2 hb2
  clear hn
  cases air
  all_goals
    simp only [if_true, Bool.false_eq_true, if_false] at hr1
    have H1 := Lib.hid hr1
    have H2 := Lib.hid hr2
    clear hr1 hr2
    cases r1
    · go_enter Try.func69, Try.ntmps69
      go_wp2_with fail
      refine (in_at false H1.out).mono ?_
      rintro e w1 ⟨rfl, rfl⟩
      go_wp2_with fail
      go_ret
      exact ⟨ret_bool (by rw [HB.out]; rfl), HW.out⟩
    cases r2
    · go_enter Try.func69, Try.ntmps69
      go_wp2_with fail
      refine (in_at true H1.out).mono ?_
      rintro e w1 ⟨rfl, rfl⟩
      go_wp2_with fail
      refine (in_at false H2.out).mono ?_
      rintro e w1 ⟨rfl, rfl⟩
      go_wp2_with fail
      go_ret
      exact ⟨ret_bool (by rw [HB.out]; rfl), HW.out⟩
    · go_enter Try.func69, Try.ntmps69
      go_wp2_with fail
      refine (in_at true H1.out).mono ?_
      rintro e w1 ⟨rfl, rfl⟩
      go_wp2_with fail
      refine (in_at true H2.out).mono ?_
      rintro e w1 ⟨rfl, rfl⟩
      go_wp2_with fail
      all_goals
        go_ret
        exact ⟨ret_bool (by rw [HB.out]; simp_all <;> omega), HW.out⟩
end Go.Proofs.Ytilocjliplmmpaa
/- The reference's test of a node. -/
set_option linter.unusedSimpArgs false
set_option linter.unusedVariables false
namespace Go.Proofs.Ytilocjliplmmpaa
open Go.RowKit
/-- A tree in memory: its nodes, and each node's cuts. -/
structure TOk (w : World) (A : Option Addr) (l : List Nd) : Prop where
  nd : Slc w Nd.cells 3 A l
  ct : ∀ n ∈ l, Slc w Cut.cells 5 n.cuts.A n.cuts.l
  len : l.length ≤ maxLen
  cl : ∀ n ∈ l, n.cuts.l.length ≤ maxLen
theorem TOk.ext {w w' : World} {A : Option Addr} {l : List Nd} (h : TOk w A l) (hb : Below w.heap.size w w') : TOk w' A l := ⟨h.nd.ext hb, fun n hn => (h.ct n hn).ext hb, h.len, h.cl⟩
/-- A node in a block of its own. -/
structure BoxN (w : World) (b : Nat) (x : Nd) : Prop where
  lt : b < w.heap.size
  p : w.cell? ⟨b, 0, none⟩ = some (.int .i64 x.p)
  f : w.cell? ⟨b, 1, none⟩ = some (.int .i64 x.f)
  c : w.cell? ⟨b, 2, none⟩ = some (.slice x.cuts.A x.cuts.l.length x.cuts.c)
theorem BoxN.new (w : World) (x : Nd) (t : TypeId) : BoxN (w.alloc (.cells #[.int .i64 x.p, .int .i64 x.f, .slice x.cuts.A x.cuts.l.length x.cuts.c] t)) w.heap.size x := ⟨by simp, by simp, by simp, by simp⟩
theorem BoxN.ext {w w' : World} {b : Nat} {x : Nd} (h : BoxN w b x) (hb : Below w.heap.size w w') : BoxN w' b x :=
  ⟨Nat.lt_of_lt_of_le h.lt hb.size, (hb.cell (p := ⟨b, 0, none⟩) h.lt).trans h.p, (hb.cell (p := ⟨b, 1, none⟩) h.lt).trans h.f, (hb.cell (p := ⟨b, 2, none⟩) h.lt).trans h.c⟩
theorem okN_parts (l : List Nd) (i : Nat) (x : Nd) (hP : okP l i x = true) : okN l i x = (!clash l i x && !(x.cuts.l.any (badC x.f)) && decide (x.cuts.l.length ≤ 64)) := by simp [okN, hP]
theorem any_take {α : Type} {p : α → Bool} {l : List α} {k : Nat} {x : α} (h : (l.take k).any p = false) (hx : l[k]? = some x) (hp : p x = false) : (l.take (k + 1)).any p = false := by
  rw [List.take_add_one, hx]; simp [h, hp]
theorem any_hit {α : Type} {p : α → Bool} {l : List α} {k : Nat} {x : α} (hx : l[k]? = some x) (hp : p x = true) : l.any p = true := List.any_eq_true.2 ⟨x, List.mem_of_getElem? hx, hp⟩
theorem any_end {α : Type} {p : α → Bool} {l : List α} {k : Nat} (h : (l.take k).any p = false) (hk : l.length ≤ k) : l.any p = false := by rwa [List.take_of_length_le hk] at h
/-- No clash with the nodes from 1 up to k. -/
def noClash (l : List Nd) (k : Nat) (x : Nd) : Prop := ∀ j, 1 ≤ j → j < k → par l j = x.p → frm l j = x.f
theorem noClash_step {l : List Nd} {k : Nat} {x y : Nd} (h : noClash l k x) (hy : l[k]? = some y) (hc : y.p = x.p → y.f = x.f) : noClash l (k + 1) x := fun j h1 h2 h3 => by
  by_cases e : j = k
  · subst e; rw [par_at hy] at h3; rw [frm_at hy]; exact hc h3
  · exact h j h1 (by omega) h3
theorem noClash_end {l : List Nd} {i : Nat} {x : Nd} (h : noClash l i x) : clash l i x = false := by
  refine List.any_eq_false.2 fun j hj => ?_
  have hj := List.mem_range.1 hj
  simp only [Bool.and_eq_true, decide_eq_true_eq, not_and]
  rintro ⟨a, b⟩ c
  exact c (h j a hj b)
theorem clash_hit {l : List Nd} {i k : Nat} {x y : Nd} (h1 : 1 ≤ k) (h2 : k < i) (hy : l[k]? = some y) (hp : y.p = x.p) (hf : y.f ≠ x.f) : clash l i x = true :=
  List.any_eq_true.2 ⟨k, List.mem_range.2 h2, by rw [par_at hy, frm_at hy]; simp [h1, hp, hf]⟩
end Go.Proofs.Ytilocjliplmmpaa
/- Check, the program's and the reference's. -/
set_option linter.unusedSimpArgs false
set_option linter.unusedVariables false
namespace Go.Proofs.Ytilocjliplmmpaa
open Go.RowKit
theorem vld_no {l : List Nd} {k : Nat} (hk : k < l.length) (h : okI l k = false) : chkE l = 180 := by
  unfold chkE
  rw [if_neg]
  intro hv
  simp only [vld, Bool.and_eq_true, List.all_eq_true, List.mem_range] at hv
  rw [hv.2 k hk] at h; cases h
theorem vld_yes {l : List Nd} (h1 : 1 ≤ l.length) (h2 : l.length ≤ 32) (h : ∀ j < l.length, okI l j = true) : chkE l = 0 := by
  unfold chkE
  rw [if_pos]
  simp only [vld, Bool.and_eq_true, decide_eq_true_eq, List.all_eq_true, List.mem_range]
  exact ⟨⟨h1, h2⟩, h⟩
theorem vld_len {l : List Nd} (h : ¬ (1 ≤ l.length ∧ l.length ≤ 32)) : chkE l = 180 := by
  unfold chkE
  rw [if_neg]
  intro hv
  simp only [vld, Bool.and_eq_true, decide_eq_true_eq] at hv
  exact h hv.1
theorem all_step {l : List Nd} {k : Nat} (h : ∀ j < k, okI l j = true) (hk : okI l k = true) : ∀ j < k + 1, okI l j = true := fun j hj => by
  by_cases e : j = k
  · rw [e]; exact hk
  · exact h j (by omega)
/-- When the children of a node are known: what the map holds behind the nodes below k. -/
def kn (l : List Nd) : Nat → Int → Option Int
  | 0, _ => none
  | k + 1, p => if k = 0 then none else if p = par l k then some (frm l k) else kn l k p
theorem kn_spec (l : List Nd) (p : Int) : ∀ k, (kn l k p = none ∧ ∀ j, 1 ≤ j → j < k → par l j ≠ p) ∨ ∃ j, 1 ≤ j ∧ j < k ∧ par l j = p ∧ kn l k p = some (frm l j)
  | 0 => .inl ⟨rfl, fun j _ h => by omega⟩
  | k + 1 => by
    unfold kn
    by_cases h0 : k = 0
    · subst h0; exact .inl ⟨by simp, fun j h1 h2 => by omega⟩
    · rw [if_neg h0]
      by_cases hp : p = par l k
      · rw [if_pos hp]; exact .inr ⟨k, by omega, by omega, hp.symm, rfl⟩
      · rw [if_neg hp]
        rcases kn_spec l p k with ⟨a, b⟩ | ⟨j, a, b, c, d⟩
        · refine .inl ⟨a, fun j h1 h2 => ?_⟩
          by_cases e : j = k
          · rw [e]; exact fun h => hp h.symm
          · exact b j h1 (by omega)
        · exact .inr ⟨j, a, by omega, c, d⟩
theorem ok_node {l : List Nd} {k : Nat} {x : Nd} (h : okI l k = true) (hx : l[k]? = some x) : Node l k x := by
  simp only [okI, hx] at h
  exact (okN_iff l k x (Nat.le_of_lt (List.getElem?_eq_some_iff.1 hx).1)).1 h
/-- The map tells whether there is a clash. -/
theorem kn_clash {l : List Nd} {k : Nat} {x : Nd} (hk : k ≤ l.length) (h : ∀ j < k, okI l j = true) : clash l k x = (match kn l k x.p with | some v => decide (v ≠ x.f) | none => false) := by
  rcases kn_spec l x.p k with ⟨a, b⟩ | ⟨j, a, b, c, d⟩
  · rw [a]; exact noClash_end (fun j h1 h2 h3 => absurd h3 (b j h1 h2))
  · rw [d]
    have get : ∀ i, i < k → ∃ y, l[i]? = some y := fun i hi => ⟨l[i]'(by omega), List.getElem?_eq_getElem (by omega)⟩
    obtain ⟨y, hy⟩ := get j b
    rw [par_at hy] at c
    rw [frm_at hy]
    by_cases e : y.f = x.f
    · simp only [e, ne_eq, not_true_eq_false, decide_false]
      refine noClash_end (fun i h1 h2 h3 => ?_)
      obtain ⟨z, hz⟩ := get i h2
      rw [par_at hz] at h3
      rw [frm_at hz]
      rcases Nat.lt_trichotomy i j with g | g | g
      · rw [← e]; exact ((ok_node (h j b) hy).same i z (by omega) g hz (by omega)).trans rfl
      · subst g; rw [hy] at hz; cases hz; exact e
      · rw [← e]; exact ((ok_node (h i h2) hz).same j y (by omega) g hy (by omega)).symm
    · simp only [ne_eq, e, not_false_eq_true, decide_true]
      exact clash_hit a b hy c e
theorem wf64 {x : Int} (h1 : -1000000 ≤ x) (h2 : x ≤ 1000000) : (Lit.int .i64 x).wf = true := by
  simp [Lit.wf, IntKind.min, IntKind.max, IntKind.signed, IntKind.bits]; omega
theorem zero3 (w : World) : (zeroValue 3).run Try.prog w = .ok (.int .i64 0) w := by kernel_rfl
end Go.Proofs.Ytilocjliplmmpaa
