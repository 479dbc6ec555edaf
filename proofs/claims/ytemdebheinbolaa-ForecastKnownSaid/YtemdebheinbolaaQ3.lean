/- The laws of the specification; nothing depends on what becomes known later. -/
import Derived.Test.YtemdebheinbolaaPk
namespace Go.Proofs.Ytemdebheinbolaa
open Go.RowKit
set_option maxHeartbeats 8000000 in
set_option maxRecDepth 100000 in
theorem law3 (A : Option Addr) (c : Nat) (l : List Nd) (w : World) (hl : TOk w A l) : Calls Try.prog 3 #[.slice A l.length c] w (Tru w) := by
  have hx := leavesR_len l
  obtain ⟨⟨x, ec⟩, hr⟩ : ∃ r, leavesR l = r := ⟨_, rfl⟩
  rw [hr] at hx
  have HR := Lib.hid hr
  obtain ⟨rc, hc⟩ : ∃ r, chkE l = r := ⟨_, rfl⟩
  have HC := Lib.hid hc
  simp only at hx
  clear hr hc
  go_enter Try.func3, Try.ntmps3
  go_wp2_with fail
  refine (sane_any _).mono ?_
  rintro e w1 ⟨rfl, B⟩
  have X : Below w.heap.size w w1 := by first | exact B | exact ext_trans (ext_alloc (ext_refl _) _) B | exact ext_trans (ext_alloc (ext_alloc (ext_refl _) _) _) B | exact ext_trans (ext_alloc (ext_alloc (ext_alloc (ext_refl _) _) _) _) B | exact ext_trans (ext_alloc (ext_alloc (ext_alloc (ext_alloc (ext_refl _) _) _) _) _) B
  have Ew1 := ext_trans (ext_refl w) X
  clear X B
  replace hl := hl.ext Ew1
  go_wp2_with fail
  refine (few_b rfl (by first | exact hl | exact (hl).alloc _ | exact ((hl).alloc _).alloc _ | exact (((hl).alloc _).alloc _).alloc _)).mono ?_
  rintro e w2 ⟨⟨rf, rfl⟩, B⟩
  have X : Below w1.heap.size w1 w2 := by first | exact B | exact ext_trans (ext_alloc (ext_refl _) _) B | exact ext_trans (ext_alloc (ext_alloc (ext_refl _) _) _) B | exact ext_trans (ext_alloc (ext_alloc (ext_alloc (ext_refl _) _) _) _) B | exact ext_trans (ext_alloc (ext_alloc (ext_alloc (ext_alloc (ext_refl _) _) _) _) _) B
  have Ew2 := ext_trans Ew1 X
  replace hl := hl.ext X
  clear X B Ew1
  cases rf
  · go_wp2_with fail
    go_ret
    exact ⟨rfl, Ew2⟩
  go_wp2_with fail
  refine (leaves_at (k := x.length) (l := l) _ HR.out rfl (by first | exact hl | exact (hl).alloc _ | exact ((hl).alloc _).alloc _ | exact (((hl).alloc _).alloc _).alloc _) rfl).mono ?_
  rintro e w3 ⟨A1, c1, rfl, S1, B⟩
  have X : Below w2.heap.size w2 w3 := by first | exact B | exact ext_trans (ext_alloc (ext_refl _) _) B | exact ext_trans (ext_alloc (ext_alloc (ext_refl _) _) _) B | exact ext_trans (ext_alloc (ext_alloc (ext_alloc (ext_refl _) _) _) _) B | exact ext_trans (ext_alloc (ext_alloc (ext_alloc (ext_alloc (ext_refl _) _) _) _) _) B
  have Ew3 := ext_trans Ew2 X
  replace hl := hl.ext X
  clear X B Ew2
  go_wp2_with fail
  refine (rleaves_at (k := x.length) (l := l) _ HR.out rfl (by first | exact hl | exact (hl).alloc _ | exact ((hl).alloc _).alloc _ | exact (((hl).alloc _).alloc _).alloc _) rfl).mono ?_
  rintro e w4 ⟨A2, c2, rfl, S2, B⟩
  have X : Below w3.heap.size w3 w4 := by first | exact B | exact ext_trans (ext_alloc (ext_refl _) _) B | exact ext_trans (ext_alloc (ext_alloc (ext_refl _) _) _) B | exact ext_trans (ext_alloc (ext_alloc (ext_alloc (ext_refl _) _) _) _) B | exact ext_trans (ext_alloc (ext_alloc (ext_alloc (ext_alloc (ext_refl _) _) _) _) _) B
  have Ew4 := ext_trans Ew3 X
  replace hl := hl.ext X
  replace S1 := S1.ext X
  clear X B Ew3
  go_wp2_with fail
  refine (same_at (a := x) (b := x) true (by simp) rfl rfl (by first | exact S1 | exact (S1).alloc _ | exact ((S1).alloc _).alloc _ | exact (((S1).alloc _).alloc _).alloc _) (by first | exact S2 | exact (S2).alloc _ | exact ((S2).alloc _).alloc _ | exact (((S2).alloc _).alloc _).alloc _) (by omega)).mono ?_
  rintro e w5 ⟨rfl, B⟩
  have X : Below w4.heap.size w4 w5 := by first | exact B | exact ext_trans (ext_alloc (ext_refl _) _) B | exact ext_trans (ext_alloc (ext_alloc (ext_refl _) _) _) B | exact ext_trans (ext_alloc (ext_alloc (ext_alloc (ext_refl _) _) _) _) B | exact ext_trans (ext_alloc (ext_alloc (ext_alloc (ext_alloc (ext_refl _) _) _) _) _) B
  have Ew5 := ext_trans Ew4 X
  replace hl := hl.ext X
  clear X B Ew4 S1 S2
  go_wp2_with fail
  refine (check_at (l := l) _ HC.out rfl (by first | exact hl | exact (hl).alloc _ | exact ((hl).alloc _).alloc _ | exact (((hl).alloc _).alloc _).alloc _)).mono ?_
  rintro e w6 ⟨rfl, B⟩
  have X : Below w5.heap.size w5 w6 := by first | exact B | exact ext_trans (ext_alloc (ext_refl _) _) B | exact ext_trans (ext_alloc (ext_alloc (ext_refl _) _) _) B | exact ext_trans (ext_alloc (ext_alloc (ext_alloc (ext_refl _) _) _) _) B | exact ext_trans (ext_alloc (ext_alloc (ext_alloc (ext_alloc (ext_refl _) _) _) _) _) B
  have Ew6 := ext_trans Ew5 X
  replace hl := hl.ext X
  clear X B Ew5
  go_wp2_with fail
  refine (rcheck_at (l := l) _ HC.out rfl (by first | exact hl | exact (hl).alloc _ | exact ((hl).alloc _).alloc _ | exact (((hl).alloc _).alloc _).alloc _)).mono ?_
  rintro e w7 ⟨rfl, B⟩
  have X : Below w6.heap.size w6 w7 := by first | exact B | exact ext_trans (ext_alloc (ext_refl _) _) B | exact ext_trans (ext_alloc (ext_alloc (ext_refl _) _) _) B | exact ext_trans (ext_alloc (ext_alloc (ext_alloc (ext_refl _) _) _) _) B | exact ext_trans (ext_alloc (ext_alloc (ext_alloc (ext_alloc (ext_refl _) _) _) _) _) B
  have Ew7 := ext_trans Ew6 X
  clear X B Ew6 hl
  go_wp2_with fail
  go_ret
  exact ⟨rfl, Ew7⟩
set_option maxHeartbeats 8000000 in
set_option maxRecDepth 100000 in
theorem law4 (A : Option Addr) (c : Nat) (l : List Nd) (leaf m : Int) (B : Option Addr) (d : Nat) (seen : List Int) (w : World) (hl : TOk w A l) (hs : Slc w ic 1 B seen) (ls : seen.length ≤ maxLen) : Calls Try.prog 4 #[.slice A l.length c, .int .i64 leaf, .int .i64 m, .slice B seen.length d] w (Tru w) := by
  have hx := aliveR_len l seen
  obtain ⟨⟨x, ec⟩, hr⟩ : ∃ r, aliveR l seen = r := ⟨_, rfl⟩
  rw [hr] at hx
  have HR := Lib.hid hr
  obtain ⟨⟨p, ep⟩, hp⟩ : ∃ r, atR l leaf m = r := ⟨_, rfl⟩
  have HP := Lib.hid hp
  simp only at hx
  clear hr hp
  by_cases h20 : seen.length ≤ 20
  rotate_left
  · have g1 : (20 : Int) < seen.length := by omega
    go_enter Try.func4, Try.ntmps4
    go_wp2_with fail
    refine (sane_any _).mono ?_
    rintro e w1 ⟨rfl, B⟩
    have X : Below w.heap.size w w1 := by first | exact B | exact ext_trans (ext_alloc (ext_refl _) _) B | exact ext_trans (ext_alloc (ext_alloc (ext_refl _) _) _) B | exact ext_trans (ext_alloc (ext_alloc (ext_alloc (ext_refl _) _) _) _) B | exact ext_trans (ext_alloc (ext_alloc (ext_alloc (ext_alloc (ext_refl _) _) _) _) _) B
    have Ew1 := ext_trans (ext_refl w) X
    clear X B
    replace hl := hl.ext Ew1
    replace hs := hs.ext Ew1
    go_wp2_with fail
    refine (few_b rfl (by first | exact hl | exact (hl).alloc _ | exact ((hl).alloc _).alloc _ | exact (((hl).alloc _).alloc _).alloc _)).mono ?_
    rintro e w2 ⟨⟨rf, rfl⟩, B⟩
    have X : Below w1.heap.size w1 w2 := by first | exact B | exact ext_trans (ext_alloc (ext_refl _) _) B | exact ext_trans (ext_alloc (ext_alloc (ext_refl _) _) _) B | exact ext_trans (ext_alloc (ext_alloc (ext_alloc (ext_refl _) _) _) _) B | exact ext_trans (ext_alloc (ext_alloc (ext_alloc (ext_alloc (ext_refl _) _) _) _) _) B
    have Ew2 := ext_trans Ew1 X
    clear X B Ew1 hl hs
    cases rf
    · go_wp2_with fail
      go_ret
      exact ⟨rfl, Ew2⟩
    go_wp2_with fail
    go_ret
    exact ⟨rfl, Ew2⟩
  have g1 : ¬ (20 : Int) < seen.length := by omega
  have g2 : decide ((20 : Int) < seen.length) = false := by simpa using g1
  go_enter Try.func4, Try.ntmps4
  go_wp2_with fail
  refine (sane_any _).mono ?_
  rintro e w1 ⟨rfl, B⟩
  have X : Below w.heap.size w w1 := by first | exact B | exact ext_trans (ext_alloc (ext_refl _) _) B | exact ext_trans (ext_alloc (ext_alloc (ext_refl _) _) _) B | exact ext_trans (ext_alloc (ext_alloc (ext_alloc (ext_refl _) _) _) _) B | exact ext_trans (ext_alloc (ext_alloc (ext_alloc (ext_alloc (ext_refl _) _) _) _) _) B
  have Ew1 := ext_trans (ext_refl w) X
  clear X B
  replace hl := hl.ext Ew1
  replace hs := hs.ext Ew1
  go_wp2_with fail
  refine (few_b rfl (by first | exact hl | exact (hl).alloc _ | exact ((hl).alloc _).alloc _ | exact (((hl).alloc _).alloc _).alloc _)).mono ?_
  rintro e w2 ⟨⟨rf, rfl⟩, B⟩
  have X : Below w1.heap.size w1 w2 := by first | exact B | exact ext_trans (ext_alloc (ext_refl _) _) B | exact ext_trans (ext_alloc (ext_alloc (ext_refl _) _) _) B | exact ext_trans (ext_alloc (ext_alloc (ext_alloc (ext_refl _) _) _) _) B | exact ext_trans (ext_alloc (ext_alloc (ext_alloc (ext_alloc (ext_refl _) _) _) _) _) B
  have Ew2 := ext_trans Ew1 X
  replace hl := hl.ext X
  replace hs := hs.ext X
  clear X B Ew1
  cases rf
  · go_wp2_with fail
    go_ret
    exact ⟨rfl, Ew2⟩
  go_wp2_with fail
  refine (at_at (l := l) _ HP.out rfl (by first | exact hl | exact (hl).alloc _ | exact ((hl).alloc _).alloc _ | exact (((hl).alloc _).alloc _).alloc _)).mono ?_
  rintro e w3 ⟨rfl, B⟩
  have X : Below w2.heap.size w2 w3 := by first | exact B | exact ext_trans (ext_alloc (ext_refl _) _) B | exact ext_trans (ext_alloc (ext_alloc (ext_refl _) _) _) B | exact ext_trans (ext_alloc (ext_alloc (ext_alloc (ext_refl _) _) _) _) B | exact ext_trans (ext_alloc (ext_alloc (ext_alloc (ext_alloc (ext_refl _) _) _) _) _) B
  have Ew3 := ext_trans Ew2 X
  replace hl := hl.ext X
  replace hs := hs.ext X
  clear X B Ew2
  go_wp2_with fail
  refine (rat_at (l := l) _ HP.out rfl (by first | exact hl | exact (hl).alloc _ | exact ((hl).alloc _).alloc _ | exact (((hl).alloc _).alloc _).alloc _)).mono ?_
  rintro e w4 ⟨rfl, B⟩
  have X : Below w3.heap.size w3 w4 := by first | exact B | exact ext_trans (ext_alloc (ext_refl _) _) B | exact ext_trans (ext_alloc (ext_alloc (ext_refl _) _) _) B | exact ext_trans (ext_alloc (ext_alloc (ext_alloc (ext_refl _) _) _) _) B | exact ext_trans (ext_alloc (ext_alloc (ext_alloc (ext_alloc (ext_refl _) _) _) _) _) B
  have Ew4 := ext_trans Ew3 X
  replace hl := hl.ext X
  replace hs := hs.ext X
  clear X B Ew3
  go_wp2_with fail
  refine (alive_at (k := x.length) (l := l) (seen := seen) _ HR.out rfl rfl (by first | exact hl | exact (hl).alloc _ | exact ((hl).alloc _).alloc _ | exact (((hl).alloc _).alloc _).alloc _) (by first | exact hs | exact (hs).alloc _ | exact ((hs).alloc _).alloc _ | exact (((hs).alloc _).alloc _).alloc _) ls rfl).mono ?_
  rintro e w5 ⟨A1, c1, rfl, S1, B⟩
  have X : Below w4.heap.size w4 w5 := by first | exact B | exact ext_trans (ext_alloc (ext_refl _) _) B | exact ext_trans (ext_alloc (ext_alloc (ext_refl _) _) _) B | exact ext_trans (ext_alloc (ext_alloc (ext_alloc (ext_refl _) _) _) _) B | exact ext_trans (ext_alloc (ext_alloc (ext_alloc (ext_alloc (ext_refl _) _) _) _) _) B
  have Ew5 := ext_trans Ew4 X
  replace hl := hl.ext X
  replace hs := hs.ext X
  clear X B Ew4
  go_wp2_with fail
  refine (ralive_at (k := x.length) (l := l) (seen := seen) _ HR.out rfl rfl (by first | exact hl | exact (hl).alloc _ | exact ((hl).alloc _).alloc _ | exact (((hl).alloc _).alloc _).alloc _) (by first | exact hs | exact (hs).alloc _ | exact ((hs).alloc _).alloc _ | exact (((hs).alloc _).alloc _).alloc _) ls rfl).mono ?_
  rintro e w6 ⟨A2, c2, rfl, S2, B⟩
  have X : Below w5.heap.size w5 w6 := by first | exact B | exact ext_trans (ext_alloc (ext_refl _) _) B | exact ext_trans (ext_alloc (ext_alloc (ext_refl _) _) _) B | exact ext_trans (ext_alloc (ext_alloc (ext_alloc (ext_refl _) _) _) _) B | exact ext_trans (ext_alloc (ext_alloc (ext_alloc (ext_alloc (ext_refl _) _) _) _) _) B
  have Ew6 := ext_trans Ew5 X
  replace S1 := S1.ext X
  clear X B Ew5 hl hs
  go_wp2_with fail
  refine (same_at (a := x) (b := x) true (by simp) rfl rfl (by first | exact S1 | exact (S1).alloc _ | exact ((S1).alloc _).alloc _ | exact (((S1).alloc _).alloc _).alloc _) (by first | exact S2 | exact (S2).alloc _ | exact ((S2).alloc _).alloc _ | exact (((S2).alloc _).alloc _).alloc _) (by omega)).mono ?_
  rintro e w7 ⟨rfl, B⟩
  have X : Below w6.heap.size w6 w7 := by first | exact B | exact ext_trans (ext_alloc (ext_refl _) _) B | exact ext_trans (ext_alloc (ext_alloc (ext_refl _) _) _) B | exact ext_trans (ext_alloc (ext_alloc (ext_alloc (ext_refl _) _) _) _) B | exact ext_trans (ext_alloc (ext_alloc (ext_alloc (ext_alloc (ext_refl _) _) _) _) _) B
  have Ew7 := ext_trans Ew6 X
  clear X B Ew6 S1 S2
  go_wp2_with fail
  go_ret
  exact ⟨rfl, Ew7⟩
set_option maxHeartbeats 8000000 in
set_option maxRecDepth 100000 in
theorem law5 (A : Option Addr) (c : Nat) (l : List Nd) (leaf : Int) (a : Bool) (ix m : Int) (w : World) (hl : TOk w A l) : Calls Try.prog 5 #[.slice A l.length c, .int .i64 leaf, .bool a, .int .i64 ix, .int .i64 m] w (Tru w) := by
  obtain ⟨⟨p, ep⟩, hp⟩ : ∃ r, lessR l leaf a ix m = r := ⟨_, rfl⟩
  have HP := Lib.hid hp
  clear hp
  go_enter Try.func5, Try.ntmps5
  go_wp2_with fail
  refine (sane_any _).mono ?_
  rintro e w1 ⟨rfl, B⟩
  have X : Below w.heap.size w w1 := by first | exact B | exact ext_trans (ext_alloc (ext_refl _) _) B | exact ext_trans (ext_alloc (ext_alloc (ext_refl _) _) _) B | exact ext_trans (ext_alloc (ext_alloc (ext_alloc (ext_refl _) _) _) _) B | exact ext_trans (ext_alloc (ext_alloc (ext_alloc (ext_alloc (ext_refl _) _) _) _) _) B
  have Ew1 := ext_trans (ext_refl w) X
  clear X B
  replace hl := hl.ext Ew1
  go_wp2_with fail
  refine (few_b rfl (by first | exact hl | exact (hl).alloc _ | exact ((hl).alloc _).alloc _ | exact (((hl).alloc _).alloc _).alloc _)).mono ?_
  rintro e w2 ⟨⟨rf, rfl⟩, B⟩
  have X : Below w1.heap.size w1 w2 := by first | exact B | exact ext_trans (ext_alloc (ext_refl _) _) B | exact ext_trans (ext_alloc (ext_alloc (ext_refl _) _) _) B | exact ext_trans (ext_alloc (ext_alloc (ext_alloc (ext_refl _) _) _) _) B | exact ext_trans (ext_alloc (ext_alloc (ext_alloc (ext_alloc (ext_refl _) _) _) _) _) B
  have Ew2 := ext_trans Ew1 X
  replace hl := hl.ext X
  clear X B Ew1
  cases rf
  · go_wp2_with fail
    go_ret
    exact ⟨rfl, Ew2⟩
  go_wp2_with fail
  refine (less_at (l := l) _ HP.out rfl (by first | exact hl | exact (hl).alloc _ | exact ((hl).alloc _).alloc _ | exact (((hl).alloc _).alloc _).alloc _)).mono ?_
  rintro e w3 ⟨rfl, B⟩
  have X : Below w2.heap.size w2 w3 := by first | exact B | exact ext_trans (ext_alloc (ext_refl _) _) B | exact ext_trans (ext_alloc (ext_alloc (ext_refl _) _) _) B | exact ext_trans (ext_alloc (ext_alloc (ext_alloc (ext_refl _) _) _) _) B | exact ext_trans (ext_alloc (ext_alloc (ext_alloc (ext_alloc (ext_refl _) _) _) _) _) B
  have Ew3 := ext_trans Ew2 X
  replace hl := hl.ext X
  clear X B Ew2
  go_wp2_with fail
  refine (rless_at (l := l) _ HP.out rfl (by first | exact hl | exact (hl).alloc _ | exact ((hl).alloc _).alloc _ | exact (((hl).alloc _).alloc _).alloc _)).mono ?_
  rintro e w4 ⟨rfl, B⟩
  have X : Below w3.heap.size w3 w4 := by first | exact B | exact ext_trans (ext_alloc (ext_refl _) _) B | exact ext_trans (ext_alloc (ext_alloc (ext_refl _) _) _) B | exact ext_trans (ext_alloc (ext_alloc (ext_alloc (ext_refl _) _) _) _) B | exact ext_trans (ext_alloc (ext_alloc (ext_alloc (ext_alloc (ext_refl _) _) _) _) _) B
  have Ew4 := ext_trans Ew3 X
  clear X B Ew3 hl
  go_wp2_with fail
  go_ret
  exact ⟨rfl, Ew4⟩
set_option maxHeartbeats 8000000 in
set_option maxRecDepth 100000 in
theorem law6 (A : Option Addr) (c : Nat) (l : List Nd) (a b m ea : Int) (air : Bool) (ix : Int) (w : World) (hl : TOk w A l) : Calls Try.prog 6 #[.slice A l.length c, .int .i64 a, .int .i64 b, .int .i64 m, .int .i64 ea, .bool air, .int .i64 ix] w (Tru w) := by
  by_cases hem : ea ≤ m
  rotate_left
  · have g1 : m < ea := by omega
    go_enter Try.func6, Try.ntmps6
    go_wp2_with fail
    refine (sane_any _).mono ?_
    rintro e w1 ⟨rfl, B⟩
    have X : Below w.heap.size w w1 := by first | exact B | exact ext_trans (ext_alloc (ext_refl _) _) B | exact ext_trans (ext_alloc (ext_alloc (ext_refl _) _) _) B | exact ext_trans (ext_alloc (ext_alloc (ext_alloc (ext_refl _) _) _) _) B | exact ext_trans (ext_alloc (ext_alloc (ext_alloc (ext_alloc (ext_refl _) _) _) _) _) B
    have Ew1 := ext_trans (ext_refl w) X
    clear X B
    replace hl := hl.ext Ew1
    go_wp2_with fail
    refine (few_b rfl (by first | exact hl | exact (hl).alloc _ | exact ((hl).alloc _).alloc _ | exact (((hl).alloc _).alloc _).alloc _)).mono ?_
    rintro e w2 ⟨⟨rf, rfl⟩, B⟩
    have X : Below w1.heap.size w1 w2 := by first | exact B | exact ext_trans (ext_alloc (ext_refl _) _) B | exact ext_trans (ext_alloc (ext_alloc (ext_refl _) _) _) B | exact ext_trans (ext_alloc (ext_alloc (ext_alloc (ext_refl _) _) _) _) B | exact ext_trans (ext_alloc (ext_alloc (ext_alloc (ext_alloc (ext_refl _) _) _) _) _) B
    have Ew2 := ext_trans Ew1 X
    clear X B Ew1 hl
    cases rf
    · go_wp2_with fail
      go_ret
      exact ⟨rfl, Ew2⟩
    go_wp2_with fail
    go_ret
    exact ⟨rfl, Ew2⟩
  have g1 : ¬ m < ea := by omega
  obtain ⟨⟨p, ep⟩, hp⟩ : ∃ r, atR l a m = r := ⟨_, rfl⟩
  obtain ⟨⟨q, eq⟩, hq⟩ : ∃ r, atR l b m = r := ⟨_, rfl⟩
  have HP := Lib.hid hp
  have HQ := Lib.hid hq
  by_cases h0 : ep = 0 ∧ eq = 0 ∧ p = q
  rotate_left
  · clear hp hq
    by_cases k1 : ep = 0
    rotate_left
    · have e1 : (ep != 0) = true := by simpa using k1
      clear k1 h0
      go_enter Try.func6, Try.ntmps6
      go_wp2_with fail
      refine (sane_any _).mono ?_
      rintro e w1 ⟨rfl, B⟩
      have X : Below w.heap.size w w1 := by first | exact B | exact ext_trans (ext_alloc (ext_refl _) _) B | exact ext_trans (ext_alloc (ext_alloc (ext_refl _) _) _) B | exact ext_trans (ext_alloc (ext_alloc (ext_alloc (ext_refl _) _) _) _) B | exact ext_trans (ext_alloc (ext_alloc (ext_alloc (ext_alloc (ext_refl _) _) _) _) _) B
      have Ew1 := ext_trans (ext_refl w) X
      clear X B
      replace hl := hl.ext Ew1
      go_wp2_with fail
      refine (few_b rfl (by first | exact hl | exact (hl).alloc _ | exact ((hl).alloc _).alloc _ | exact (((hl).alloc _).alloc _).alloc _)).mono ?_
      rintro e w2 ⟨⟨rf, rfl⟩, B⟩
      have X : Below w1.heap.size w1 w2 := by first | exact B | exact ext_trans (ext_alloc (ext_refl _) _) B | exact ext_trans (ext_alloc (ext_alloc (ext_refl _) _) _) B | exact ext_trans (ext_alloc (ext_alloc (ext_alloc (ext_refl _) _) _) _) B | exact ext_trans (ext_alloc (ext_alloc (ext_alloc (ext_alloc (ext_refl _) _) _) _) _) B
      have Ew2 := ext_trans Ew1 X
      replace hl := hl.ext X
      clear X B Ew1
      cases rf
      · go_wp2_with fail
        go_ret
        exact ⟨rfl, Ew2⟩
      go_wp2_with fail
      refine (at_at (l := l) _ HP.out rfl (by first | exact hl | exact (hl).alloc _ | exact ((hl).alloc _).alloc _ | exact (((hl).alloc _).alloc _).alloc _)).mono ?_
      rintro e w3 ⟨rfl, B⟩
      have X : Below w2.heap.size w2 w3 := by first | exact B | exact ext_trans (ext_alloc (ext_refl _) _) B | exact ext_trans (ext_alloc (ext_alloc (ext_refl _) _) _) B | exact ext_trans (ext_alloc (ext_alloc (ext_alloc (ext_refl _) _) _) _) B | exact ext_trans (ext_alloc (ext_alloc (ext_alloc (ext_alloc (ext_refl _) _) _) _) _) B
      have Ew3 := ext_trans Ew2 X
      replace hl := hl.ext X
      clear X B Ew2
      go_wp2_with fail
      refine (at_at (l := l) _ HQ.out rfl (by first | exact hl | exact (hl).alloc _ | exact ((hl).alloc _).alloc _ | exact (((hl).alloc _).alloc _).alloc _)).mono ?_
      rintro e w4 ⟨rfl, B⟩
      have X : Below w3.heap.size w3 w4 := by first | exact B | exact ext_trans (ext_alloc (ext_refl _) _) B | exact ext_trans (ext_alloc (ext_alloc (ext_refl _) _) _) B | exact ext_trans (ext_alloc (ext_alloc (ext_alloc (ext_refl _) _) _) _) B | exact ext_trans (ext_alloc (ext_alloc (ext_alloc (ext_alloc (ext_refl _) _) _) _) _) B
      have Ew4 := ext_trans Ew3 X
      clear X B Ew3 hl
      go_wp2_with fail
      go_ret
      exact ⟨rfl, Ew4⟩
    by_cases k2 : eq = 0
    rotate_left
    · have e1 : (ep != 0) = false := by simpa using k1
      have e2 : (eq != 0) = true := by simpa using k2
      clear k1 k2 h0
      go_enter Try.func6, Try.ntmps6
      go_wp2_with fail
      refine (sane_any _).mono ?_
      rintro e w1 ⟨rfl, B⟩
      have X : Below w.heap.size w w1 := by first | exact B | exact ext_trans (ext_alloc (ext_refl _) _) B | exact ext_trans (ext_alloc (ext_alloc (ext_refl _) _) _) B | exact ext_trans (ext_alloc (ext_alloc (ext_alloc (ext_refl _) _) _) _) B | exact ext_trans (ext_alloc (ext_alloc (ext_alloc (ext_alloc (ext_refl _) _) _) _) _) B
      have Ew1 := ext_trans (ext_refl w) X
      clear X B
      replace hl := hl.ext Ew1
      go_wp2_with fail
      refine (few_b rfl (by first | exact hl | exact (hl).alloc _ | exact ((hl).alloc _).alloc _ | exact (((hl).alloc _).alloc _).alloc _)).mono ?_
      rintro e w2 ⟨⟨rf, rfl⟩, B⟩
      have X : Below w1.heap.size w1 w2 := by first | exact B | exact ext_trans (ext_alloc (ext_refl _) _) B | exact ext_trans (ext_alloc (ext_alloc (ext_refl _) _) _) B | exact ext_trans (ext_alloc (ext_alloc (ext_alloc (ext_refl _) _) _) _) B | exact ext_trans (ext_alloc (ext_alloc (ext_alloc (ext_alloc (ext_refl _) _) _) _) _) B
      have Ew2 := ext_trans Ew1 X
      replace hl := hl.ext X
      clear X B Ew1
      cases rf
      · go_wp2_with fail
        go_ret
        exact ⟨rfl, Ew2⟩
      go_wp2_with fail
      refine (at_at (l := l) _ HP.out rfl (by first | exact hl | exact (hl).alloc _ | exact ((hl).alloc _).alloc _ | exact (((hl).alloc _).alloc _).alloc _)).mono ?_
      rintro e w3 ⟨rfl, B⟩
      have X : Below w2.heap.size w2 w3 := by first | exact B | exact ext_trans (ext_alloc (ext_refl _) _) B | exact ext_trans (ext_alloc (ext_alloc (ext_refl _) _) _) B | exact ext_trans (ext_alloc (ext_alloc (ext_alloc (ext_refl _) _) _) _) B | exact ext_trans (ext_alloc (ext_alloc (ext_alloc (ext_alloc (ext_refl _) _) _) _) _) B
      have Ew3 := ext_trans Ew2 X
      replace hl := hl.ext X
      clear X B Ew2
      go_wp2_with fail
      refine (at_at (l := l) _ HQ.out rfl (by first | exact hl | exact (hl).alloc _ | exact ((hl).alloc _).alloc _ | exact (((hl).alloc _).alloc _).alloc _)).mono ?_
      rintro e w4 ⟨rfl, B⟩
      have X : Below w3.heap.size w3 w4 := by first | exact B | exact ext_trans (ext_alloc (ext_refl _) _) B | exact ext_trans (ext_alloc (ext_alloc (ext_refl _) _) _) B | exact ext_trans (ext_alloc (ext_alloc (ext_alloc (ext_refl _) _) _) _) B | exact ext_trans (ext_alloc (ext_alloc (ext_alloc (ext_alloc (ext_refl _) _) _) _) _) B
      have Ew4 := ext_trans Ew3 X
      clear X B Ew3 hl
      go_wp2_with fail
      go_ret
      exact ⟨rfl, Ew4⟩
    · have e1 : (ep != 0) = false := by simpa using k1
      have e2 : (eq != 0) = false := by simpa using k2
      have e3 : (p != q) = true := by simp only [bne_iff_ne, ne_eq]; exact fun h => h0 ⟨k1, k2, h⟩
      clear k1 k2 h0
      go_enter Try.func6, Try.ntmps6
      go_wp2_with fail
      refine (sane_any _).mono ?_
      rintro e w1 ⟨rfl, B⟩
      have X : Below w.heap.size w w1 := by first | exact B | exact ext_trans (ext_alloc (ext_refl _) _) B | exact ext_trans (ext_alloc (ext_alloc (ext_refl _) _) _) B | exact ext_trans (ext_alloc (ext_alloc (ext_alloc (ext_refl _) _) _) _) B | exact ext_trans (ext_alloc (ext_alloc (ext_alloc (ext_alloc (ext_refl _) _) _) _) _) B
      have Ew1 := ext_trans (ext_refl w) X
      clear X B
      replace hl := hl.ext Ew1
      go_wp2_with fail
      refine (few_b rfl (by first | exact hl | exact (hl).alloc _ | exact ((hl).alloc _).alloc _ | exact (((hl).alloc _).alloc _).alloc _)).mono ?_
      rintro e w2 ⟨⟨rf, rfl⟩, B⟩
      have X : Below w1.heap.size w1 w2 := by first | exact B | exact ext_trans (ext_alloc (ext_refl _) _) B | exact ext_trans (ext_alloc (ext_alloc (ext_refl _) _) _) B | exact ext_trans (ext_alloc (ext_alloc (ext_alloc (ext_refl _) _) _) _) B | exact ext_trans (ext_alloc (ext_alloc (ext_alloc (ext_alloc (ext_refl _) _) _) _) _) B
      have Ew2 := ext_trans Ew1 X
      replace hl := hl.ext X
      clear X B Ew1
      cases rf
      · go_wp2_with fail
        go_ret
        exact ⟨rfl, Ew2⟩
      go_wp2_with fail
      refine (at_at (l := l) _ HP.out rfl (by first | exact hl | exact (hl).alloc _ | exact ((hl).alloc _).alloc _ | exact (((hl).alloc _).alloc _).alloc _)).mono ?_
      rintro e w3 ⟨rfl, B⟩
      have X : Below w2.heap.size w2 w3 := by first | exact B | exact ext_trans (ext_alloc (ext_refl _) _) B | exact ext_trans (ext_alloc (ext_alloc (ext_refl _) _) _) B | exact ext_trans (ext_alloc (ext_alloc (ext_alloc (ext_refl _) _) _) _) B | exact ext_trans (ext_alloc (ext_alloc (ext_alloc (ext_alloc (ext_refl _) _) _) _) _) B
      have Ew3 := ext_trans Ew2 X
      replace hl := hl.ext X
      clear X B Ew2
      go_wp2_with fail
      refine (at_at (l := l) _ HQ.out rfl (by first | exact hl | exact (hl).alloc _ | exact ((hl).alloc _).alloc _ | exact (((hl).alloc _).alloc _).alloc _)).mono ?_
      rintro e w4 ⟨rfl, B⟩
      have X : Below w3.heap.size w3 w4 := by first | exact B | exact ext_trans (ext_alloc (ext_refl _) _) B | exact ext_trans (ext_alloc (ext_alloc (ext_refl _) _) _) B | exact ext_trans (ext_alloc (ext_alloc (ext_alloc (ext_refl _) _) _) _) B | exact ext_trans (ext_alloc (ext_alloc (ext_alloc (ext_alloc (ext_refl _) _) _) _) _) B
      have Ew4 := ext_trans Ew3 X
      clear X B Ew3 hl
      go_wp2_with fail
      go_ret
      exact ⟨rfl, Ew4⟩
  obtain ⟨rfl, rfl, rfl⟩ := h0
  obtain ⟨s, r, ec, h1, h2, h3, h4, h5, h6⟩ := known_R hp hq hem air ix
  have H1 := Lib.hid h1
  have H2 := Lib.hid h2
  have H3 := Lib.hid h3
  have H4 := Lib.hid h4
  clear hp hq h1 h2 h3 h4
  by_cases hneg : ea < 0
  · have hec := h5 hneg
    subst hec
    clear h5 h6
    go_enter Try.func6, Try.ntmps6
    go_wp2_with fail
    refine (sane_any _).mono ?_
    rintro e w1 ⟨rfl, B⟩
    have X : Below w.heap.size w w1 := by first | exact B | exact ext_trans (ext_alloc (ext_refl _) _) B | exact ext_trans (ext_alloc (ext_alloc (ext_refl _) _) _) B | exact ext_trans (ext_alloc (ext_alloc (ext_alloc (ext_refl _) _) _) _) B | exact ext_trans (ext_alloc (ext_alloc (ext_alloc (ext_alloc (ext_refl _) _) _) _) _) B
    have Ew1 := ext_trans (ext_refl w) X
    clear X B
    replace hl := hl.ext Ew1
    go_wp2_with fail
    refine (few_b rfl (by first | exact hl | exact (hl).alloc _ | exact ((hl).alloc _).alloc _ | exact (((hl).alloc _).alloc _).alloc _)).mono ?_
    rintro e w2 ⟨⟨rf, rfl⟩, B⟩
    have X : Below w1.heap.size w1 w2 := by first | exact B | exact ext_trans (ext_alloc (ext_refl _) _) B | exact ext_trans (ext_alloc (ext_alloc (ext_refl _) _) _) B | exact ext_trans (ext_alloc (ext_alloc (ext_alloc (ext_refl _) _) _) _) B | exact ext_trans (ext_alloc (ext_alloc (ext_alloc (ext_alloc (ext_refl _) _) _) _) _) B
    have Ew2 := ext_trans Ew1 X
    replace hl := hl.ext X
    clear X B Ew1
    cases rf
    · go_wp2_with fail
      go_ret
      exact ⟨rfl, Ew2⟩
    go_wp2_with fail
    refine (at_at (l := l) _ HP.out rfl (by first | exact hl | exact (hl).alloc _ | exact ((hl).alloc _).alloc _ | exact (((hl).alloc _).alloc _).alloc _)).mono ?_
    rintro e w3 ⟨rfl, B⟩
    have X : Below w2.heap.size w2 w3 := by first | exact B | exact ext_trans (ext_alloc (ext_refl _) _) B | exact ext_trans (ext_alloc (ext_alloc (ext_refl _) _) _) B | exact ext_trans (ext_alloc (ext_alloc (ext_alloc (ext_refl _) _) _) _) B | exact ext_trans (ext_alloc (ext_alloc (ext_alloc (ext_alloc (ext_refl _) _) _) _) _) B
    have Ew3 := ext_trans Ew2 X
    replace hl := hl.ext X
    clear X B Ew2
    go_wp2_with fail
    refine (at_at (l := l) _ HQ.out rfl (by first | exact hl | exact (hl).alloc _ | exact ((hl).alloc _).alloc _ | exact (((hl).alloc _).alloc _).alloc _)).mono ?_
    rintro e w4 ⟨rfl, B⟩
    have X : Below w3.heap.size w3 w4 := by first | exact B | exact ext_trans (ext_alloc (ext_refl _) _) B | exact ext_trans (ext_alloc (ext_alloc (ext_refl _) _) _) B | exact ext_trans (ext_alloc (ext_alloc (ext_alloc (ext_refl _) _) _) _) B | exact ext_trans (ext_alloc (ext_alloc (ext_alloc (ext_alloc (ext_refl _) _) _) _) _) B
    have Ew4 := ext_trans Ew3 X
    replace hl := hl.ext X
    clear X B Ew3
    go_wp2_with fail
    refine (less_at (l := l) _ H1.out rfl (by first | exact hl | exact (hl).alloc _ | exact ((hl).alloc _).alloc _ | exact (((hl).alloc _).alloc _).alloc _)).mono ?_
    rintro e w5 ⟨rfl, B⟩
    have X : Below w4.heap.size w4 w5 := by first | exact B | exact ext_trans (ext_alloc (ext_refl _) _) B | exact ext_trans (ext_alloc (ext_alloc (ext_refl _) _) _) B | exact ext_trans (ext_alloc (ext_alloc (ext_alloc (ext_refl _) _) _) _) B | exact ext_trans (ext_alloc (ext_alloc (ext_alloc (ext_alloc (ext_refl _) _) _) _) _) B
    have Ew5 := ext_trans Ew4 X
    replace hl := hl.ext X
    clear X B Ew4
    go_wp2_with fail
    refine (less_at (l := l) _ H2.out rfl (by first | exact hl | exact (hl).alloc _ | exact ((hl).alloc _).alloc _ | exact (((hl).alloc _).alloc _).alloc _)).mono ?_
    rintro e w6 ⟨rfl, B⟩
    have X : Below w5.heap.size w5 w6 := by first | exact B | exact ext_trans (ext_alloc (ext_refl _) _) B | exact ext_trans (ext_alloc (ext_alloc (ext_refl _) _) _) B | exact ext_trans (ext_alloc (ext_alloc (ext_alloc (ext_refl _) _) _) _) B | exact ext_trans (ext_alloc (ext_alloc (ext_alloc (ext_alloc (ext_refl _) _) _) _) _) B
    have Ew6 := ext_trans Ew5 X
    replace hl := hl.ext X
    clear X B Ew5
    go_wp2_with fail
    refine (at_at (l := l) _ H3.out rfl (by first | exact hl | exact (hl).alloc _ | exact ((hl).alloc _).alloc _ | exact (((hl).alloc _).alloc _).alloc _)).mono ?_
    rintro e w7 ⟨rfl, B⟩
    have X : Below w6.heap.size w6 w7 := by first | exact B | exact ext_trans (ext_alloc (ext_refl _) _) B | exact ext_trans (ext_alloc (ext_alloc (ext_refl _) _) _) B | exact ext_trans (ext_alloc (ext_alloc (ext_alloc (ext_refl _) _) _) _) B | exact ext_trans (ext_alloc (ext_alloc (ext_alloc (ext_alloc (ext_refl _) _) _) _) _) B
    have Ew7 := ext_trans Ew6 X
    replace hl := hl.ext X
    clear X B Ew6
    go_wp2_with fail
    refine (at_at (l := l) _ H4.out rfl (by first | exact hl | exact (hl).alloc _ | exact ((hl).alloc _).alloc _ | exact (((hl).alloc _).alloc _).alloc _)).mono ?_
    rintro e w8 ⟨rfl, B⟩
    have X : Below w7.heap.size w7 w8 := by first | exact B | exact ext_trans (ext_alloc (ext_refl _) _) B | exact ext_trans (ext_alloc (ext_alloc (ext_refl _) _) _) B | exact ext_trans (ext_alloc (ext_alloc (ext_alloc (ext_refl _) _) _) _) B | exact ext_trans (ext_alloc (ext_alloc (ext_alloc (ext_alloc (ext_refl _) _) _) _) _) B
    have Ew8 := ext_trans Ew7 X
    clear X B Ew7 hl
    go_wp2_with fail
    go_ret
    exact ⟨rfl, Ew8⟩
  · have hec := h6 (by omega)
    subst hec
    clear h5 h6
    go_enter Try.func6, Try.ntmps6
    go_wp2_with fail
    refine (sane_any _).mono ?_
    rintro e w1 ⟨rfl, B⟩
    have X : Below w.heap.size w w1 := by first | exact B | exact ext_trans (ext_alloc (ext_refl _) _) B | exact ext_trans (ext_alloc (ext_alloc (ext_refl _) _) _) B | exact ext_trans (ext_alloc (ext_alloc (ext_alloc (ext_refl _) _) _) _) B | exact ext_trans (ext_alloc (ext_alloc (ext_alloc (ext_alloc (ext_refl _) _) _) _) _) B
    have Ew1 := ext_trans (ext_refl w) X
    clear X B
    replace hl := hl.ext Ew1
    go_wp2_with fail
    refine (few_b rfl (by first | exact hl | exact (hl).alloc _ | exact ((hl).alloc _).alloc _ | exact (((hl).alloc _).alloc _).alloc _)).mono ?_
    rintro e w2 ⟨⟨rf, rfl⟩, B⟩
    have X : Below w1.heap.size w1 w2 := by first | exact B | exact ext_trans (ext_alloc (ext_refl _) _) B | exact ext_trans (ext_alloc (ext_alloc (ext_refl _) _) _) B | exact ext_trans (ext_alloc (ext_alloc (ext_alloc (ext_refl _) _) _) _) B | exact ext_trans (ext_alloc (ext_alloc (ext_alloc (ext_alloc (ext_refl _) _) _) _) _) B
    have Ew2 := ext_trans Ew1 X
    replace hl := hl.ext X
    clear X B Ew1
    cases rf
    · go_wp2_with fail
      go_ret
      exact ⟨rfl, Ew2⟩
    go_wp2_with fail
    refine (at_at (l := l) _ HP.out rfl (by first | exact hl | exact (hl).alloc _ | exact ((hl).alloc _).alloc _ | exact (((hl).alloc _).alloc _).alloc _)).mono ?_
    rintro e w3 ⟨rfl, B⟩
    have X : Below w2.heap.size w2 w3 := by first | exact B | exact ext_trans (ext_alloc (ext_refl _) _) B | exact ext_trans (ext_alloc (ext_alloc (ext_refl _) _) _) B | exact ext_trans (ext_alloc (ext_alloc (ext_alloc (ext_refl _) _) _) _) B | exact ext_trans (ext_alloc (ext_alloc (ext_alloc (ext_alloc (ext_refl _) _) _) _) _) B
    have Ew3 := ext_trans Ew2 X
    replace hl := hl.ext X
    clear X B Ew2
    go_wp2_with fail
    refine (at_at (l := l) _ HQ.out rfl (by first | exact hl | exact (hl).alloc _ | exact ((hl).alloc _).alloc _ | exact (((hl).alloc _).alloc _).alloc _)).mono ?_
    rintro e w4 ⟨rfl, B⟩
    have X : Below w3.heap.size w3 w4 := by first | exact B | exact ext_trans (ext_alloc (ext_refl _) _) B | exact ext_trans (ext_alloc (ext_alloc (ext_refl _) _) _) B | exact ext_trans (ext_alloc (ext_alloc (ext_alloc (ext_refl _) _) _) _) B | exact ext_trans (ext_alloc (ext_alloc (ext_alloc (ext_alloc (ext_refl _) _) _) _) _) B
    have Ew4 := ext_trans Ew3 X
    replace hl := hl.ext X
    clear X B Ew3
    go_wp2_with fail
    refine (less_at (l := l) _ H1.out rfl (by first | exact hl | exact (hl).alloc _ | exact ((hl).alloc _).alloc _ | exact (((hl).alloc _).alloc _).alloc _)).mono ?_
    rintro e w5 ⟨rfl, B⟩
    have X : Below w4.heap.size w4 w5 := by first | exact B | exact ext_trans (ext_alloc (ext_refl _) _) B | exact ext_trans (ext_alloc (ext_alloc (ext_refl _) _) _) B | exact ext_trans (ext_alloc (ext_alloc (ext_alloc (ext_refl _) _) _) _) B | exact ext_trans (ext_alloc (ext_alloc (ext_alloc (ext_alloc (ext_refl _) _) _) _) _) B
    have Ew5 := ext_trans Ew4 X
    replace hl := hl.ext X
    clear X B Ew4
    go_wp2_with fail
    refine (less_at (l := l) _ H2.out rfl (by first | exact hl | exact (hl).alloc _ | exact ((hl).alloc _).alloc _ | exact (((hl).alloc _).alloc _).alloc _)).mono ?_
    rintro e w6 ⟨rfl, B⟩
    have X : Below w5.heap.size w5 w6 := by first | exact B | exact ext_trans (ext_alloc (ext_refl _) _) B | exact ext_trans (ext_alloc (ext_alloc (ext_refl _) _) _) B | exact ext_trans (ext_alloc (ext_alloc (ext_alloc (ext_refl _) _) _) _) B | exact ext_trans (ext_alloc (ext_alloc (ext_alloc (ext_alloc (ext_refl _) _) _) _) _) B
    have Ew6 := ext_trans Ew5 X
    replace hl := hl.ext X
    clear X B Ew5
    go_wp2_with fail
    refine (at_at (l := l) _ H3.out rfl (by first | exact hl | exact (hl).alloc _ | exact ((hl).alloc _).alloc _ | exact (((hl).alloc _).alloc _).alloc _)).mono ?_
    rintro e w7 ⟨rfl, B⟩
    have X : Below w6.heap.size w6 w7 := by first | exact B | exact ext_trans (ext_alloc (ext_refl _) _) B | exact ext_trans (ext_alloc (ext_alloc (ext_refl _) _) _) B | exact ext_trans (ext_alloc (ext_alloc (ext_alloc (ext_refl _) _) _) _) B | exact ext_trans (ext_alloc (ext_alloc (ext_alloc (ext_alloc (ext_refl _) _) _) _) _) B
    have Ew7 := ext_trans Ew6 X
    replace hl := hl.ext X
    clear X B Ew6
    go_wp2_with fail
    refine (at_at (l := l) _ H4.out rfl (by first | exact hl | exact (hl).alloc _ | exact ((hl).alloc _).alloc _ | exact (((hl).alloc _).alloc _).alloc _)).mono ?_
    rintro e w8 ⟨rfl, B⟩
    have X : Below w7.heap.size w7 w8 := by first | exact B | exact ext_trans (ext_alloc (ext_refl _) _) B | exact ext_trans (ext_alloc (ext_alloc (ext_refl _) _) _) B | exact ext_trans (ext_alloc (ext_alloc (ext_alloc (ext_refl _) _) _) _) B | exact ext_trans (ext_alloc (ext_alloc (ext_alloc (ext_alloc (ext_refl _) _) _) _) _) B
    have Ew8 := ext_trans Ew7 X
    clear X B Ew7 hl
    go_wp2_with fail
    go_ret
    exact ⟨rfl, Ew8⟩
end Go.Proofs.Ytemdebheinbolaa
