/- Is a cut wrong; is a node valid; the reference's Check. -/
import Derived.Test.YtemdebheinbolaaA
namespace Go.Proofs.Ytemdebheinbolaa
open Go.RowKit
theorem in_at {n a b : Int} {w : World} (r : Bool) (hr : (decide (a ≤ n) && decide (n ≤ b)) = r) : Calls Try.prog 29 #[.int .i64 n, .int .i64 a, .int .i64 b] w fun e w' => e = .returned (.bool r) ∧ w = w' := by
  subst hr; exact in_any n a b w
set_option maxHeartbeats 800000 in
theorem badcut_any (c : Cut) (b : Nat) (n : Int) (w : World) (hb : b < w.heap.size) (hn : w.cell? ⟨b, 1, none⟩ = some (.int .i64 n)) :
    Calls Try.prog 31 #[c.v, .pointer (some ⟨b, 0, none⟩)] w fun e w' => e = .returned (.bool (badC n c)) ∧ Below w.heap.size w w' := by
  obtain ⟨r1, hr1⟩ : ∃ r, (decide (0 ≤ c.ix) && decide (c.ix ≤ (if c.air then 15 else 63))) = r := ⟨_, rfl⟩
  obtain ⟨r2, hr2⟩ : ∃ r, (decide (0 ≤ c.less) && decide (c.less ≤ 64)) = r := ⟨_, rfl⟩
  have hbad : badC n c = (!r1 || !r2 || decide (c.f < n) || decide (c.t ≤ c.f) || decide (1440 < c.t)) := by unfold badC; rw [hr1, hr2]
  have HB := Lib.hid hbad
  clear hbad
  have HW : Hid (Below w.heap.size w (w.alloc (.cells #[.bool c.air, .int .i64 c.ix, .int .i64 c.f, .int .i64 c.t, .int .i64 c.less] 47))) := ext_alloc (ext_refl w) _
  have hn2 := (HW.out.cell (p := ⟨b, 1, none⟩) hb).trans hn
  have hb2 : b < (w.alloc (.cells #[.bool c.air, .int .i64 c.ix, .int .i64 c.f, .int .i64 c.t, .int .i64 c.less] 47)).heap.size := by simp; omega
  obtain ⟨air, ix, f, t, less⟩ := c
  simp only at hr1 hr2 HB HW hn2 hb2
  clear hn
  cases air
  all_goals
    simp only [if_true, Bool.false_eq_true, if_false] at hr1
    have H1 := Lib.hid hr1
    have H2 := Lib.hid hr2
    clear hr1 hr2
    cases r1
    · go_enter Try.func31, Try.ntmps31
      go_wp2_with fail
      refine (in_at false H1.out).mono ?_
      rintro e w1 ⟨rfl, rfl⟩
      go_wp2_with fail
      go_ret
      exact ⟨ret_bool (by rw [HB.out]; rfl), HW.out⟩
    cases r2
    · go_enter Try.func31, Try.ntmps31
      go_wp2_with fail
      refine (in_at true H1.out).mono ?_
      rintro e w1 ⟨rfl, rfl⟩
      go_wp2_with fail
      refine (in_at false H2.out).mono ?_
      rintro e w1 ⟨rfl, rfl⟩
      go_wp2_with fail
      go_ret
      exact ⟨ret_bool (by rw [HB.out]; rfl), HW.out⟩
    · go_enter Try.func31, Try.ntmps31
      go_wp2_with fail
      refine (in_at true H1.out).mono ?_
      rintro e w1 ⟨rfl, rfl⟩
      go_wp2_with fail
      refine (in_at true H2.out).mono ?_
      rintro e w1 ⟨rfl, rfl⟩
      go_wp2_with fail
      all_goals
        go_ret
        exact ⟨ret_bool (by rw [HB.out]; simp_all <;> omega), HW.out⟩
set_option maxHeartbeats 800000 in
theorem iscut_any (c : Cut) (n : Int) (w : World) : Calls Try.prog 41 #[c.v, .int .i64 n] w fun e w' => e = .returned (.bool (!badC n c)) ∧ Below w.heap.size w w' := by
  obtain ⟨air, ix, f, t, less⟩ := c
  cases air
  all_goals
    go_enter Try.func41, Try.ntmps41
    go_wp2_with fail
    all_goals
      go_ret
      exact ⟨ret_bool (by simp_all [badC] <;> first | omega | (rw [Bool.eq_iff_iff]; simp; omega)), ext_alloc (ext_refl w) _⟩
theorem iscut_at {c : Cut} {n : Int} {w : World} (r : Bool) (hr : (!badC n c) = r) : Calls Try.prog 41 #[.agg #[.bool c.air, .int .i64 c.ix, .int .i64 c.f, .int .i64 c.t, .int .i64 c.less], .int .i64 n] w fun e w' => e = .returned (.bool r) ∧ Below w.heap.size w w' := by
  subst hr; exact iscut_any c n w
end Go.Proofs.Ytemdebheinbolaa
