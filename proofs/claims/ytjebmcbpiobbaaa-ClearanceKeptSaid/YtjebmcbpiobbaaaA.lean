import Derived.WalkKit
import Derived.WalkLawsBesides
import Derived.WalkSpells
import Derived.Deep.QuietTactic
import Derived.BigQuiet
import Derived.Lib.Hide
import Derived.Test.YtjebmcbpiobbaaaProg
import Derived.Test.YtjebmcbpiobbaaaPlain
namespace Go.Proofs.Ytjebmcbpiobbaaa
open Go.RowKit

theorem ret_bool {a b : Bool} (h : a = b) : Ending.returned (.bool a) = .returned (.bool b) := by rw [h]

abbrev Opt.v (o : Opt) : Value := .agg #[.int .i64 o.d, .int .i64 o.y, .int .i64 o.h, .bool o.c]

theorem few_any (a : Option Addr) (n c : Nat) (w : World) :
    Calls Try.prog 11 #[.slice a n c] w fun e w' => e = .returned (.bool (decide ((n : Int) ≤ 40))) ∧ w = w' := by
  go_enter Try.func11, Try.ntmps11
  go_wp2
  go_ret
  exact ⟨rfl, rfl⟩

set_option maxHeartbeats 400000 in
theorem rformed_any (o : Opt) (w : World) :
    Calls Try.prog 24 #[o.v] w fun e w' => e = .returned (.bool (fmd o)) ∧ Below w.heap.size w w' := by
  obtain ⟨d, y, h, c⟩ := o
  go_enter Try.func24, Try.ntmps24
  go_wp2
  all_goals
    go_ret
    exact ⟨ret_bool (by simp [fmd, *] <;> omega), (Below.refl _ _).alloc (Nat.le_refl _) _⟩

theorem steps_any (n s m : Int) (hs : 1 ≤ s) (w : World) :
    Calls Try.prog 33 #[.int .i64 n, .int .i64 s, .int .i64 m] w fun e w' => e = .returned (.bool (stp n s m)) ∧ w = w' := by
  have hs0 : (s == 0) = false := by simp; omega
  go_enter Try.func33, Try.ntmps33
  go_wp2
  all_goals
    go_ret
    exact ⟨ret_bool (by simp [stp, *] <;> omega), rfl⟩

set_option maxHeartbeats 400000 in
theorem formed_any (o : Opt) (w : World) :
    Calls Try.prog 28 #[o.v] w fun e w' => e = .returned (.bool (fmd o)) ∧ Below w.heap.size w w' := by
  obtain ⟨d, y, h, c⟩ := o
  cases c
  · go_enter Try.func28, Try.ntmps28
    go_wp2_with (go_at_call 33; refine (steps_any _ _ _ (by omega) _).mono ?_; rintro e w' ⟨rfl, rfl⟩)
    all_goals
      go_ret
      exact ⟨ret_bool (by simp [fmd_stp, *]), (Below.refl _ _).alloc (Nat.le_refl _) _⟩
  · go_enter Try.func28, Try.ntmps28
    go_wp2
    all_goals
      go_ret
      exact ⟨ret_bool (by simp [fmd_cancel, *] <;> omega), (Below.refl _ _).alloc (Nat.le_refl _) _⟩
end Go.Proofs.Ytjebmcbpiobbaaa
