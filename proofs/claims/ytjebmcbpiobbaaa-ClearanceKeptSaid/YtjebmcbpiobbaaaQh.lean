import Derived.Test.YtjebmcbpiobbaaaO
import Derived.Test.YtjebmcbpiobbaaaPk
import Derived.Test.YtjebmcbpiobbaaaRd2
namespace Go.Proofs.Ytjebmcbpiobbaaa
open Go.RowKit

def Mv.cells (v : Mv) : List Value := [.int .u8 v.kind, .int .u8 v.fl, .int .u8 v.no, .int .i64 v.o.d, .int .i64 v.o.y, .int .i64 v.o.h, .bool v.o.c, .int .i64 v.m]
abbrev Mv.v (v : Mv) : Value := .agg #[.int .u8 v.kind, .int .u8 v.fl, .int .u8 v.no, .int .i64 v.o.d, .int .i64 v.o.y, .int .i64 v.o.h, .bool v.o.c, .int .i64 v.m]

set_option maxHeartbeats 1600000 in
theorem happens_any (A : Option Addr) (c : Nat) (l : List Clr) (v : Mv) (w : World) (hv : v.wf) (ha : Slc w Clr.cells 9 A l) (hn : l.length < 1000000) (hc : l.length ≤ c) :
    Calls Try.prog 23 #[.slice A l.length c, v.v] w (RetL w (happen l v)) := by
  obtain ⟨h0, h1, h2, h3, h4, h5⟩ := hv
  have hB := ext_alloc (ext_refl w) (.cells v.cells.toArray 41)
  by_cases hk1 : v.kind % 3 = 1
  · have hr : Hid (happen l v = read l v.no) := by unfold happen; rw [if_pos hk1]; rfl
    have e1 : (v.kind % 3 == 1) = true := by simp [hk1]
    clear hk1
    go_enter Try.func23, Try.ntmps23
    go_wp2_with fail
    refine (read_any A c l v.no _ (ha.alloc _) hn).mono ?_
    rintro e w1 ⟨A1, c1, rfl, S1, hk, B1⟩
    go_wp2_with fail
    go_ret2
    rw [hr.out]
    exact ⟨A1, c1, rfl, S1, hk, ext_trans hB B1⟩
  · by_cases hk2 : v.kind % 3 = 2
    · have hr : Hid (happen l v = withdraw l v.no) := by unfold happen; rw [if_neg hk1, if_pos hk2]; rfl
      have e1 : (v.kind % 3 == 1) = false := by simp [hk1]
      have e2 : (v.kind % 3 == 2) = true := by simp [hk2]
      clear hk1 hk2
      go_enter Try.func23, Try.ntmps23
      go_wp2_with fail
      refine (withdraw_any A c l v.no _ (ha.alloc _) hn).mono ?_
      rintro e w1 ⟨A1, c1, rfl, S1, hk, B1⟩
      go_wp2_with fail
      go_ret2
      rw [hr.out]
      exact ⟨A1, c1, rfl, S1, hk, ext_trans hB B1⟩
    · have hr : Hid (happen l v = issue l v.fl v.o v.m) := by unfold happen; rw [if_neg hk1, if_neg hk2]; rfl
      have e1 : (v.kind % 3 == 1) = false := by simp [hk1]
      have e2 : (v.kind % 3 == 2) = false := by simp [hk2]
      clear hk1 hk2
      go_enter Try.func23, Try.ntmps23
      go_wp2_with fail
      refine (issue_any A c l v.fl v.m v.o _ (ha.alloc _) hn hc).mono ?_
      rintro e w1 ⟨A1, c1, rfl, S1, hk, B1⟩
      go_wp2_with fail
      go_ret2
      rw [hr.out]
      exact ⟨A1, c1, rfl, S1, hk, ext_trans hB B1⟩
end Go.Proofs.Ytjebmcbpiobbaaa
