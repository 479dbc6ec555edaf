import Derived.Test.YtjebmcbpiobbaaaQ3
namespace Go.Proofs.Ytjebmcbpiobbaaa
open Go.RowKit

theorem rread_at {A : Option Addr} {c : Nat} {l : List Clr} {no : Int} {w : World} {n : Nat} (r : List Clr × Int) (hr : read l no = r) (hl : n = l.length) (ha : Slc w Clr.cells 9 A l) (hn : l.length < 1000000) :
    Calls Try.prog 20 #[.slice A n c, .int .i64 no] w (RetL w r) := by
  subst hr hl; exact rread_any A c l no w ha hn
theorem rwithdraw_at {A : Option Addr} {c : Nat} {l : List Clr} {no : Int} {w : World} {n : Nat} (r : List Clr × Int) (hr : withdraw l no = r) (hl : n = l.length) (ha : Slc w Clr.cells 9 A l) (hn : l.length < 1000000) :
    Calls Try.prog 22 #[.slice A n c, .int .i64 no] w (RetL w r) := by
  subst hr hl; exact rwithdraw_any A c l no w ha hn
theorem change_len (l : List Clr) (no : Int) (g : Clr → Clr × Int) : (change l no g).1.length ≤ l.length := by
  unfold change
  split
  · split
    · split
      · simp
      · split <;> simp
    · simp
  · simp
set_option maxHeartbeats 4000000 in
set_option maxRecDepth 100000 in
theorem law4 (A : Option Addr) (c : Nat) (l : List Clr) (no : Int) (w : World) (ha : Slc w Clr.cells 9 A l) :
    Calls Try.prog 4 #[.slice A l.length c, .int .i64 no] w (Tru w) := by
  obtain ⟨⟨xs, er⟩, hr⟩ : ∃ r, read l no = r := ⟨_, rfl⟩
  have HR := Lib.hid hr
  obtain ⟨⟨ys, ew⟩, hi⟩ : ∃ r, withdraw l no = r := ⟨_, rfl⟩
  have HI := Lib.hid hi
  have hlx : xs.length ≤ l.length := by have := change_len l no rdG; unfold read at hr; rw [hr] at this; exact this
  have hly : ys.length ≤ l.length := by have := change_len l no wdG; unfold withdraw at hi; rw [hi] at this; exact this
  clear hr hi
  go_enter Try.func4, Try.ntmps4
  go_wp2_with fail
  refine (sane_any _).mono ?_
  rintro e w1 ⟨rfl, hb1⟩
  go_wp2_with fail
  refine (few_any A l.length c _).mono ?_
  rintro e w1' ⟨rfl, rfl⟩
  by_cases hf : l.length ≤ 40
  · have hd : decide ((l.length : Int) ≤ 40) = true := by simp; omega
    rw [hd]
    clear hd
    go_wp2_with fail
    refine (read_at (xs, er) HR.out rfl (ha.ext hb1) (by omega)).mono ?_
    rintro e w2 ⟨A2, k2, rfl, S2, hk2, B2⟩
    have hb2 := ext_trans hb1 B2
    go_wp2_with fail
    refine (rread_at (xs, er) HR.out rfl (ha.ext hb2) (by omega)).mono ?_
    rintro e w3 ⟨A3, k3, rfl, S3, hk3, B3⟩
    have hb3 := ext_trans hb2 B3
    go_wp2_with fail
    refine (withdraw_at (ys, ew) HI.out rfl (ha.ext hb3) (by omega)).mono ?_
    rintro e w4 ⟨A4, k4, rfl, S4, hk4, B4⟩
    have hb4 := ext_trans hb3 B4
    go_wp2_with fail
    refine (rwithdraw_at (ys, ew) HI.out rfl (ha.ext hb4) (by omega)).mono ?_
    rintro e w5 ⟨A5, k5, rfl, S5, hk5, B5⟩
    have hb5 := ext_trans hb4 B5
    go_wp2_with fail
    refine (same_at (a := xs) (b := xs) true (by simp) rfl rfl ((S2.ext B3).ext (ext_trans B4 B5)) (S3.ext (ext_trans B4 B5)) (by omega)).mono ?_
    rintro e w6 ⟨rfl, B6⟩
    go_wp2_with fail
    refine (same_at (a := ys) (b := ys) true (by simp) rfl rfl (S4.ext (ext_trans B5 B6)) (S5.ext B6) (by omega)).mono ?_
    rintro e w7 ⟨rfl, B7⟩
    go_wp2_with fail
    go_ret
    exact ⟨by simp, ext_trans (ext_trans hb5 B6) B7⟩
  · have hd : decide ((l.length : Int) ≤ 40) = false := by simp; omega
    rw [hd]
    go_wp2_with fail
    go_ret
    exact ⟨rfl, hb1⟩
theorem walk4 (s : SliceOf Clr) (no : Int) (w : World) (ok : SliceOf.ok Clr.cells 9 (fun _ _ => True) w s) :
    Calls Try.prog 4 #[.slice s.A s.l.length s.c, .int .i64 no] w fun e w' => e = .returned (.bool true) ∧ Below w.heap.size w w' :=
  law4 s.A s.c s.l no w ok.1
end Go.Proofs.Ytjebmcbpiobbaaa
