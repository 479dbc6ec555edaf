import Derived.Test.YtjebmcbpiobbaaaQ4
import Derived.Test.YtjebmcbpiobbaaaPl
namespace Go.Proofs.Ytjebmcbpiobbaaa
open Go.RowKit

theorem few_yes {l : List Clr} (hf : l.length ≤ 40) : decide ((l.length : Int) ≤ 40) = true := by simp; omega
theorem few_no {l : List Clr} (hf : ¬ l.length ≤ 40) : decide ((l.length : Int) ≤ 40) = false := by simp; omega
theorem chkE_0 {l : List Clr} (h : chk l = true) : chkE l = 0 := by simp [chkE, h]
theorem chkE_1 {l : List Clr} (h : chk l = false) : chkE l = 340 := by simp [chkE, h]

theorem again_read {l : List Clr} {k : Nat} {x : Clr} (hv : Valid l) (hx : l[k]? = some x) (hw : x.wd = false) : read (l.set k { x with rd := true }) k = (l.set k { x with rd := true }, 0) := by
  rw [read_yes (valid_read hv hx hw) (set_at hx) hw]
  simp
theorem again_withdraw {l : List Clr} {k : Nat} {x : Clr} (hv : Valid l) (hx : l[k]? = some x) (hw : x.wd = false) : withdraw (l.set k { x with rd := true }) k = ([], 341) := by
  rw [withdraw_yes (valid_read hv hx hw) (set_at hx) hw]
  rfl
theorem gone_inForce {l : List Clr} {k : Nat} {x : Clr} (hv : Valid l) (hx : l[k]? = some x) (hw : x.wd = false) : (inForce (l.set k { x with wd := true }) x.fl).2 = false := by
  rw [inForce_false]
  intro i y hy hf
  rcases set_get hy with ⟨_, _, rfl⟩ | ⟨hne, hy'⟩
  · rfl
  · cases hyw : y.wd
    · rcases Nat.lt_or_ge i k with h | h
      · have := (hv k x hx).one i y h hy' hf hyw; rw [hw] at this; cases this
      · have := (hv i y hy').one k x (by omega) hx hf.symm hw; rw [hyw] at this; cases this
    · rfl

set_option maxHeartbeats 8000000 in
set_option maxRecDepth 100000 in
theorem law7 (A : Option Addr) (c : Nat) (l : List Clr) (no : Int) (w : World) (ha : Slc w Clr.cells 9 A l) :
    Calls Try.prog 7 #[.slice A l.length c, .int .i64 no] w (Tru w) := by
  go_enter Try.func7, Try.ntmps7
  go_wp2_with fail
  refine (sane_any _).mono ?_
  rintro e w1 ⟨rfl, hb1⟩
  go_wp2_with fail
  refine (few_any A l.length c _).mono ?_
  rintro e w1' ⟨rfl, rfl⟩
  by_cases hf : l.length ≤ 40
  rotate_left
  · rw [few_no hf]
    go_wp2_with fail
    go_ret
    exact ⟨rfl, hb1⟩
  rw [few_yes hf]
  go_wp2_with fail
  refine (check_any A c l _ (ha.ext hb1) (by omega)).mono ?_
  rintro e w2 ⟨rfl, B2⟩
  have hb2 := ext_trans hb1 B2
  cases hch : chk l
  · rw [chkE_1 hch]
    go_wp2_with fail
    go_ret
    exact ⟨rfl, hb2⟩
  rw [chkE_0 hch]
  have hv := Lib.hid ((chk_iff l).1 hch)
  by_cases ho : no < 0 ∨ (l.length : Int) ≤ no
  · rcases ho with ho | ho
    all_goals
      go_wp2_with fail
      go_ret
      exact ⟨rfl, hb2⟩
  obtain ⟨k, rfl⟩ : ∃ k : Nat, no = k := ⟨no.toNat, by omega⟩
  have hlt : k < l.length := by omega
  have hlt' : (k : Int) < l.length := by omega
  clear ho
  obtain ⟨x, b1, o1, hx, rfl, hbb, hc⟩ := (ha.ext hb2).at_ hlt
  have HX := Lib.hid hx
  have HCC := Lib.hid hc
  have c8 := hc 8 _ rfl
  clear hx hc
  cases hw : x.wd
  rotate_left
  · go_wp2_with fail
    go_ret
    exact ⟨rfl, hb2⟩
  go_wp2_with fail
  refine (read_at (l.set k { x with rd := true }, 0) (read_yes hv.out HX.out hw) rfl (ha.ext hb2) (by omega)).mono ?_
  rintro e w3 ⟨A3, k3, rfl, S3, hk3, B3⟩
  have hl3 : (l.set k { x with rd := true }).length < 1000000 := by rw [List.length_set]; omega
  go_wp2_with fail
  refine (read_at (l.set k { x with rd := true }, 0) (again_read hv.out HX.out hw) (by simp) S3 hl3).mono ?_
  rintro e w4 ⟨A4, k4, rfl, S4, hk4, B4⟩
  go_wp2_with fail
  refine (withdraw_at ([], 341) (again_withdraw hv.out HX.out hw) (by simp) (S3.ext B4) hl3).mono ?_
  rintro e w5 ⟨A5, k5, rfl, S5, hk5, B5⟩
  have hb5 := ext_trans (ext_trans (ext_trans hb2 B3) B4) B5
  have c7 := ((ext_trans (ext_trans B3 B4) B5).cell (p := ⟨b1, o1 + k * 9 + 7, none⟩) hbb).trans (HCC.out 7 _ rfl)
  have c1 := ((ext_trans (ext_trans B3 B4) B5).cell (p := ⟨b1, o1 + k * 9 + 1, none⟩) hbb).trans (HCC.out 1 _ rfl)
  have hbb5 : b1 < w5.heap.size := Nat.lt_of_lt_of_le hbb (ext_trans (ext_trans B3 B4) B5).size
  cases hr : x.rd
  · go_wp2_with fail
    refine (withdraw_at (l.set k { x with wd := true }, 0) (by rw [withdraw_yes hv.out HX.out hw, hr]; rfl) rfl (ha.ext hb5) (by omega)).mono ?_
    rintro e w6 ⟨A6, k6, rfl, S6, hk6, B6⟩
    have hl6 : (l.set k { x with wd := true }).length < 1000000 := by rw [List.length_set]; omega
    have VW := Lib.hid (valid_withdraw hv.out HX.out hr)
    go_wp2_with fail
    refine (same_at (a := l.set k { x with rd := true }) (b := l.set k { x with rd := true }) true (by simp) (by simp) (by simp) (S3.ext (ext_trans (ext_trans B4 B5) B6)) (S4.ext (ext_trans B5 B6)) hl3).mono ?_
    rintro e w7 ⟨rfl, B7⟩
    have d7 := ((ext_trans B6 B7).cell (p := ⟨b1, o1 + k * 9 + 7, none⟩) hbb5).trans c7
    have d1 := ((ext_trans B6 B7).cell (p := ⟨b1, o1 + k * 9 + 1, none⟩) hbb5).trans c1
    clear c7 c1
    go_wp2_with fail
    refine (inForce_at ((inForce (l.set k { x with wd := true }) x.fl).1, false) (Prod.ext rfl (gone_inForce hv.out HX.out hw)) (by simp) (S6.ext B7) hl6).mono ?_
    rintro e w8 ⟨rfl, B8⟩
    generalize (inForce (l.set k { x with wd := true }) x.fl).1 = ci
    go_wp2_with fail
    refine (read_at ([], 340) (change_no VW.out (set_at HX.out) rfl) (by simp) (((S6.ext B7).ext B8).alloc _) hl6).mono ?_
    rintro e w9 ⟨A9, k9, rfl, S9, hk9, B9⟩
    have B89 := ext_trans (ext_alloc (ext_refl w8) _) B9
    clear B9
    go_wp2_with fail
    refine (withdraw_at ([], 340) (change_no VW.out (set_at HX.out) rfl) (by simp) (((S6.ext B7).ext B8).ext B89) hl6).mono ?_
    rintro e w10 ⟨A10, k10, rfl, S10, hk10, B10⟩
    go_wp2_with fail
    go_ret
    exact ⟨rfl, ext_trans (ext_trans (ext_trans (ext_trans (ext_trans hb5 B6) B7) B8) B89) B10⟩
  · go_wp2_with fail
    refine (withdraw_at ([], 341) (by rw [withdraw_yes hv.out HX.out hw, hr]; rfl) rfl (ha.ext hb5) (by omega)).mono ?_
    rintro e w6 ⟨A6, k6, rfl, S6, hk6, B6⟩
    go_wp2_with fail
    refine (same_at (a := l.set k { x with rd := true }) (b := l.set k { x with rd := true }) true (by simp) (by simp) (by simp) (S3.ext (ext_trans (ext_trans B4 B5) B6)) (S4.ext (ext_trans B5 B6)) hl3).mono ?_
    rintro e w7 ⟨rfl, B7⟩
    have d7 := ((ext_trans B6 B7).cell (p := ⟨b1, o1 + k * 9 + 7, none⟩) hbb5).trans c7
    clear c7 c1
    go_wp2_with fail
    refine (same_at (a := l.set k { x with rd := true }) (b := l) true (decide_eq_true (set_same HX.out (by rw [← hr]))) (by simp) rfl ((S3.ext (ext_trans (ext_trans B4 B5) B6)).ext B7) (ha.ext (ext_trans (ext_trans hb5 B6) B7)) hl3).mono ?_
    rintro e w8 ⟨rfl, B8⟩
    go_wp2_with fail
    go_ret
    exact ⟨rfl, ext_trans (ext_trans (ext_trans hb5 B6) B7) B8⟩
theorem walk7 (s : SliceOf Clr) (no : Int) (w : World) (ok : SliceOf.ok Clr.cells 9 (fun _ _ => True) w s) :
    Calls Try.prog 7 #[.slice s.A s.l.length s.c, .int .i64 no] w fun e w' => e = .returned (.bool true) ∧ Below w.heap.size w w' :=
  law7 s.A s.c s.l no w ok.1
end Go.Proofs.Ytjebmcbpiobbaaa
